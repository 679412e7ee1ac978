/- The document's own: is a name in a list; what is wrong with two sets. The document's Minus: what of one set is not in another. ident.Read: the next name that a reader has. dots.Read: the next set that a reader has. -/
import Derived.Test.YtelipindcacphaaDoorM25
import Derived.Test.YtelipindcacphaaDoorM16
namespace Go.Proofs.YtelipindcacphaaDoor
open Go.RowKit

end Go.Proofs.YtelipindcacphaaDoor
namespace Go.Proofs.YtelipindcacphaaDoor
open Go.RowKit

/-- A list as a call leaves it. -/
def GotI (w : World) (A : Option Addr) (n : Nat) (xs : List Im) : Prop := RdI w w.heap.size A n xs ∧ n ≤ maxLen
theorem GotI.below {w w' : World} {A : Option Addr} {n : Nat} {xs : List Im} (h : GotI w A n xs) (hb : Below w.heap.size w w') : GotI w' A n xs := ⟨(h.1.below hb).more hb.size, h.2⟩
theorem gotI_nil (w : World) : GotI w none 0 [] := ⟨Rd.nil_, Nat.zero_le _⟩
theorem gotI_own {w : World} {base : Nat} {A : Option Addr} {n c : Nat} {xs : List Im} (h : Ow w base 25 2 (.slice A n c) (xs.map Im.enc)) : GotI w A n xs := ⟨h.rd.1, Nat.le_trans h.rd.2.2.1 h.rd.2.2.2⟩

end Go.Proofs.YtelipindcacphaaDoor
namespace Go.Proofs.YtelipindcacphaaDoor
open Go.RowKit

theorem failS_fe {S : Rs} {e : Int} (he : e ≠ 0) : (failS S e).fe ≠ 0 := by
  unfold failS
  split
  · exact he
  · rename_i h
    exact fun h0 => h ⟨h0, he⟩
theorem intS_err {S : Rs} {m : Nat} (h : (intS m S).1 ≠ 0) : (intS m S).2.fe = 0 := by
  unfold intS at *
  by_cases h0 : S.fe = 0
  · obtain ⟨v, n, e, hr⟩ : ∃ v n e, numR (S.l.drop S.a) = (v, n, e) := ⟨_, _, _, rfl⟩
    rw [nextS_eq h0 hr] at h ⊢
    by_cases he : e = 0
    · subst he
      by_cases hz : m < v
      · simp [hz] at h
      · simp [hz, h0]
    · simp [he] at h
  · rw [nextS_bad h0] at h
    exact absurd rfl h
/-- The next name of a reader. -/
def readI (S : Rs) : Im × Rs :=
  let p := intS 7 S
  let q := intS 1048576 p.2
  if q.1 = 0 then ((0, 0), failS q.2 2) else (((p.1 : Int), (q.1 : Int)), q.2)
theorem readI_wf {S : Rs} (h : S.wf) : (readI S).2.wf ∧ (readI S).1.wf := by
  have h1 := Rs.wf_next (Rs.wf_next h (fun v => if 7 < v then 2 else 0)) (fun v => if 1048576 < v then 2 else 0)
  have h2 := intS_le 1048576 (intS 7 S).2
  unfold readI
  dsimp only
  split
  · exact ⟨Rs.wf_fail h1 2, ⟨show (0 : Int) ≤ 0 by decide, show (0 : Int) < 4294967296 by decide⟩⟩
  · exact ⟨h1, ⟨by dsimp only; omega, by dsimp only; omega⟩⟩

end Go.Proofs.YtelipindcacphaaDoor
namespace Go.Proofs.YtelipindcacphaaDoor
open Go.RowKit

/-- A row stays where a block below it turns. -/
theorem Ow.keptB {w w' : World} {base b : Nat} {e : TypeId} {sz : Nat} {v : Value} {xs : List (List Value)} (h : Ow w base e sz v xs) (hg : w.grownBy w' (some b)) (hb : b < base) : Ow w' base e sz v xs := by
  refine ⟨h.1, h.2.kept hg ?_⟩
  rcases h.2.2 with ⟨rfl, _⟩ | ⟨g, cap, cur, rfl, hbg, _⟩
  · exact .inl rfl
  · refine .inr ?_
    simp only [Value.ownBlock, ne_eq, Option.some.injEq]
    omega
/-- What comes of a world that has grown, and then turns what is newer alone. -/
theorem gr_then {a w w' : World} {row row2 : Option Nat} (h : a.grownBy w row) (h2 : w.grownBy w' row2) (hr : ∀ g, row2 = some g → a.heap.size ≤ g) : a.grownBy w' row :=
  ⟨h2.os.trans h.os, h2.tape.trans h.tape, h2.output.trans h.output, Nat.le_trans h.size h2.size, fun k hk hne => (h2.block k (Nat.lt_of_lt_of_le hk h.size) (fun e => by have := hr k e.symm; omega)).trans (h.block k hk hne)⟩
/-- So many names of a reader. -/
def readIs : Nat → Rs → List Im × Rs
  | 0, S => ([], S)
  | n + 1, S => ((readIs n S).1 ++ [(readI (readIs n S).2).1], (readI (readIs n S).2).2)
/-- The next set of a reader. -/
def readD (S : Rs) : List Im × Rs :=
  let p := intS 64 S
  let q := readIs p.1 p.2
  let T := failS q.2 (lerr q.1)
  if T.fe ≠ 0 then ([], T) else (q.1, T)
theorem readIs_len (S : Rs) : ∀ n, (readIs n S).1.length = n
  | 0 => rfl
  | n + 1 => by simp [readIs, readIs_len S n]
theorem readIs_wf {S : Rs} (h : S.wf) : ∀ n, (readIs n S).2.wf ∧ ∀ x ∈ (readIs n S).1, x.wf
  | 0 => ⟨h, by simp [readIs]⟩
  | n + 1 => by
    obtain ⟨h1, h2⟩ := readIs_wf h n
    obtain ⟨h3, h4⟩ := readI_wf h1
    refine ⟨h3, fun x hx => ?_⟩
    rcases List.mem_append.1 hx with hx | hx
    · exact h2 x hx
    · rw [List.mem_singleton.1 hx]; exact h4
theorem readD_wf {S : Rs} (h : S.wf) : (readD S).2.wf := by
  have h1 := (readIs_wf (Rs.wf_next h (fun v => if 64 < v then 2 else 0)) (intS 64 S).1).1
  unfold readD
  dsimp only
  split
  · exact Rs.wf_fail h1 _
  · exact Rs.wf_fail h1 _

end Go.Proofs.YtelipindcacphaaDoor
