/- octet.number: the number at the front of bytes. The program's reader: what it holds, Fail. The program's reader: next, Num, Int. The document's own: is a name in a list; what is wrong with two sets. The document's Minus: what of one set is not in another. ident.Read: the next name that a reader has. dots.Read: the next set that a reader has. -/
import Derived.Test.YtpolplmniaoikaaDoorN04
import Derived.Laws.BitsAllLaws
import Derived.Deep.QuietTactic
import Derived.Shelf.Abstract
import Derived.Test.YtpolplmniaoikaaDoorN05
namespace Go.Proofs.YtpolplmniaoikaaDoor
open Go.RowKit

theorem ba_len (s : ByteArray) : s.data.toList.length = s.size := by rw [Array.length_toList]; rfl
theorem ba_get (s : ByteArray) {i : Nat} (h : i < s.size) : s.data.toList[i]? = some s[i] := by
  rw [List.getElem?_eq_getElem (by rw [ba_len]; exact h)]
  rfl
theorem ba_ne {s : ByteArray} (h : 0 < s.size) : s.toList.isEmpty = false := by
  rw [ByteArray.toList_eq, List.isEmpty_eq_false_iff]
  intro h0
  have := ba_len s
  rw [h0] at this
  simp at this; omega
theorem or256 (v c : Nat) (hv : v < 72057594037927936) (hc : c < 256) : bits .or .u64 ((v : Int) * 256) (c : Int) = ((v * 256 + c : Nat) : Int) := by
  have h := u64_or_nat (v * 256) c (by omega) (by omega)
  rw [show ((v * 256 : Nat) : Int) = (v : Int) * 256 from by omega] at h
  rw [h]
  congr 1
  rw [show v * 256 = v <<< 8 from by rw [Nat.shiftLeft_eq], Nat.shiftLeft_add_eq_or_of_lt (by simpa using hc)]

end Go.Proofs.YtpolplmniaoikaaDoor
namespace Go.Proofs.YtpolplmniaoikaaDoor
open Go.RowKit

end Go.Proofs.YtpolplmniaoikaaDoor
namespace Go.Proofs.YtpolplmniaoikaaDoor
open Go.RowKit

/-- A function value that tells of numbers whether they are right. -/
def RightF (g : Nat) (pre : Array Value) (right : Nat → Int) : Prop :=
  ∀ v : Nat, v < 18446744073709551616 → ∀ w, Calls Tryd.prog g (pre ++ #[.int .u64 (v : Int)]) w fun e w' => e = .returned (.int .i64 (right v)) ∧ w = w'
theorem bs_drop (l : List UInt8) {a : Nat} : (bs l).extract a (bs l).size = bs (l.drop a) := by
  apply ByteArray.ext
  rw [ByteArray.data_extract, bs_size]
  simp [bs]
  rw [List.take_of_length_le (by simp)]
theorem Rs.wf_fail {S : Rs} (h : S.wf) (e : Int) : (failS S e).wf := by
  unfold failS
  obtain ⟨h1, h2, h3, h4, h5⟩ := h
  split
  · rename_i hh
    exact ⟨h1, h2, by simp, by simp; omega, fun h => absurd h hh.2⟩
  · exact ⟨h1, h2, h3, h4, h5⟩
theorem nextS_eq {S : Rs} {right : Nat → Int} {v n : Nat} {e : Int} (h0 : S.fe = 0) (hr : numR (S.l.drop S.a) = (v, n, e)) :
    nextS right S = if (if e = 0 then right v else e) ≠ 0 then (0, failS S (if e = 0 then right v else e)) else (v, { S with a := S.a + n }) := by
  unfold nextS
  rw [if_neg (by simp [h0])]
  simp only [hr]
theorem nextS_bad {S : Rs} {right : Nat → Int} (h0 : S.fe ≠ 0) : nextS right S = (0, S) := by
  unfold nextS
  rw [if_pos h0]
theorem Rs.wf_next {S : Rs} (h : S.wf) (right : Nat → Int) : (nextS right S).2.wf := by
  by_cases h0 : S.fe = 0
  · obtain ⟨v, n, e, hr⟩ : ∃ v n e, numR (S.l.drop S.a) = (v, n, e) := ⟨_, _, _, rfl⟩
    have h2 := numR_some hr
    rw [nextS_eq h0 hr]
    by_cases he : e = 0
    · subst he
      by_cases hz : right v = 0
      · rw [if_neg (by simp [hz])]
        have h4 := (h2.2 rfl).1
        rw [List.length_drop] at h4
        obtain ⟨g1, g2, g3, g4, g5⟩ := h
        exact ⟨by simp; omega, g2, g3, g4, g5⟩
      · rw [if_pos (by simpa using hz)]
        exact Rs.wf_fail h _
    · rw [if_pos (by simp [he])]
      exact Rs.wf_fail h _
  · rw [nextS_bad h0]; exact h

theorem intS_le (m : Nat) (S : Rs) : (intS m S).1 ≤ m := by
  unfold intS
  by_cases h0 : S.fe = 0
  · obtain ⟨v, n, e, hr⟩ : ∃ v n e, numR (S.l.drop S.a) = (v, n, e) := ⟨_, _, _, rfl⟩
    rw [nextS_eq h0 hr]
    by_cases he : e = 0
    · subst he
      by_cases hz : m < v
      · rw [if_pos (by simp [hz])]; exact Nat.zero_le _
      · rw [if_neg (by simp [hz])]; omega
    · rw [if_pos (by simp [he])]; exact Nat.zero_le _
  · rw [nextS_bad h0]; exact Nat.zero_le _
end Go.Proofs.YtpolplmniaoikaaDoor
namespace Go.Proofs.YtpolplmniaoikaaDoor
open Go.RowKit

end Go.Proofs.YtpolplmniaoikaaDoor
namespace Go.Proofs.YtpolplmniaoikaaDoor
open Go.RowKit

/-- A list as a call leaves it. -/
def GotI (w : World) (A : Option Addr) (n : Nat) (xs : List Im) : Prop := RdI w w.heap.size A n xs ∧ n ≤ maxLen
theorem GotI.below {w w' : World} {A : Option Addr} {n : Nat} {xs : List Im} (h : GotI w A n xs) (hb : Below w.heap.size w w') : GotI w' A n xs := ⟨(h.1.below hb).more hb.size, h.2⟩
theorem gotI_nil (w : World) : GotI w none 0 [] := ⟨Rd.nil_, Nat.zero_le _⟩
theorem gotI_own {w : World} {base : Nat} {A : Option Addr} {n c : Nat} {xs : List Im} (h : Ow w base 24 2 (.slice A n c) (xs.map Im.enc)) : GotI w A n xs := ⟨h.rd.1, Nat.le_trans h.rd.2.2.1 h.rd.2.2.2⟩

end Go.Proofs.YtpolplmniaoikaaDoor
namespace Go.Proofs.YtpolplmniaoikaaDoor
open Go.RowKit

theorem failS_fe {S : Rs} {e : Int} (he : e ≠ 0) : (failS S e).fe ≠ 0 := by
  unfold failS
  split
  · exact he
  · rename_i h
    exact fun h0 => h ⟨h0, he⟩
theorem intS_err {S : Rs} {m : Nat} (h : (intS m S).1 ≠ 0) : (intS m S).2.fe = 0 := by
  unfold intS at *
  by_cases h0 : S.fe = 0
  · obtain ⟨v, n, e, hr⟩ : ∃ v n e, numR (S.l.drop S.a) = (v, n, e) := ⟨_, _, _, rfl⟩
    rw [nextS_eq h0 hr] at h ⊢
    by_cases he : e = 0
    · subst he
      by_cases hz : m < v
      · simp [hz] at h
      · simp [hz, h0]
    · simp [he] at h
  · rw [nextS_bad h0] at h
    exact absurd rfl h
/-- The next name of a reader. -/
def readI (S : Rs) : Im × Rs :=
  let p := intS 7 S
  let q := intS 1048576 p.2
  if q.1 = 0 then ((0, 0), failS q.2 2) else (((p.1 : Int), (q.1 : Int)), q.2)
theorem readI_wf {S : Rs} (h : S.wf) : (readI S).2.wf ∧ (readI S).1.wf := by
  have h1 := Rs.wf_next (Rs.wf_next h (fun v => if 7 < v then 2 else 0)) (fun v => if 1048576 < v then 2 else 0)
  have h2 := intS_le 1048576 (intS 7 S).2
  unfold readI
  dsimp only
  split
  · exact ⟨Rs.wf_fail h1 2, ⟨show (0 : Int) ≤ 0 by decide, show (0 : Int) < 4294967296 by decide⟩⟩
  · exact ⟨h1, ⟨by dsimp only; omega, by dsimp only; omega⟩⟩

end Go.Proofs.YtpolplmniaoikaaDoor
namespace Go.Proofs.YtpolplmniaoikaaDoor
open Go.RowKit

/-- A row stays where a block below it turns. -/
theorem Ow.keptB {w w' : World} {base b : Nat} {e : TypeId} {sz : Nat} {v : Value} {xs : List (List Value)} (h : Ow w base e sz v xs) (hg : w.grownBy w' (some b)) (hb : b < base) : Ow w' base e sz v xs := by
  refine ⟨h.1, h.2.kept hg ?_⟩
  rcases h.2.2 with ⟨rfl, _⟩ | ⟨g, cap, cur, rfl, hbg, _⟩
  · exact .inl rfl
  · refine .inr ?_
    simp only [Value.ownBlock, ne_eq, Option.some.injEq]
    omega
/-- What comes of a world that has grown, and then turns what is newer alone. -/
theorem gr_then {a w w' : World} {row row2 : Option Nat} (h : a.grownBy w row) (h2 : w.grownBy w' row2) (hr : ∀ g, row2 = some g → a.heap.size ≤ g) : a.grownBy w' row :=
  ⟨h2.os.trans h.os, h2.tape.trans h.tape, h2.output.trans h.output, Nat.le_trans h.size h2.size, fun k hk hne => (h2.block k (Nat.lt_of_lt_of_le hk h.size) (fun e => by have := hr k e.symm; omega)).trans (h.block k hk hne)⟩
/-- So many names of a reader. -/
def readIs : Nat → Rs → List Im × Rs
  | 0, S => ([], S)
  | n + 1, S => ((readIs n S).1 ++ [(readI (readIs n S).2).1], (readI (readIs n S).2).2)
/-- The next set of a reader. -/
def readD (S : Rs) : List Im × Rs :=
  let p := intS 64 S
  let q := readIs p.1 p.2
  let T := failS q.2 (lerr q.1)
  if T.fe ≠ 0 then ([], T) else (q.1, T)
theorem readIs_len (S : Rs) : ∀ n, (readIs n S).1.length = n
  | 0 => rfl
  | n + 1 => by simp [readIs, readIs_len S n]
theorem readIs_wf {S : Rs} (h : S.wf) : ∀ n, (readIs n S).2.wf ∧ ∀ x ∈ (readIs n S).1, x.wf
  | 0 => ⟨h, by simp [readIs]⟩
  | n + 1 => by
    obtain ⟨h1, h2⟩ := readIs_wf h n
    obtain ⟨h3, h4⟩ := readI_wf h1
    refine ⟨h3, fun x hx => ?_⟩
    rcases List.mem_append.1 hx with hx | hx
    · exact h2 x hx
    · rw [List.mem_singleton.1 hx]; exact h4
theorem readD_wf {S : Rs} (h : S.wf) : (readD S).2.wf := by
  have h1 := (readIs_wf (Rs.wf_next h (fun v => if 64 < v then 2 else 0)) (intS 64 S).1).1
  unfold readD
  dsimp only
  split
  · exact Rs.wf_fail h1 _
  · exact Rs.wf_fail h1 _

end Go.Proofs.YtpolplmniaoikaaDoor
