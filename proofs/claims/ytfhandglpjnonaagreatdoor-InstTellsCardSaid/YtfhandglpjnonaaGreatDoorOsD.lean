/- Plain words on tags' and texts' bytes, on sets of additions: what is wrong with one, its bytes, what a reader gives. -/
import Derived.Test.YtfhandglpjnonaaGreatDoorIw
import Derived.Test.YtfhandglpjnonaaGreatDoorM17
import Derived.Test.YtfhandglpjnonaaGreatDoorTa
namespace Go.Proofs.YtfhandglpjnonaaGreatDoor
open Go.RowKit

def writeT (t : Tm) : List UInt8 := if chkT t then writeI t.1 ++ numB t.2.toNat else []
def textB (e : List UInt8) : List UInt8 := numB e.length ++ e
theorem writeT_len (t : Tm) : (writeT t).length ≤ 27 := by
  unfold writeT
  split
  · rename_i h
    simp [chkT] at h
    have h1 := writeI_len t.1
    have h2 := numB_len t.2.toNat (by omega)
    rw [List.length_append]; omega
  · simp
theorem flatT_len : ∀ (xs : List Tm), ((xs.map writeT).flatten).length ≤ 27 * xs.length
  | [] => by simp
  | x :: xs => by
    have h1 := flatT_len xs
    have h2 := writeT_len x
    simp only [List.map_cons, List.flatten_cons, List.length_append, List.length_cons]
    omega
theorem textB_len {e : List UInt8} (h : e.length < 18446744073709551616) : (textB e).length ≤ 9 + e.length := by
  unfold textB
  have := numB_len e.length h
  rw [List.length_append]; omega
/-- The next tag of a reader. -/
def readT (S : Rs) : Tm × Rs :=
  let p := readI S
  let q := intS 15 p.2
  if q.2.fe ≠ 0 then (((0, 0), 0), q.2) else ((p.1, (q.1 : Int)), q.2)
theorem readT_wf {S : Rs} (h : S.wf) : (readT S).2.wf ∧ (readT S).1.wf := by
  have h0 := readI_wf h
  have h1 := Rs.wf_next h0.1 (fun v => if 15 < v then 2 else 0)
  unfold readT
  dsimp only
  split
  · exact ⟨h1, ⟨show (0 : Int) ≤ 0 by decide, show (0 : Int) < 4294967296 by decide⟩⟩
  · exact ⟨h1, h0.2⟩
/-- So many things of a reader, as long as nothing is wrong. -/
def readN {α : Type} (f : Rs → α × Rs) : Nat → Rs → List α × Rs
  | 0, S => ([], S)
  | n + 1, S => if S.fe ≠ 0 then ([], S) else ((f S).1 :: (readN f n (f S).2).1, (readN f n (f S).2).2)
theorem readN_bad {α : Type} {f : Rs → α × Rs} {S : Rs} (h : S.fe ≠ 0) : ∀ n, readN f n S = ([], S)
  | 0 => rfl
  | n + 1 => by rw [readN, if_pos h]
theorem readN_more {α : Type} {f : Rs → α × Rs} {S S2 : Rs} {a : α} (h : S.fe = 0) (hf : f S = (a, S2)) (n : Nat) : readN f (n + 1) S = (a :: (readN f n S2).1, (readN f n S2).2) := by
  rw [readN, if_neg (by simp [h]), hf]
theorem readN_wf {α : Type} {f : Rs → α × Rs} {P : α → Prop} (hf : ∀ S : Rs, S.wf → (f S).2.wf ∧ P (f S).1) : ∀ (n : Nat) {S : Rs}, S.wf → (readN f n S).2.wf ∧ (readN f n S).1.length ≤ n ∧ ∀ x ∈ (readN f n S).1, P x
  | 0, S, h => ⟨h, by simp [readN], by simp [readN]⟩
  | n + 1, S, h => by
    rw [readN]
    split
    · exact ⟨h, by simp, by simp⟩
    · have h1 := hf S h
      obtain ⟨h2, h3, h4⟩ := readN_wf hf n h1.1
      refine ⟨h2, by simp; omega, fun x hx => ?_⟩
      rcases List.mem_cons.1 hx with rfl | hx
      · exact h1.2
      · exact h4 x hx
/-- The next set of a reader: f reads a thing, err tells what is wrong. -/
def readSt {α : Type} (f : Rs → α × Rs) (err : List α → List Tm → Int) (S : Rs) : (List α × List Tm) × Rs :=
  let n := intS 4096 S
  let a := readN f n.1 n.2
  let m := intS 4096 a.2
  let g := readN readT m.1 m.2
  let T := failS g.2 (err a.1 g.1)
  if T.fe ≠ 0 then (([], []), T) else ((a.1, g.1), T)
theorem readSt_wf {α : Type} {f : Rs → α × Rs} {P : α → Prop} (hf : ∀ S : Rs, S.wf → (f S).2.wf ∧ P (f S).1) {err : List α → List Tm → Int} {S : Rs} (h : S.wf) : (readSt f err S).2.wf := by
  have h1 := Rs.wf_next h (fun v => if 4096 < v then 2 else 0)
  have h2 := readN_wf hf (intS 4096 S).1 h1
  have h3 := Rs.wf_next h2.1 (fun v => if 4096 < v then 2 else 0)
  have h4 := readN_wf (P := Tm.wf) (fun S h => readT_wf h) (intS 4096 (readN f (intS 4096 S).1 (intS 4096 S).2).2).1 h3
  have h5 := Rs.wf_fail h4.1 (err (readN f (intS 4096 S).1 (intS 4096 S).2).1 (readN readT (intS 4096 (readN f (intS 4096 S).1 (intS 4096 S).2).2).1 (intS 4096 (readN f (intS 4096 S).1 (intS 4096 S).2).2).2).1)
  unfold readSt
  dsimp only
  split
  · exact h5
  · exact h5
theorem failS_l (S : Rs) (e : Int) : (failS S e).l = S.l := by unfold failS; split <;> rfl
theorem nextS_l (right : Nat → Int) (S : Rs) : (nextS right S).2.l = S.l := by
  unfold nextS
  by_cases h : S.fe ≠ 0
  · rw [if_pos h]
  · rw [if_neg h]
    dsimp only
    obtain ⟨e, he⟩ : ∃ e, (if (numR (S.l.drop S.a)).2.2 = 0 then right (numR (S.l.drop S.a)).1 else (numR (S.l.drop S.a)).2.2) = e := ⟨_, rfl⟩
    rw [he]
    by_cases h2 : e ≠ 0
    · rw [if_pos h2]; exact failS_l S e
    · rw [if_neg h2]
theorem textS_wf {S : Rs} (m : Nat) (h : S.wf) : (textS m S).2.wf := by
  have h1 := Rs.wf_next h (fun v => if m < v then 2 else 0)
  have hl : (intS m S).2.l = S.l := nextS_l _ S
  have hz : ¬ (intS m S).2.fe ≠ 0 → (intS m S).2.fe = 0 := fun h => Classical.not_not.1 h
  unfold textS
  dsimp only
  split
  · exact h1
  · rename_i hf
    split
    · refine Rs.wf_fail ?_ 1
      refine ⟨?_, h1.2.1, h1.2.2⟩
      show S.a ≤ (intS m S).2.l.length
      rw [hl]; exact h.1
    · rename_i hlt
      have h2 := h1.1
      unfold intS at hlt h2 ⊢
      exact ⟨by dsimp only; omega, h1.2.1, h1.2.2⟩
theorem textS_len (m : Nat) (S : Rs) : (textS m S).1.length ≤ m := by
  have h := intS_le m S
  unfold textS
  dsimp only
  split
  · simp
  · split
    · simp
    · rw [List.length_take]; omega

/-- An addition: a tag, an element. -/
abbrev Am := Tm × List UInt8
def Am.enc (a : Am) : List Value := [.int .i64 a.1.1.1, .int .u32 a.1.1.2, .int .i64 a.1.2, .string (bs a.2)]
def Am.wf (a : Am) : Prop := a.1.wf
theorem Am.len {xs : List Am} : ∀ x ∈ xs.map Am.enc, x.length = 4 := by
  intro x hx; obtain ⟨t, _, rfl⟩ := List.mem_map.1 hx; rfl
theorem Am.one {xs : List Am} : ∀ x ∈ xs.map Am.enc, ∀ u ∈ x, u.oneCell' = true := by
  intro x hx u hu; obtain ⟨t, _, rfl⟩ := List.mem_map.1 hx
  simp only [Am.enc, List.mem_cons, List.not_mem_nil, or_false] at hu
  rcases hu with rfl | rfl | rfl | rfl <;> rfl
def RdA (w : World) (B : Nat) (A : Option Addr) (n : Nat) (xs : List Am) : Prop := Rd w B 4 A n (xs.map Am.enc)
theorem RdA.below {w w' : World} {B n : Nat} {A : Option Addr} {xs : List Am} (h : RdA w B A n xs) (hb : Below B w w') : RdA w' B A n xs := Rd.below h hb
theorem RdA.more {w : World} {B B' n : Nat} {A : Option Addr} {xs : List Am} (h : RdA w B A n xs) (hb : B ≤ B') : RdA w B' A n xs := Rd.more h hb
theorem RdA.len {w : World} {B n : Nat} {A : Option Addr} {xs : List Am} (h : RdA w B A n xs) : xs.length = n := by simpa using h.1
def elemB (e : List UInt8) : Bool := decide (1 ≤ e.length ∧ e.length ≤ 12)
def badA (xs : List Am) (gone : List Tm) : Bool := xs.any fun a => !elemB a.2 || gone.contains a.1
def oErr (xs : List Am) (gone : List Tm) : Int := sErr (xs.map Prod.fst) (badA xs gone) gone
def writeA (a : Am) : List UInt8 := writeT a.1 ++ textB a.2
/-- The first k things' part of a list's bytes; the same of the names that are gone, behind all things. -/
def partN {α : Type} (f : α → List UInt8) (xs : List α) (n k : Nat) : List UInt8 := numB n ++ ((xs.take k).map f).flatten
def partS {α : Type} (f : α → List UInt8) (xs : List α) (gone : List Tm) (n m k : Nat) : List UInt8 := partN f xs n n ++ (numB m ++ ((gone.take k).map writeT).flatten)
theorem partN_succ {α : Type} (f : α → List UInt8) {xs : List α} {n k : Nat} {x : α} (h : xs[k]? = some x) : partN f xs n k ++ f x = partN f xs n (k + 1) := by
  unfold partN; rw [List.take_add_one, h]; simp
theorem partS_succ {α : Type} (f : α → List UInt8) {xs : List α} {gone : List Tm} {n m k : Nat} {x : Tm} (h : gone[k]? = some x) : partS f xs gone n m k ++ writeT x = partS f xs gone n m (k + 1) := by
  unfold partS; rw [List.take_add_one, h]; simp
theorem flatB_len {α : Type} {f : α → List UInt8} {b : Nat} : ∀ (xs : List α), (∀ a ∈ xs, (f a).length ≤ b) → ((xs.map f).flatten).length ≤ b * xs.length
  | [], _ => by simp
  | x :: xs, h => by
    have h1 := flatB_len xs (fun a ha => h a (by simp [ha]))
    have h2 := h x (by simp)
    simp only [List.map_cons, List.flatten_cons, List.length_append, List.length_cons, Nat.mul_succ]
    omega
theorem partN_len {α : Type} {f : α → List UInt8} {b : Nat} {xs : List α} (h : ∀ a ∈ xs, (f a).length ≤ b) (n k : Nat) (hn : n ≤ 4096) (hk : k ≤ 4096) : (partN f xs n k).length ≤ 9 + b * 4096 := by
  have h1 := numB_len n (by omega)
  have h2 := flatB_len (f := f) (b := b) (xs.take k) (fun a ha => h a (List.mem_of_mem_take ha))
  have h3 : b * (xs.take k).length ≤ b * 4096 := Nat.mul_le_mul_left _ (Nat.le_trans (List.length_take_le _ _) hk)
  unfold partN; rw [List.length_append]; omega
theorem partS_len {α : Type} {f : α → List UInt8} {b : Nat} {xs : List α} (h : ∀ a ∈ xs, (f a).length ≤ b) (gone : List Tm) (n m k : Nat) (hn : n ≤ 4096) (hm : m ≤ 4096) (hk : k ≤ 4096) : (partS f xs gone n m k).length ≤ 18 + b * 4096 + 27 * 4096 := by
  have h1 := partN_len h n n hn hn
  have h4 := numB_len m (by omega)
  have h2 := flatT_len (gone.take k)
  have h3 : 27 * (gone.take k).length ≤ 27 * 4096 := Nat.mul_le_mul_left _ (Nat.le_trans (List.length_take_le _ _) hk)
  unfold partS; rw [List.length_append, List.length_append]; omega
/-- A set's bytes. -/
def writeO (xs : List Am) (gone : List Tm) : List UInt8 := if oErr xs gone ≠ 0 then [] else partS writeA xs gone xs.length gone.length gone.length
theorem writeA_len {a : Am} (h : a.2.length ≤ 12) : (writeA a).length ≤ 48 := by
  have h2 := writeT_len a.1
  have h3 := textB_len (e := a.2) (by omega)
  unfold writeA; rw [List.length_append]; omega
theorem badA_elem {xs : List Am} {gone : List Tm} (h : badA xs gone = false) : ∀ a ∈ xs, 1 ≤ a.2.length ∧ a.2.length ≤ 12 := by
  intro a ha
  unfold badA at h
  rw [List.any_eq_false] at h
  have := h a ha
  simp only [Bool.not_eq_true, Bool.or_eq_false_iff, Bool.not_eq_false', elemB, decide_eq_true_eq] at this
  exact this.1
/-- The next addition of a reader. -/
def readA (S : Rs) : Am × Rs := (((readT S).1, (textS 12 (readT S).2).1), (textS 12 (readT S).2).2)
theorem readA_wf {S : Rs} (h : S.wf) : (readA S).2.wf ∧ (readA S).1.wf := by
  have h1 := readT_wf h
  exact ⟨textS_wf 12 h1.1, h1.2⟩
end Go.Proofs.YtfhandglpjnonaaGreatDoor
