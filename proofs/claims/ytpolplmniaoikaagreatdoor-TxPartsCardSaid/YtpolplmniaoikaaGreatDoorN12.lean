/- Plain words on tags' and texts' bytes, on sets of additions: what is wrong with one, its bytes, what a reader gives. Lists of tags and of additions: the document's right, rises, HasTag, SameTags; slices.IndexFunc, ContainsFunc, BinarySearchFunc; strictly. -/
import Derived.Test.YtpolplmniaoikaaGreatDoorIw
import Derived.Test.YtpolplmniaoikaaGreatDoorM17
import Derived.Test.YtpolplmniaoikaaGreatDoorTa
import Derived.Deep.DeepCutAuto
import Derived.Deep.RegionHeld3
import Derived.Deep.LoopGhost
namespace Go.Proofs.YtpolplmniaoikaaGreatDoor
open Go.RowKit

def writeT (t : Tm) : List UInt8 := if chkT t then writeI t.1 ++ numB t.2.toNat else []
def textB (e : List UInt8) : List UInt8 := numB e.length ++ e
theorem writeT_len (t : Tm) : (writeT t).length ≤ 27 := by
  unfold writeT
  split
  · rename_i h
    simp [chkT] at h
    have h1 := writeI_len t.1
    have h2 := numB_len t.2.toNat (by omega)
    rw [List.length_append]; omega
  · simp
theorem flatT_len : ∀ (xs : List Tm), ((xs.map writeT).flatten).length ≤ 27 * xs.length
  | [] => by simp
  | x :: xs => by
    have h1 := flatT_len xs
    have h2 := writeT_len x
    simp only [List.map_cons, List.flatten_cons, List.length_append, List.length_cons]
    omega
theorem textB_len {e : List UInt8} (h : e.length < 18446744073709551616) : (textB e).length ≤ 9 + e.length := by
  unfold textB
  have := numB_len e.length h
  rw [List.length_append]; omega
/-- The next tag of a reader. -/
def readT (S : Rs) : Tm × Rs :=
  let p := readI S
  let q := intS 15 p.2
  if q.2.fe ≠ 0 then (((0, 0), 0), q.2) else ((p.1, (q.1 : Int)), q.2)
theorem readT_wf {S : Rs} (h : S.wf) : (readT S).2.wf ∧ (readT S).1.wf := by
  have h0 := readI_wf h
  have h1 := Rs.wf_next h0.1 (fun v => if 15 < v then 2 else 0)
  unfold readT
  dsimp only
  split
  · exact ⟨h1, ⟨show (0 : Int) ≤ 0 by decide, show (0 : Int) < 4294967296 by decide⟩⟩
  · exact ⟨h1, h0.2⟩
/-- So many things of a reader, as long as nothing is wrong. -/
def readN {α : Type} (f : Rs → α × Rs) : Nat → Rs → List α × Rs
  | 0, S => ([], S)
  | n + 1, S => if S.fe ≠ 0 then ([], S) else ((f S).1 :: (readN f n (f S).2).1, (readN f n (f S).2).2)
theorem readN_bad {α : Type} {f : Rs → α × Rs} {S : Rs} (h : S.fe ≠ 0) : ∀ n, readN f n S = ([], S)
  | 0 => rfl
  | n + 1 => by rw [readN, if_pos h]
theorem readN_more {α : Type} {f : Rs → α × Rs} {S S2 : Rs} {a : α} (h : S.fe = 0) (hf : f S = (a, S2)) (n : Nat) : readN f (n + 1) S = (a :: (readN f n S2).1, (readN f n S2).2) := by
  rw [readN, if_neg (by simp [h]), hf]
theorem readN_wf {α : Type} {f : Rs → α × Rs} {P : α → Prop} (hf : ∀ S : Rs, S.wf → (f S).2.wf ∧ P (f S).1) : ∀ (n : Nat) {S : Rs}, S.wf → (readN f n S).2.wf ∧ (readN f n S).1.length ≤ n ∧ ∀ x ∈ (readN f n S).1, P x
  | 0, S, h => ⟨h, by simp [readN], by simp [readN]⟩
  | n + 1, S, h => by
    rw [readN]
    split
    · exact ⟨h, by simp, by simp⟩
    · have h1 := hf S h
      obtain ⟨h2, h3, h4⟩ := readN_wf hf n h1.1
      refine ⟨h2, by simp; omega, fun x hx => ?_⟩
      rcases List.mem_cons.1 hx with rfl | hx
      · exact h1.2
      · exact h4 x hx
/-- The next set of a reader: f reads a thing, err tells what is wrong. -/
def readSt {α : Type} (f : Rs → α × Rs) (err : List α → List Tm → Int) (S : Rs) : (List α × List Tm) × Rs :=
  let n := intS 4096 S
  let a := readN f n.1 n.2
  let m := intS 4096 a.2
  let g := readN readT m.1 m.2
  let T := failS g.2 (err a.1 g.1)
  if T.fe ≠ 0 then (([], []), T) else ((a.1, g.1), T)
theorem readSt_wf {α : Type} {f : Rs → α × Rs} {P : α → Prop} (hf : ∀ S : Rs, S.wf → (f S).2.wf ∧ P (f S).1) {err : List α → List Tm → Int} {S : Rs} (h : S.wf) : (readSt f err S).2.wf := by
  have h1 := Rs.wf_next h (fun v => if 4096 < v then 2 else 0)
  have h2 := readN_wf hf (intS 4096 S).1 h1
  have h3 := Rs.wf_next h2.1 (fun v => if 4096 < v then 2 else 0)
  have h4 := readN_wf (P := Tm.wf) (fun S h => readT_wf h) (intS 4096 (readN f (intS 4096 S).1 (intS 4096 S).2).2).1 h3
  have h5 := Rs.wf_fail h4.1 (err (readN f (intS 4096 S).1 (intS 4096 S).2).1 (readN readT (intS 4096 (readN f (intS 4096 S).1 (intS 4096 S).2).2).1 (intS 4096 (readN f (intS 4096 S).1 (intS 4096 S).2).2).2).1)
  unfold readSt
  dsimp only
  split
  · exact h5
  · exact h5
theorem failS_l (S : Rs) (e : Int) : (failS S e).l = S.l := by unfold failS; split <;> rfl
theorem nextS_l (right : Nat → Int) (S : Rs) : (nextS right S).2.l = S.l := by
  unfold nextS
  by_cases h : S.fe ≠ 0
  · rw [if_pos h]
  · rw [if_neg h]
    dsimp only
    obtain ⟨e, he⟩ : ∃ e, (if (numR (S.l.drop S.a)).2.2 = 0 then right (numR (S.l.drop S.a)).1 else (numR (S.l.drop S.a)).2.2) = e := ⟨_, rfl⟩
    rw [he]
    by_cases h2 : e ≠ 0
    · rw [if_pos h2]; exact failS_l S e
    · rw [if_neg h2]
theorem textS_wf {S : Rs} (m : Nat) (h : S.wf) : (textS m S).2.wf := by
  have h1 := Rs.wf_next h (fun v => if m < v then 2 else 0)
  have hl : (intS m S).2.l = S.l := nextS_l _ S
  have hz : ¬ (intS m S).2.fe ≠ 0 → (intS m S).2.fe = 0 := fun h => Classical.not_not.1 h
  unfold textS
  dsimp only
  split
  · exact h1
  · rename_i hf
    split
    · refine Rs.wf_fail ?_ 1
      refine ⟨?_, h1.2.1, h1.2.2⟩
      show S.a ≤ (intS m S).2.l.length
      rw [hl]; exact h.1
    · rename_i hlt
      have h2 := h1.1
      unfold intS at hlt h2 ⊢
      exact ⟨by dsimp only; omega, h1.2.1, h1.2.2⟩
theorem textS_len (m : Nat) (S : Rs) : (textS m S).1.length ≤ m := by
  have h := intS_le m S
  unfold textS
  dsimp only
  split
  · simp
  · split
    · simp
    · rw [List.length_take]; omega

/-- An addition: a tag, an element. -/
abbrev Am := Tm × List UInt8
def Am.enc (a : Am) : List Value := [.int .i64 a.1.1.1, .int .u32 a.1.1.2, .int .i64 a.1.2, .string (bs a.2)]
def Am.wf (a : Am) : Prop := a.1.wf
theorem Am.len {xs : List Am} : ∀ x ∈ xs.map Am.enc, x.length = 4 := by
  intro x hx; obtain ⟨t, _, rfl⟩ := List.mem_map.1 hx; rfl
theorem Am.one {xs : List Am} : ∀ x ∈ xs.map Am.enc, ∀ u ∈ x, u.oneCell' = true := by
  intro x hx u hu; obtain ⟨t, _, rfl⟩ := List.mem_map.1 hx
  simp only [Am.enc, List.mem_cons, List.not_mem_nil, or_false] at hu
  rcases hu with rfl | rfl | rfl | rfl <;> rfl
def RdA (w : World) (B : Nat) (A : Option Addr) (n : Nat) (xs : List Am) : Prop := Rd w B 4 A n (xs.map Am.enc)
theorem RdA.below {w w' : World} {B n : Nat} {A : Option Addr} {xs : List Am} (h : RdA w B A n xs) (hb : Below B w w') : RdA w' B A n xs := Rd.below h hb
theorem RdA.more {w : World} {B B' n : Nat} {A : Option Addr} {xs : List Am} (h : RdA w B A n xs) (hb : B ≤ B') : RdA w B' A n xs := Rd.more h hb
theorem RdA.len {w : World} {B n : Nat} {A : Option Addr} {xs : List Am} (h : RdA w B A n xs) : xs.length = n := by simpa using h.1
def elemB (e : List UInt8) : Bool := decide (1 ≤ e.length ∧ e.length ≤ 12)
def badA (xs : List Am) (gone : List Tm) : Bool := xs.any fun a => !elemB a.2 || gone.contains a.1
def oErr (xs : List Am) (gone : List Tm) : Int := sErr (xs.map Prod.fst) (badA xs gone) gone
def writeA (a : Am) : List UInt8 := writeT a.1 ++ textB a.2
/-- The first k things' part of a list's bytes; the same of the names that are gone, behind all things. -/
def partN {α : Type} (f : α → List UInt8) (xs : List α) (n k : Nat) : List UInt8 := numB n ++ ((xs.take k).map f).flatten
def partS {α : Type} (f : α → List UInt8) (xs : List α) (gone : List Tm) (n m k : Nat) : List UInt8 := partN f xs n n ++ (numB m ++ ((gone.take k).map writeT).flatten)
theorem partN_succ {α : Type} (f : α → List UInt8) {xs : List α} {n k : Nat} {x : α} (h : xs[k]? = some x) : partN f xs n k ++ f x = partN f xs n (k + 1) := by
  unfold partN; rw [List.take_add_one, h]; simp
theorem partS_succ {α : Type} (f : α → List UInt8) {xs : List α} {gone : List Tm} {n m k : Nat} {x : Tm} (h : gone[k]? = some x) : partS f xs gone n m k ++ writeT x = partS f xs gone n m (k + 1) := by
  unfold partS; rw [List.take_add_one, h]; simp
theorem flatB_len {α : Type} {f : α → List UInt8} {b : Nat} : ∀ (xs : List α), (∀ a ∈ xs, (f a).length ≤ b) → ((xs.map f).flatten).length ≤ b * xs.length
  | [], _ => by simp
  | x :: xs, h => by
    have h1 := flatB_len xs (fun a ha => h a (by simp [ha]))
    have h2 := h x (by simp)
    simp only [List.map_cons, List.flatten_cons, List.length_append, List.length_cons, Nat.mul_succ]
    omega
theorem partN_len {α : Type} {f : α → List UInt8} {b : Nat} {xs : List α} (h : ∀ a ∈ xs, (f a).length ≤ b) (n k : Nat) (hn : n ≤ 4096) (hk : k ≤ 4096) : (partN f xs n k).length ≤ 9 + b * 4096 := by
  have h1 := numB_len n (by omega)
  have h2 := flatB_len (f := f) (b := b) (xs.take k) (fun a ha => h a (List.mem_of_mem_take ha))
  have h3 : b * (xs.take k).length ≤ b * 4096 := Nat.mul_le_mul_left _ (Nat.le_trans (List.length_take_le _ _) hk)
  unfold partN; rw [List.length_append]; omega
theorem partS_len {α : Type} {f : α → List UInt8} {b : Nat} {xs : List α} (h : ∀ a ∈ xs, (f a).length ≤ b) (gone : List Tm) (n m k : Nat) (hn : n ≤ 4096) (hm : m ≤ 4096) (hk : k ≤ 4096) : (partS f xs gone n m k).length ≤ 18 + b * 4096 + 27 * 4096 := by
  have h1 := partN_len h n n hn hn
  have h4 := numB_len m (by omega)
  have h2 := flatT_len (gone.take k)
  have h3 : 27 * (gone.take k).length ≤ 27 * 4096 := Nat.mul_le_mul_left _ (Nat.le_trans (List.length_take_le _ _) hk)
  unfold partS; rw [List.length_append, List.length_append]; omega
/-- A set's bytes. -/
def writeO (xs : List Am) (gone : List Tm) : List UInt8 := if oErr xs gone ≠ 0 then [] else partS writeA xs gone xs.length gone.length gone.length
theorem writeA_len {a : Am} (h : a.2.length ≤ 12) : (writeA a).length ≤ 48 := by
  have h2 := writeT_len a.1
  have h3 := textB_len (e := a.2) (by omega)
  unfold writeA; rw [List.length_append]; omega
theorem badA_elem {xs : List Am} {gone : List Tm} (h : badA xs gone = false) : ∀ a ∈ xs, 1 ≤ a.2.length ∧ a.2.length ≤ 12 := by
  intro a ha
  unfold badA at h
  rw [List.any_eq_false] at h
  have := h a ha
  simp only [Bool.not_eq_true, Bool.or_eq_false_iff, Bool.not_eq_false', elemB, decide_eq_true_eq] at this
  exact this.1
/-- The next addition of a reader. -/
def readA (S : Rs) : Am × Rs := (((readT S).1, (textS 12 (readT S).2).1), (textS 12 (readT S).2).2)
theorem readA_wf {S : Rs} (h : S.wf) : (readA S).2.wf ∧ (readA S).1.wf := by
  have h1 := readT_wf h
  exact ⟨textS_wf 12 h1.1, h1.2⟩
end Go.Proofs.YtpolplmniaoikaaGreatDoor
namespace Go.Proofs.YtpolplmniaoikaaGreatDoor
open Go.RowKit

set_option maxRecDepth 100000 in
theorem sametags_any (A B : Option Addr) (n m c d : Nat) (xs ys : List Tm) (w : World) (hA : RdT w w.heap.size A n xs) (hB : RdT w w.heap.size B m ys) (hn : n ≤ maxLen) (hm : m ≤ maxLen) :
    Calls Tryz.prog 131 #[.slice A n c, .slice B m d] w fun e w' => e = .returned (.bool (decide (xs = ys))) ∧ Below w.heap.size w w' := by
  have hl := hA.len
  have hl2 := hB.len
  unfold maxLen at hn hm
  generalize hr : decide (xs = ys) = r
  have hrH := Lib.hid hr
  clear hr
  by_cases hnm : (n : Int) = (m : Int)
  · obtain rfl : n = m := by omega
    clear hnm
    go_enter Tryz.func131, Tryz.ntmps131
    go_wp2
    go_loopg [5] (n + 1) (fun g i wr => ∃ k : Nat, k ≤ n ∧ g = n + 1 - k ∧ i = .int .i64 (k : Int) ∧ xs.take k = ys.take k ∧ Below w.heap.size w wr)
    case atStart => exact ⟨0, Nat.zero_le _, rfl, rfl, rfl, Below.refl _ _⟩
    case round =>
      obtain ⟨k, hk, rfl, rfl, htk, hbr⟩ := hrel
      have hz := hbr.size
      by_cases hlt : k < n
      · obtain ⟨bA, oA, x, rfl, hbA, hp, hcp⟩ := (hA.below hbr).at_ hlt
        obtain ⟨bB, oB, y, rfl, hbB, hq, hcq⟩ := (hB.below hbr).at_ hlt
        have p0 := hcp 0 _ rfl
        have p1 := hcp 1 _ rfl
        have p2 := hcp 2 _ rfl
        have q0 := hcq 0 _ rfl
        have q1 := hcq 1 _ rfl
        have q2 := hcq 2 _ rfl
        rw [Nat.add_zero] at p0 q0
        clear hcp hcq
        have hbA2 : bA < wr.heap.size := by omega
        have hbB2 : bB < wr.heap.size := by omega
        have htkH := Lib.hid htk
        have hpH := Lib.hid hp
        have hqH := Lib.hid hq
        clear htk hp hq
        have hq0 : KQ wr.heap.size wr wr := kq (Below.refl _ _)
        obtain ⟨⟨x1, x2⟩, x3⟩ := x
        obtain ⟨⟨y1, y2⟩, y3⟩ := y
        dsimp only at p0 p1 p2 q0 q1 q2
        by_cases he : x1 = y1 ∧ x2 = y2 ∧ x3 = y3
        · obtain ⟨rfl, rfl, rfl⟩ := he
          have hT : Hid (xs.take (k + 1) = ys.take (k + 1)) := Lib.hid (by rw [List.take_add_one, List.take_add_one, htkH.out, hpH.out, hqH.out])
          go_wp2
          go_region_held3 (fun w' => KQ wr.heap.size wr w') (first
      | with_reducible exact kq_call (by assumption) (by simp) (by assumption)
      | with_reducible exact kq_grown (by assumption) (by simp) (by assumption) (by simp [Value.ownBlock])
      | ((with_reducible refine kq ?_); (repeat (first | (with_reducible exact Below.refl _ _) | (with_reducible refine Below.drew ?_) | (with_reducible refine Below.alloc ?_ (by simp) _) | (with_reducible refine Below.setCell ?_ (by simp) _) | (with_reducible exact (by assumption : KQ _ _ _).1))); done)) (first | (go_at_call 0; skip))
          have hG : Below w.heap.size w wr.drew := hbr.drew
          go_wp2
          go_roundg (n + 1 - (k + 1))
          case measure => omega
          case rel => exact ⟨k + 1, by omega, rfl, by go_num, hT.out, hG⟩
        · have hT : Hid (false = r) := Lib.hid (by
            rw [← hrH.out]; symm; apply decide_eq_false; intro e; subst e
            have := hpH.out.symm.trans hqH.out
            simp at this; exact he ⟨this.1.1, this.1.2, this.2⟩)
          have hG : Below w.heap.size w wr.drew := hbr.drew
          by_cases h1 : x1 = y1
          · subst h1
            by_cases h2 : x2 = y2
            · subst h2
              have h3 : ¬ x3 = y3 := fun e => he ⟨rfl, rfl, e⟩
              clear he
              go_wp2
              go_region_held3 (fun w' => KQ wr.heap.size wr w') (first
      | with_reducible exact kq_call (by assumption) (by simp) (by assumption)
      | with_reducible exact kq_grown (by assumption) (by simp) (by assumption) (by simp [Value.ownBlock])
      | ((with_reducible refine kq ?_); (repeat (first | (with_reducible exact Below.refl _ _) | (with_reducible refine Below.drew ?_) | (with_reducible refine Below.alloc ?_ (by simp) _) | (with_reducible refine Below.setCell ?_ (by simp) _) | (with_reducible exact (by assumption : KQ _ _ _).1))); done)) (first | (go_at_call 0; skip))
              go_wp2
              go_ret
              exact ⟨ret_bool hT.out, hG⟩
            · clear he
              go_wp2
              go_region_held3 (fun w' => KQ wr.heap.size wr w') (first
      | with_reducible exact kq_call (by assumption) (by simp) (by assumption)
      | with_reducible exact kq_grown (by assumption) (by simp) (by assumption) (by simp [Value.ownBlock])
      | ((with_reducible refine kq ?_); (repeat (first | (with_reducible exact Below.refl _ _) | (with_reducible refine Below.drew ?_) | (with_reducible refine Below.alloc ?_ (by simp) _) | (with_reducible refine Below.setCell ?_ (by simp) _) | (with_reducible exact (by assumption : KQ _ _ _).1))); done)) (first | (go_at_call 0; skip))
              go_wp2
              go_ret
              exact ⟨ret_bool hT.out, hG⟩
          · clear he
            go_wp2
            go_region_held3 (fun w' => KQ wr.heap.size wr w') (first
      | with_reducible exact kq_call (by assumption) (by simp) (by assumption)
      | with_reducible exact kq_grown (by assumption) (by simp) (by assumption) (by simp [Value.ownBlock])
      | ((with_reducible refine kq ?_); (repeat (first | (with_reducible exact Below.refl _ _) | (with_reducible refine Below.drew ?_) | (with_reducible refine Below.alloc ?_ (by simp) _) | (with_reducible refine Below.setCell ?_ (by simp) _) | (with_reducible exact (by assumption : KQ _ _ _).1))); done)) (first | (go_at_call 0; skip))
            go_wp2
            go_ret
            exact ⟨ret_bool hT.out, hG⟩
      · have hT : Hid (true = r) := Lib.hid (by
          rw [← hrH.out]; symm; apply decide_eq_true
          rw [List.take_of_length_le (by omega), List.take_of_length_le (by omega)] at htk
          exact htk)
        clear htk
        go_wp2
        go_ret
        exact ⟨ret_bool hT.out, hbr⟩
  · have hT : Hid (false = r) := Lib.hid (by
      rw [← hrH.out]; symm; apply decide_eq_false; rintro rfl; omega)
    have hd : ((n : Int) == (m : Int)) = false := by simpa using hnm
    go_enter Tryz.func131, Tryz.ntmps131
    go_wp2
    go_ret
    exact ⟨ret_bool hT.out, Below.refl _ _⟩
/-- A function value that answers p of such things, wherever what lay below block B stands. -/
def PredT (g : Nat) (lb : Array Value) (p : Tm → Bool) (B : Nat) (w : World) (xs : List Tm) : Prop :=
  ∀ x ∈ xs, ∀ w', Below B w w' → Calls Tryz.prog g (#[.agg #[.int .i64 x.1.1, .int .u32 x.1.2, .int .i64 x.2]] ++ lb) w' fun e w'' => e = .returned (.bool (p x)) ∧ Below w'.heap.size w' w''
theorem ixfT_gen (g : Nat) (lb : Array Value) (p : Tm → Bool) (eg : ∀ args w, (callFunc g args).run Tryz.prog w = .ok (.enter g args) w) (B : Nat) (A : Option Addr) (n c : Nat) (xs : List Tm) (w : World) (hA : RdT w w.heap.size A n xs) (hn : n ≤ maxLen) (hp : PredT g lb p B w xs) (hB : B ≤ w.heap.size) :
    Calls Tryz.prog 158 #[.slice A n c, .func (.func g) #[] lb] w
      fun e w' => e = .returned (.int .i64 (firstG p xs)) ∧ Below w.heap.size w w' := by
  unfold maxLen at hn
  have hp := Lib.hid hp
  go_enter Tryz.func158, Tryz.ntmps158
  go_wp2
  go_loopg [8] (n + 1) (fun g i wr => ∃ k : Nat, k ≤ n ∧ g = n + 1 - k ∧ i = .int .i64 k ∧ (∀ u ∈ xs.take k, p u = false) ∧ Below w.heap.size w wr)
  case atStart => exact ⟨0, Nat.zero_le _, rfl, rfl, by simp, Below.refl _ _⟩
  case round =>
    obtain ⟨k, hk, rfl, rfl, hno, hbr⟩ := hrel
    have hz := hbr.size
    by_cases hlt : k < n
    · obtain ⟨bA, oA, u, rfl, hbA, hq, hcp⟩ := (hA.below hbr).at_ hlt
      have p0 := hcp 0 _ rfl
      have p1 := hcp 1 _ rfl
      have p2 := hcp 2 _ rfl
      rw [Nat.add_zero] at p0
      clear hcp
      have hnoH := Lib.hid hno
      have hqH := Lib.hid hq
      clear hno hq
      go_wp2_with fail
      refine (hp.out u (List.mem_of_getElem? hqH.out) wr (hbr.mono hB)).mono ?_
      rintro e w1 ⟨rfl, hb1⟩
      have hb2 := hbr.trans (hb1.mono hz)
      generalize hx' : p u = r
      cases r
      case true =>
        have hT := Lib.hid (firstG_at hnoH.out hqH.out hx')
        clear hx'
        go_wp2
        go_ret
        exact ⟨ret_int hT.out.symm, hb2⟩
      case false =>
        have hT := Lib.hid hx'
        clear hx'
        go_wp2
        go_roundg (n + 1 - (k + 1))
        case measure => omega
        case rel => exact ⟨k + 1, by omega, rfl, by go_num, all_take_succ hnoH.out hqH.out hT.out, hb2⟩
    · have hT := Lib.hid (firstG_none (p := p) (all_take_all (by rw [show k = n from by omega] at hno; exact hno) hA.len))
      clear hno
      go_wp2
      go_ret
      exact ⟨ret_int hT.out.symm, hbr⟩
theorem cfT_gen (g : Nat) (lb : Array Value) (p : Tm → Bool) (eg : ∀ args w, (callFunc g args).run Tryz.prog w = .ok (.enter g args) w) (B : Nat) (A : Option Addr) (n c : Nat) (xs : List Tm) (w : World) (hA : RdT w w.heap.size A n xs) (hn : n ≤ maxLen) (hp : PredT g lb p B w xs) (hB : B ≤ w.heap.size) :
    Calls Tryz.prog 126 #[.slice A n c, .func (.func g) #[] lb] w
      fun e w' => e = .returned (.bool (xs.any p)) ∧ Below w.heap.size w w' := by
  have h := ixfT_gen g lb p eg B A n c xs w hA hn hp hB
  have hrH := Lib.hid (firstG_any p xs)
  clear eg hp
  generalize firstG p xs = z at h hrH
  go_enter Tryz.func126, Tryz.ntmps126
  go_wp2_with fail
  refine h.mono ?_
  rintro e w1 ⟨rfl, hb1⟩
  go_wp2
  go_ret
  exact ⟨ret_bool hrH.out, hb1⟩
/-- A function value that answers p of such things, wherever what lay below block B stands. -/
def PredA (g : Nat) (lb : Array Value) (p : Am → Bool) (B : Nat) (w : World) (xs : List Am) : Prop :=
  ∀ x ∈ xs, ∀ w', Below B w w' → Calls Tryz.prog g (#[.agg #[.int .i64 x.1.1.1, .int .u32 x.1.1.2, .int .i64 x.1.2, .string (bs x.2)]] ++ lb) w' fun e w'' => e = .returned (.bool (p x)) ∧ Below w'.heap.size w' w''
end Go.Proofs.YtpolplmniaoikaaGreatDoor
