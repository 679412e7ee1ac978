/- slices.Grow and Concat at parts; slices.Equal at tags. What is wrong with a vector (both). Two vectors compared. -/
import Derived.Test.YtfhandglpjnonaaGreatDoorM39
import Derived.Test.YtfhandglpjnonaaGreatDoorN06
import Derived.Lib.AppendZeros
import Derived.Test.YtfhandglpjnonaaGreatDoorN02
import Derived.Test.YtfhandglpjnonaaGreatDoorN03
set_option maxRecDepth 100000
set_option maxHeartbeats 16000000
namespace Go.Proofs.YtfhandglpjnonaaGreatDoor
open Go.RowKit
theorem take_succ_eqX {α : Type} {xs ys : List α} {k : Nat} {x y : α} (h : xs.take k = ys.take k) (hx : xs[k]? = some x) (hy : ys[k]? = some y) : xs.take (k + 1) = ys.take (k + 1) ↔ x = y := by
 rw [List.take_add_one, List.take_add_one, h, hx, hy]
 simp
theorem equalT_any (A B : Option Addr) (n m c d : Nat) (xs ys : List Tm) (w : World) (hA : RdT w w.heap.size A n xs) (hB : RdT w w.heap.size B m ys) (hn : n ≤ maxLen) (hm : m ≤ maxLen) :
 Calls Tryz.prog 90 #[.slice A n c, .slice B m d] w fun e w' => e = .returned (.bool (decide (xs = ys))) ∧ Below w.heap.size w w' := by
 have hl := hA.len
 have hl2 := hB.len
 unfold maxLen at hn hm
 generalize hr : decide (xs = ys) = r
 have hrH := jH hr
 clear hr
 by_cases hnm : (n : Int) = (m : Int)
 ·
  obtain rfl : n = m := by omega
  clear hnm
  go_enter Tryz.func90, Tryz.ntmps90
  go_wp2
  go_loopg [13] (n + 1) (fun g i wr => ∃ k : Nat, k ≤ n ∧ g = n + 1 - k ∧ i = .int .i64 (k : Int) ∧ xs.take k = ys.take k ∧ Below w.heap.size w wr)
  case atStart => exact ⟨0, Nat.zero_le _, rfl, rfl, rfl, Below.refl _ _⟩
  case round =>
   obtain ⟨k, hk, rfl, rfl, htk, hbr⟩ := hrel
   have hz := hbr.size
   by_cases hlt : k < n
   ·
    obtain ⟨bA, oA, x, rfl, hbA, hp, hcp⟩ := (hA.below hbr).at_ hlt
    obtain ⟨bB, oB, y, rfl, hbB, hq, hcq⟩ := (hB.below hbr).at_ hlt
    have p0 := hcp 0 _ rfl
    have p1 := hcp 1 _ rfl
    have p2 := hcp 2 _ rfl
    have q0 := hcq 0 _ rfl
    have q1 := hcq 1 _ rfl
    have q2 := hcq 2 _ rfl
    rw [Nat.add_zero] at p0 q0
    clear hcp hcq
    have hbA2 : bA < wr.heap.size := by omega
    have hbB2 : bB < wr.heap.size := by omega
    have hiff := jH (take_succ_eqX htk hp hq)
    have hpH := jH hp
    have hqH := jH hq
    clear htk hp hq
    have hq0 : KQ wr.heap.size wr wr := kq (Below.refl _ _)
    obtain ⟨⟨x1, x2⟩, x3⟩ := x
    obtain ⟨⟨y1, y2⟩, y3⟩ := y
    dsimp only at p0 p1 p2 q0 q1 q2
    by_cases h1 : x1 = y1
    ·
     subst h1
     by_cases h2 : x2 = y2
     ·
      subst h2
      by_cases h3 : x3 = y3
      ·
       subst h3
       have hT := jH (hiff.out.2 rfl)
       clear hiff
       go_wp2
       go_region_held3 (fun w' => KQ wr.heap.size wr w') (first
        | with_reducible exact jP (by assumption) (by simp) (by assumption)
        | with_reducible exact yB (by assumption) (by simp) (by assumption) (by simp [Value.ownBlock])
        | ((with_reducible refine kq ?_); (repeat (first | (with_reducible exact Below.refl _ _) | (with_reducible refine Below.drew ?_) | (with_reducible refine Below.alloc ?_ (by simp) _) | (with_reducible refine Below.setCell ?_ (by simp) _) | (with_reducible exact (by assumption : KQ _ _ _).1))); done)) (first | (go_at_call 0; skip))
       have hG : Below w.heap.size w wr.drew := hbr.drew
       go_wp2
       go_roundg (n + 1 - (k + 1))
       case measure => omega
       case rel => exact ⟨k + 1, by omega, rfl, by go_num, hT.out, hG⟩
      ·
       have hT : Hid (false = r) := jH (by
        rw [← hrH.out]; symm; apply decide_eq_false; intro e; subst e
        have := hpH.out.symm.trans hqH.out
        simp at this; exact h3 this)
       clear hiff
       go_wp2
       go_region_held3 (fun w' => KQ wr.heap.size wr w') (first
        | with_reducible exact jP (by assumption) (by simp) (by assumption)
        | with_reducible exact yB (by assumption) (by simp) (by assumption) (by simp [Value.ownBlock])
        | ((with_reducible refine kq ?_); (repeat (first | (with_reducible exact Below.refl _ _) | (with_reducible refine Below.drew ?_) | (with_reducible refine Below.alloc ?_ (by simp) _) | (with_reducible refine Below.setCell ?_ (by simp) _) | (with_reducible exact (by assumption : KQ _ _ _).1))); done)) (first | (go_at_call 0; skip))
       have hG : Below w.heap.size w wr.drew := hbr.drew
       go_wp2
       go_ret
       exact ⟨jY hT.out, hG⟩
     ·
      have hT : Hid (false = r) := jH (by
       rw [← hrH.out]; symm; apply decide_eq_false; intro e; subst e
       have := hpH.out.symm.trans hqH.out
       simp at this; exact h2 this.1)
      clear hiff
      go_wp2
      go_region_held3 (fun w' => KQ wr.heap.size wr w') (first
       | with_reducible exact jP (by assumption) (by simp) (by assumption)
       | with_reducible exact yB (by assumption) (by simp) (by assumption) (by simp [Value.ownBlock])
       | ((with_reducible refine kq ?_); (repeat (first | (with_reducible exact Below.refl _ _) | (with_reducible refine Below.drew ?_) | (with_reducible refine Below.alloc ?_ (by simp) _) | (with_reducible refine Below.setCell ?_ (by simp) _) | (with_reducible exact (by assumption : KQ _ _ _).1))); done)) (first | (go_at_call 0; skip))
      have hG : Below w.heap.size w wr.drew := hbr.drew
      go_wp2
      go_ret
      exact ⟨jY hT.out, hG⟩
    ·
     have hT : Hid (false = r) := jH (by
      rw [← hrH.out]; symm; apply decide_eq_false; intro e; subst e
      have := hpH.out.symm.trans hqH.out
      simp at this; exact h1 this.1.1)
     clear hiff
     go_wp2
     go_region_held3 (fun w' => KQ wr.heap.size wr w') (first
      | with_reducible exact jP (by assumption) (by simp) (by assumption)
      | with_reducible exact yB (by assumption) (by simp) (by assumption) (by simp [Value.ownBlock])
      | ((
     with_reducible refine kq ?_); (repeat (first | (with_reducible exact Below.refl _ _) | (with_reducible refine Below.drew ?_) | (with_reducible refine Below.alloc ?_ (by simp) _) | (with_reducible refine Below.setCell ?_ (by simp) _) | (with_reducible exact (by assumption : KQ _ _ _).1))); done)) (first | (go_at_call 0; skip))
     have hG : Below w.heap.size w wr.drew := hbr.drew
     go_wp2
     go_ret
     exact ⟨jY hT.out, hG⟩
   ·
    have hT : Hid (true = r) := jH (by
     rw [← hrH.out]; symm; apply decide_eq_true
     rw [List.take_of_length_le (by omega), List.take_of_length_le (by omega)] at htk
     exact htk)
    go_wp2
    go_ret
    exact ⟨jY hT.out, hbr⟩
 ·
  have hT : Hid (false = r) := jH (by
   rw [← hrH.out]; symm; apply decide_eq_false; rintro rfl; omega)
  have hd : ((n : Int) != (m : Int)) = true := by simpa using hnm
  go_enter Tryz.func90, Tryz.ntmps90
  go_wp2
  go_ret
  exact ⟨jY hT.out, Below.refl _ _⟩
theorem vcheck_any (v : Vm) (w : World) :
 Calls Tryz.prog 82 #[.agg ↑v] w fun e w' => e = .returned (.int .i64 (errI (vchk v))) ∧ Below w.heap.size w w' := by
 generalize hr : errI (vchk v) = r
 have hrH := jH hr
 clear hr
 have hb : Below w.heap.size w (w.alloc (.cells ↑v 28)) := (Below.refl _ _).alloc (Nat.le_refl _) _
 go_enter Tryz.func82, Tryz.ntmps82
 go_wp2
 go_loopg [6] 9 (fun g i wr => ∃ k : Nat, k ≤ 8 ∧ g = 9 - k ∧ i = .int .i64 (k : Int) ∧ (∀ q : Nat, q < k → v.get q ≤ 1048576) ∧ wr = (w.alloc (.cells ↑v 28)))
 case atStart => exact ⟨0, by omega, rfl, rfl, by omega, rfl⟩
 case round =>
  obtain ⟨k, hk, rfl, rfl, hok, rfl⟩ := hrel
  have hokH := jH hok
  clear hok
  obtain rfl | rfl | rfl | rfl | rfl | rfl | rfl | rfl | rfl : k = 0 ∨ k = 1 ∨ k = 2 ∨ k = 3 ∨ k = 4 ∨ k = 5 ∨ k = 6 ∨ k = 7 ∨ k = 8 := by omega
  ·
   have ix : ∀ w, (Instr.index 28 (.agg ↑v) (.int .i64 0)).run Tryz.prog w = .ok (.int .u32 v.d0) w := fun _ => by kernel_rfl
   by_cases h : v.d0 ≤ 1048576
   ·
    have hT : Hid (∀ q : Nat, q < 1 → v.get q ≤ 1048576) := jH (by
     intro q hq
     rcases Nat.lt_succ_iff_lt_or_eq.1 hq with h' | rfl
     ·
      exact hokH.out q h'
     ·
      simpa [Vm.get] using h)
    have hd : decide (1048576 < v.d0) = false := by simpa using h
    go_wp2
    go_roundg (9 - 1)
    case measure => omega
    case rel => exact ⟨1, by omega, rfl, by go_num, hT.out, rfl⟩
   ·
    have hT : Hid (2 = r) := jH (by
     rw [← hrH.out, show vchk v = false by unfold vchk; rw [decide_eq_false_iff_not]; intro hh; apply h; (first | exact hh.1 | exact hh.2.1 | exact hh.2.2.1 | exact hh.2.2.2.1 | exact hh.2.2.2.2.1 | exact hh.2.2.2.2.2.1 | exact hh.2.2.2.2.2.2.1 | exact hh.2.2.2.2.2.2.2)]; rfl)
    have hd : decide (1048576 < v.d0) = true := by simpa using h
    go_wp2
    go_ret
    exact ⟨jJ hT.out, hb⟩
  ·
   have ix : ∀ w, (Instr.index 28 (.agg ↑v) (.int .i64 1)).run Tryz.prog w = .ok (.int .u32 v.d1) w := fun _ => by kernel_rfl
   by_cases h : v.d1 ≤ 1048576
   ·
    have hT : Hid (∀ q : Nat, q < 2 → v.get q ≤ 1048576) := jH (by
     intro q hq
     rcases Nat.lt_succ_iff_lt_or_eq.1 hq with h' | rfl
     ·
      exact hokH.out q h'
     ·
      simpa [Vm.get] using h)
    have hd : decide (1048576 < v.d1) = false := by simpa using h
    go_wp2
    go_roundg (9 - 2)
    case measure => omega
    case rel => exact ⟨2, by omega, rfl, by go_num, hT.out, rfl⟩
   ·
    have hT : Hid (2 = r) := jH (by
     rw [← hrH.out, show vchk v = false by unfold vchk; rw [decide_eq_false_iff_not]; intro hh; apply h; (first | exact hh.1 | exact hh.2.1 | exact hh.2.2.1 | exact hh.2.2.2.1 | exact hh.2.2.2.2.1 | exact hh.2.2.2.2.2.1 | exact hh.2.2.2.2.2.2.1 | exact hh.2.2.2.2.2.2.2)]; rfl)
    have hd : decide (1048576 < v.d1) = true := by simpa using h
    go_wp2
    go_ret
    exact ⟨jJ hT.out, hb⟩
  ·
   have ix : ∀ w, (Instr.index 28 (.agg ↑v) (.int .i64 2)).run Tryz.prog w = .ok (.int .u32 v.d2) w := fun _ => by kernel_rfl
   by_cases h : v.d2 ≤ 1048576
   ·
    have hT : Hid (∀ q : Nat, q < 3 → v.get q ≤ 1048576) := jH (by
     intro q hq
     rcases Nat.lt_succ_iff_lt_or_eq.1 hq with h' | rfl
     ·
      exact hokH.out q h'
     ·
      simpa [Vm.get] using h)
    have hd : decide (1048576 < v.d2) = false := by simpa using h
    go_wp2
    go_roundg (9 - 3)
    case measure => omega
    case rel => exact ⟨3, by omega, rfl, by go_num, hT.out, rfl⟩
   ·
    have hT : Hid (2 = r) := jH (by
     rw [← hrH.out, show vchk v = false by unfold vchk; rw [decide_eq_false_iff_not]; intro hh; apply h; (first | exact hh.1 | exact hh.2.1 | exact hh.2.2.1 | exact hh.2.2.2.1 | exact hh.2.2.2.2.1 | exact hh.2.2.2.2.2.1 | exact hh.2.2.2.2.2.2.1 | exact hh.2.2.2.2.2.2.2)]; rfl)
    have hd : decide (1048576 < v.d2) = true := by simpa using h
    go_wp2
    go_ret
    exact ⟨jJ hT.out, hb⟩
  ·
   have ix : ∀ w, (Instr.index 28 (.agg ↑v) (.int .i64 3)).run Tryz.prog w = .ok (.int .u32 v.d3) w := fun _ => by kernel_rfl
   by_cases h : v.d3 ≤ 1048576
   ·
    have hT : Hid (∀ q : Nat, q < 4 → v.get q ≤ 1048576) := jH (by
     intro q hq
     rcases Nat.lt_succ_iff_lt_or_eq.1 hq with h' | rfl
     ·
      exact hokH.out q h'
     ·
      simpa [Vm.get] using h)
    have hd : decide (1048576 < v.d3) = false := by simpa using h
    go_wp2
    go_roundg (9 - 4)
    case measure => omega
    case rel => exact ⟨4, by omega, rfl, by go_num, hT.out, rfl⟩
   ·
    have hT : Hid (2 = r) := jH (by
     rw [← hrH.out, show vchk v = false by unfold vchk; rw [decide_eq_false_iff_not]; intro hh; apply h; (first | exact hh.1 | exact hh.2.1 | exact hh.2.2.1 | exact hh.2.2.2.1 | exact hh.2.2.2.2.1 | exact hh.2.2.2.2.2.1 | exact hh.2.2.2.2.2.2.1 | exact hh.2.2.2.2.2.2.2)]; rfl)
    have hd : decide (1048576 < v.d3) = true := by simpa using h
    go_wp2
    go_ret
    exact ⟨jJ hT.out, hb⟩
  ·
   have ix : ∀ w, (Instr.index 28 (.agg ↑v) (.int .i64 4)).run Tryz.prog w = .ok (.int .u32 v.d4) w := fun _ => by kernel_rfl
   by_cases h : v.d4 ≤ 1048576
   ·
    have hT : Hid (∀ q : Nat, q < 5 → v.get q ≤ 1048576) := jH (by
     intro q hq
     rcases Nat.lt_succ_iff_lt_or_eq.1 hq with h' | rfl
     ·
      exact hokH.out q h'
     ·
      simpa [Vm.get] using h)
    have hd : decide (1048576 < v.d4) = false := by simpa using h
    go_wp2
    go_roundg (9 - 5)
    case measure => omega
    case rel => exact ⟨5, by omega, rfl, by go_num, hT.out, rfl⟩
   ·
    have hT : Hid (2 = r) := jH (by
     rw [← hrH.out, show vchk v = false by unfold vchk; rw [decide_eq_false_iff_not]; intro hh; apply h; (first | exact hh.1 | exact hh.2.1 | exact hh.2.2.1 | exact hh.2.2.2.1 | exact hh.2.2.2.2.1 | exact hh.2.2.2.2.2.1 | exact hh.2.2.2.2.2.2.1 | exact hh.2.2.2.2.2.2.2)]; rfl)
    have hd : decide (1048576 < v.d4) = true := by simpa using h
    go_wp2
    go_ret
    exact ⟨jJ hT.out, hb⟩
  ·
   have ix : ∀ w, (Instr.index 28 (.agg ↑v) (.int .i64 5)).run Tryz.prog w = .ok (.int .u32 v.d5) w := fun _ => by kernel_rfl
   by_cases h : v.d5 ≤ 1048576
   ·
    have hT : Hid (∀ q : Nat, q < 6 → v.get q ≤ 1048576) := jH (by
     intro q hq
     rcases Nat.lt_succ_iff_lt_or_eq.1 hq with h' | rfl
     ·
      exact hokH.out q h'
     ·
      simpa [Vm.get] using h)
    have hd : decide (1048576 < v.d5) = false := by simpa using h
    go_wp2
    go_roundg (9 - 6)
    case measure => omega
    case rel => exact ⟨6, by omega, rfl, by go_num, hT.out, rfl⟩
   ·
    have hT : Hid (2 = r) := jH (by
     rw [← hrH.out, show vchk v = false by unfold vchk; rw [decide_eq_false_iff_not]; intro hh; apply h; (first | exact hh.1 | exact hh.2.1 | exact hh.2.2.1 | exact hh.2.2.2.1 | exact hh.2.2.2.2.1 | exact hh.2.2.2.2.2.1 | exact hh.2.2.2.2.2.2.1 | exact hh.2.2.2.2.2.2.2)]; rfl)
    have hd : decide (1048576 < v.d5) = true := by simpa using h
    go_wp2
    go_ret
    exact ⟨jJ hT.out, hb⟩
  ·
   have ix : ∀ w, (Instr.index 28 (.agg ↑v) (.int .i64 6)).run Tryz.prog w = .ok (.int .u32 v.d6) w := fun _ => by kernel_rfl
   by_cases h : v.d6 ≤ 1048576
   ·
    have hT : Hid (∀ q : Nat, q < 7 → v.get q ≤ 1048576) := jH (by
     intro q hq
     rcases Nat.lt_succ_iff_lt_or_eq.1 hq with h' | rfl
     ·
      exact hokH.out q h'
     ·
      simpa [Vm.get] using h)
    have hd : decide (1048576 < v.d6) = false := by simpa using h
    go_wp2
    go_roundg (9 - 7)
    case measure => omega
    case rel => exact ⟨7, by omega, rfl, by go_num, hT.out, rfl⟩
   ·
    have hT : Hid (2 = r) := jH (by
     rw [← hrH.out, show vchk v = false by unfold vchk; rw [decide_eq_false_iff_not]; intro hh; apply h; (first | exact hh.1 | exact hh.2.1 | exact hh.2.2.1 | exact hh.2.2.2.1 | exact hh.2.2.2.2.1 | exact hh.2.2.2.2.2.1 | exact hh.2.2.2.2.2.2.1 | exact hh.2.2.2.2.2.2.2)]; rfl)
    have hd : decide (1048576 < v.d6) = true := by simpa using h
    go_wp2
    go_ret
    exact ⟨jJ hT.out, hb⟩
  ·
   have ix : ∀ w, (Instr.index 28 (.agg ↑v) (.int .i64 7)).run Tryz.prog w = .ok (.int .u32 v.d7) w := fun _ => by kernel_rfl
   by_cases h : v.d7 ≤ 1048576
   ·
    have hT : Hid (∀ q : Nat, q < 8 → v.get q ≤ 1048576) := jH (by
     intro q hq
     rcases Nat.lt_succ_iff_lt_or_eq.1 hq with h' | rfl
     ·
      exact hokH.out q h'
     ·
      simpa [Vm.get] using h)
    have hd : decide (1048576 < v.d7) = false := by simpa using h
    go_wp2
    go_roundg (9 - 8)
    case measure => omega
    case rel => exact ⟨8, by omega, rfl, by go_num, hT.out, rfl⟩
   ·
    have hT : Hid (2 = r) := jH (by
     rw [← hrH.out, show vchk v = false by unfold vchk; rw [decide_eq_false_iff_not]; intro hh; apply h; (first | exact hh.1 | exact hh.2.1 | exact hh.2.2.1 | exact hh.2.2.2.1 | exact hh.2.2.2.2.1 | exact hh.2.2.2.2.2.1 | exact hh.2.2.2.2.2.2.1 | exact hh.2.2.2.2.2.2.2)]; rfl)
    have hd : decide (1048576 < v.d7) = true := by simpa using h
    go_wp2
    go_ret
    exact ⟨jJ hT.out, hb⟩
  ·
   have hT : Hid (0 = r) := jH (by
    rw [← hrH.out, show vchk v = true by
     unfold vchk; rw [decide_eq_true_eq]
     exact ⟨hokH.out 0 (by omega), hokH.out 1 (by omega), hokH.out 2 (by omega), hokH.out 3 (by omega), hokH.out 4 (by omega), hokH.out 5 (by omega), hokH.out 6 (by omega), hokH.out 7 (by omega)⟩]
    rfl)
   go_wp2
   go_ret
   exact ⟨jJ hT.out, hb⟩
def eqV (a b : Vm) : Bool := [a.d0, a.d1, a.d2, a.d3, a.d4, a.d5, a.d6, a.d7] == [b.d0, b.d1, b.d2, b.d3, b.d4, b.d5, b.d6, b.d7]
theorem eqV_iff {a b : Vm} : eqV a b = true ↔ a = b := by
 obtain ⟨a0, a1, a2, a3, a4, a5, a6, a7⟩ := a
 obtain ⟨b0, b1, b2, b3, b4, b5, b6, b7⟩ := b
 simp [eqV]
theorem neqV2 (a b : Vm) (w : World) : (binOp .neq 28 (.agg ↑a) (.agg ↑b)).run Tryz.prog w = .ok (.bool (!eqV a b)) w := by
 have h := run_neq_ints (P := Tryz.prog) (t := 28) (k := .u32) Tryz.underlying28 (Option.eq_some_of_isSome (by kernel_rfl)) (by kernel_rfl) Tryz.underlying22 [a.d0, a.d1, a.d2, a.d3, a.d4, a.d5, a.d6, a.d7] [b.d0, b.d1, b.d2, b.d3, b.d4, b.d5, b.d6, b.d7] rfl rfl w
 exact h
theorem eqlV2 (a b : Vm) (w : World) : (binOp .eql 28 (.agg ↑a) (.agg ↑b)).run Tryz.prog w = .ok (.bool (eqV a b)) w := by
 have h := run_eql_ints (P := Tryz.prog) (t := 28) (k := .u32) Tryz.underlying28 (Option.eq_some_of_isSome (by kernel_rfl)) (by kernel_rfl) Tryz.underlying22 [a.d0, a.d1, a.d2, a.d3, a.d4, a.d5, a.d6, a.d7] [b.d0, b.d1, b.d2, b.d3, b.d4, b.d5, b.d6, b.d7] rfl rfl w
 exact h
end Go.Proofs.YtfhandglpjnonaaGreatDoor
