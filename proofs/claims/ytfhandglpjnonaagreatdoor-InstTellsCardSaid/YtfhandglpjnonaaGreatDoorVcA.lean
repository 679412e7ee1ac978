/- What is wrong with a vector (both). -/
import Derived.Test.YtfhandglpjnonaaGreatDoorM25
import Derived.Test.YtfhandglpjnonaaGreatDoorPl
namespace Go.Proofs.YtfhandglpjnonaaGreatDoor
open Go.RowKit

set_option maxRecDepth 100000 in
set_option maxHeartbeats 1000000 in
theorem vcheck_any (v : Vm) (w : World) :
    Calls Tryz.prog 82 #[.agg #[.int .u32 v.d0, .int .u32 v.d1, .int .u32 v.d2, .int .u32 v.d3, .int .u32 v.d4, .int .u32 v.d5, .int .u32 v.d6, .int .u32 v.d7]] w fun e w' => e = .returned (.int .i64 (errI (vchk v))) ∧ Below w.heap.size w w' := by
  generalize hr : errI (vchk v) = r
  have hrH := Lib.hid hr
  clear hr
  have hb : Below w.heap.size w (w.alloc (.cells #[.int .u32 v.d0, .int .u32 v.d1, .int .u32 v.d2, .int .u32 v.d3, .int .u32 v.d4, .int .u32 v.d5, .int .u32 v.d6, .int .u32 v.d7] 28)) := (Below.refl _ _).alloc (Nat.le_refl _) _
  go_enter Tryz.func82, Tryz.ntmps82
  go_wp2
  go_loopg [6] 9 (fun g i wr => ∃ k : Nat, k ≤ 8 ∧ g = 9 - k ∧ i = .int .i64 (k : Int) ∧ (∀ q : Nat, q < k → v.get q ≤ 1048576) ∧ wr = (w.alloc (.cells #[.int .u32 v.d0, .int .u32 v.d1, .int .u32 v.d2, .int .u32 v.d3, .int .u32 v.d4, .int .u32 v.d5, .int .u32 v.d6, .int .u32 v.d7] 28)))
  case atStart => exact ⟨0, by omega, rfl, rfl, by omega, rfl⟩
  case round =>
    obtain ⟨k, hk, rfl, rfl, hok, rfl⟩ := hrel
    have hokH := Lib.hid hok
    clear hok
    obtain rfl | rfl | rfl | rfl | rfl | rfl | rfl | rfl | rfl : k = 0 ∨ k = 1 ∨ k = 2 ∨ k = 3 ∨ k = 4 ∨ k = 5 ∨ k = 6 ∨ k = 7 ∨ k = 8 := by omega
    · have ix : ∀ w, (Instr.index 28 (.agg #[.int .u32 v.d0, .int .u32 v.d1, .int .u32 v.d2, .int .u32 v.d3, .int .u32 v.d4, .int .u32 v.d5, .int .u32 v.d6, .int .u32 v.d7]) (.int .i64 0)).run Tryz.prog w = .ok (.int .u32 v.d0) w := fun _ => by kernel_rfl
      by_cases h : v.d0 ≤ 1048576
      · have hT : Hid (∀ q : Nat, q < 1 → v.get q ≤ 1048576) := Lib.hid (by
          intro q hq
          rcases Nat.lt_succ_iff_lt_or_eq.1 hq with h' | rfl
          · exact hokH.out q h'
          · simpa [Vm.get] using h)
        have hd : decide (1048576 < v.d0) = false := by simpa using h
        go_wp2
        go_roundg (9 - 1)
        case measure => omega
        case rel => exact ⟨1, by omega, rfl, by go_num, hT.out, rfl⟩
      · have hT : Hid (2 = r) := Lib.hid (by
          rw [← hrH.out, show vchk v = false by unfold vchk; rw [decide_eq_false_iff_not]; intro hh; apply h; (first | exact hh.1 | exact hh.2.1 | exact hh.2.2.1 | exact hh.2.2.2.1 | exact hh.2.2.2.2.1 | exact hh.2.2.2.2.2.1 | exact hh.2.2.2.2.2.2.1 | exact hh.2.2.2.2.2.2.2)]; rfl)
        have hd : decide (1048576 < v.d0) = true := by simpa using h
        go_wp2
        go_ret
        exact ⟨ret_int hT.out, hb⟩
    · have ix : ∀ w, (Instr.index 28 (.agg #[.int .u32 v.d0, .int .u32 v.d1, .int .u32 v.d2, .int .u32 v.d3, .int .u32 v.d4, .int .u32 v.d5, .int .u32 v.d6, .int .u32 v.d7]) (.int .i64 1)).run Tryz.prog w = .ok (.int .u32 v.d1) w := fun _ => by kernel_rfl
      by_cases h : v.d1 ≤ 1048576
      · have hT : Hid (∀ q : Nat, q < 2 → v.get q ≤ 1048576) := Lib.hid (by
          intro q hq
          rcases Nat.lt_succ_iff_lt_or_eq.1 hq with h' | rfl
          · exact hokH.out q h'
          · simpa [Vm.get] using h)
        have hd : decide (1048576 < v.d1) = false := by simpa using h
        go_wp2
        go_roundg (9 - 2)
        case measure => omega
        case rel => exact ⟨2, by omega, rfl, by go_num, hT.out, rfl⟩
      · have hT : Hid (2 = r) := Lib.hid (by
          rw [← hrH.out, show vchk v = false by unfold vchk; rw [decide_eq_false_iff_not]; intro hh; apply h; (first | exact hh.1 | exact hh.2.1 | exact hh.2.2.1 | exact hh.2.2.2.1 | exact hh.2.2.2.2.1 | exact hh.2.2.2.2.2.1 | exact hh.2.2.2.2.2.2.1 | exact hh.2.2.2.2.2.2.2)]; rfl)
        have hd : decide (1048576 < v.d1) = true := by simpa using h
        go_wp2
        go_ret
        exact ⟨ret_int hT.out, hb⟩
    · have ix : ∀ w, (Instr.index 28 (.agg #[.int .u32 v.d0, .int .u32 v.d1, .int .u32 v.d2, .int .u32 v.d3, .int .u32 v.d4, .int .u32 v.d5, .int .u32 v.d6, .int .u32 v.d7]) (.int .i64 2)).run Tryz.prog w = .ok (.int .u32 v.d2) w := fun _ => by kernel_rfl
      by_cases h : v.d2 ≤ 1048576
      · have hT : Hid (∀ q : Nat, q < 3 → v.get q ≤ 1048576) := Lib.hid (by
          intro q hq
          rcases Nat.lt_succ_iff_lt_or_eq.1 hq with h' | rfl
          · exact hokH.out q h'
          · simpa [Vm.get] using h)
        have hd : decide (1048576 < v.d2) = false := by simpa using h
        go_wp2
        go_roundg (9 - 3)
        case measure => omega
        case rel => exact ⟨3, by omega, rfl, by go_num, hT.out, rfl⟩
      · have hT : Hid (2 = r) := Lib.hid (by
          rw [← hrH.out, show vchk v = false by unfold vchk; rw [decide_eq_false_iff_not]; intro hh; apply h; (first | exact hh.1 | exact hh.2.1 | exact hh.2.2.1 | exact hh.2.2.2.1 | exact hh.2.2.2.2.1 | exact hh.2.2.2.2.2.1 | exact hh.2.2.2.2.2.2.1 | exact hh.2.2.2.2.2.2.2)]; rfl)
        have hd : decide (1048576 < v.d2) = true := by simpa using h
        go_wp2
        go_ret
        exact ⟨ret_int hT.out, hb⟩
    · have ix : ∀ w, (Instr.index 28 (.agg #[.int .u32 v.d0, .int .u32 v.d1, .int .u32 v.d2, .int .u32 v.d3, .int .u32 v.d4, .int .u32 v.d5, .int .u32 v.d6, .int .u32 v.d7]) (.int .i64 3)).run Tryz.prog w = .ok (.int .u32 v.d3) w := fun _ => by kernel_rfl
      by_cases h : v.d3 ≤ 1048576
      · have hT : Hid (∀ q : Nat, q < 4 → v.get q ≤ 1048576) := Lib.hid (by
          intro q hq
          rcases Nat.lt_succ_iff_lt_or_eq.1 hq with h' | rfl
          · exact hokH.out q h'
          · simpa [Vm.get] using h)
        have hd : decide (1048576 < v.d3) = false := by simpa using h
        go_wp2
        go_roundg (9 - 4)
        case measure => omega
        case rel => exact ⟨4, by omega, rfl, by go_num, hT.out, rfl⟩
      · have hT : Hid (2 = r) := Lib.hid (by
          rw [← hrH.out, show vchk v = false by unfold vchk; rw [decide_eq_false_iff_not]; intro hh; apply h; (first | exact hh.1 | exact hh.2.1 | exact hh.2.2.1 | exact hh.2.2.2.1 | exact hh.2.2.2.2.1 | exact hh.2.2.2.2.2.1 | exact hh.2.2.2.2.2.2.1 | exact hh.2.2.2.2.2.2.2)]; rfl)
        have hd : decide (1048576 < v.d3) = true := by simpa using h
        go_wp2
        go_ret
        exact ⟨ret_int hT.out, hb⟩
    · have ix : ∀ w, (Instr.index 28 (.agg #[.int .u32 v.d0, .int .u32 v.d1, .int .u32 v.d2, .int .u32 v.d3, .int .u32 v.d4, .int .u32 v.d5, .int .u32 v.d6, .int .u32 v.d7]) (.int .i64 4)).run Tryz.prog w = .ok (.int .u32 v.d4) w := fun _ => by kernel_rfl
      by_cases h : v.d4 ≤ 1048576
      · have hT : Hid (∀ q : Nat, q < 5 → v.get q ≤ 1048576) := Lib.hid (by
          intro q hq
          rcases Nat.lt_succ_iff_lt_or_eq.1 hq with h' | rfl
          · exact hokH.out q h'
          · simpa [Vm.get] using h)
        have hd : decide (1048576 < v.d4) = false := by simpa using h
        go_wp2
        go_roundg (9 - 5)
        case measure => omega
        case rel => exact ⟨5, by omega, rfl, by go_num, hT.out, rfl⟩
      · have hT : Hid (2 = r) := Lib.hid (by
          rw [← hrH.out, show vchk v = false by unfold vchk; rw [decide_eq_false_iff_not]; intro hh; apply h; (first | exact hh.1 | exact hh.2.1 | exact hh.2.2.1 | exact hh.2.2.2.1 | exact hh.2.2.2.2.1 | exact hh.2.2.2.2.2.1 | exact hh.2.2.2.2.2.2.1 | exact hh.2.2.2.2.2.2.2)]; rfl)
        have hd : decide (1048576 < v.d4) = true := by simpa using h
        go_wp2
        go_ret
        exact ⟨ret_int hT.out, hb⟩
    · have ix : ∀ w, (Instr.index 28 (.agg #[.int .u32 v.d0, .int .u32 v.d1, .int .u32 v.d2, .int .u32 v.d3, .int .u32 v.d4, .int .u32 v.d5, .int .u32 v.d6, .int .u32 v.d7]) (.int .i64 5)).run Tryz.prog w = .ok (.int .u32 v.d5) w := fun _ => by kernel_rfl
      by_cases h : v.d5 ≤ 1048576
      · have hT : Hid (∀ q : Nat, q < 6 → v.get q ≤ 1048576) := Lib.hid (by
          intro q hq
          rcases Nat.lt_succ_iff_lt_or_eq.1 hq with h' | rfl
          · exact hokH.out q h'
          · simpa [Vm.get] using h)
        have hd : decide (1048576 < v.d5) = false := by simpa using h
        go_wp2
        go_roundg (9 - 6)
        case measure => omega
        case rel => exact ⟨6, by omega, rfl, by go_num, hT.out, rfl⟩
      · have hT : Hid (2 = r) := Lib.hid (by
          rw [← hrH.out, show vchk v = false by unfold vchk; rw [decide_eq_false_iff_not]; intro hh; apply h; (first | exact hh.1 | exact hh.2.1 | exact hh.2.2.1 | exact hh.2.2.2.1 | exact hh.2.2.2.2.1 | exact hh.2.2.2.2.2.1 | exact hh.2.2.2.2.2.2.1 | exact hh.2.2.2.2.2.2.2)]; rfl)
        have hd : decide (1048576 < v.d5) = true := by simpa using h
        go_wp2
        go_ret
        exact ⟨ret_int hT.out, hb⟩
    · have ix : ∀ w, (Instr.index 28 (.agg #[.int .u32 v.d0, .int .u32 v.d1, .int .u32 v.d2, .int .u32 v.d3, .int .u32 v.d4, .int .u32 v.d5, .int .u32 v.d6, .int .u32 v.d7]) (.int .i64 6)).run Tryz.prog w = .ok (.int .u32 v.d6) w := fun _ => by kernel_rfl
      by_cases h : v.d6 ≤ 1048576
      · have hT : Hid (∀ q : Nat, q < 7 → v.get q ≤ 1048576) := Lib.hid (by
          intro q hq
          rcases Nat.lt_succ_iff_lt_or_eq.1 hq with h' | rfl
          · exact hokH.out q h'
          · simpa [Vm.get] using h)
        have hd : decide (1048576 < v.d6) = false := by simpa using h
        go_wp2
        go_roundg (9 - 7)
        case measure => omega
        case rel => exact ⟨7, by omega, rfl, by go_num, hT.out, rfl⟩
      · have hT : Hid (2 = r) := Lib.hid (by
          rw [← hrH.out, show vchk v = false by unfold vchk; rw [decide_eq_false_iff_not]; intro hh; apply h; (first | exact hh.1 | exact hh.2.1 | exact hh.2.2.1 | exact hh.2.2.2.1 | exact hh.2.2.2.2.1 | exact hh.2.2.2.2.2.1 | exact hh.2.2.2.2.2.2.1 | exact hh.2.2.2.2.2.2.2)]; rfl)
        have hd : decide (1048576 < v.d6) = true := by simpa using h
        go_wp2
        go_ret
        exact ⟨ret_int hT.out, hb⟩
    · have ix : ∀ w, (Instr.index 28 (.agg #[.int .u32 v.d0, .int .u32 v.d1, .int .u32 v.d2, .int .u32 v.d3, .int .u32 v.d4, .int .u32 v.d5, .int .u32 v.d6, .int .u32 v.d7]) (.int .i64 7)).run Tryz.prog w = .ok (.int .u32 v.d7) w := fun _ => by kernel_rfl
      by_cases h : v.d7 ≤ 1048576
      · have hT : Hid (∀ q : Nat, q < 8 → v.get q ≤ 1048576) := Lib.hid (by
          intro q hq
          rcases Nat.lt_succ_iff_lt_or_eq.1 hq with h' | rfl
          · exact hokH.out q h'
          · simpa [Vm.get] using h)
        have hd : decide (1048576 < v.d7) = false := by simpa using h
        go_wp2
        go_roundg (9 - 8)
        case measure => omega
        case rel => exact ⟨8, by omega, rfl, by go_num, hT.out, rfl⟩
      · have hT : Hid (2 = r) := Lib.hid (by
          rw [← hrH.out, show vchk v = false by unfold vchk; rw [decide_eq_false_iff_not]; intro hh; apply h; (first | exact hh.1 | exact hh.2.1 | exact hh.2.2.1 | exact hh.2.2.2.1 | exact hh.2.2.2.2.1 | exact hh.2.2.2.2.2.1 | exact hh.2.2.2.2.2.2.1 | exact hh.2.2.2.2.2.2.2)]; rfl)
        have hd : decide (1048576 < v.d7) = true := by simpa using h
        go_wp2
        go_ret
        exact ⟨ret_int hT.out, hb⟩
    · have hT : Hid (0 = r) := Lib.hid (by
        rw [← hrH.out, show vchk v = true by
          unfold vchk; rw [decide_eq_true_eq]
          exact ⟨hokH.out 0 (by omega), hokH.out 1 (by omega), hokH.out 2 (by omega), hokH.out 3 (by omega), hokH.out 4 (by omega), hokH.out 5 (by omega), hokH.out 6 (by omega), hokH.out 7 (by omega)⟩]
        rfl)
      go_wp2
      go_ret
      exact ⟨ret_int hT.out, hb⟩
set_option maxRecDepth 100000 in
set_option maxHeartbeats 1000000 in
theorem rvcheck_any (v : Vm) (w : World) :
    Calls Tryz.prog 36 #[.agg #[.int .u32 v.d0, .int .u32 v.d1, .int .u32 v.d2, .int .u32 v.d3, .int .u32 v.d4, .int .u32 v.d5, .int .u32 v.d6, .int .u32 v.d7]] w fun e w' => e = .returned (.int .i64 (errI (vchk v))) ∧ Below w.heap.size w w' := by
  generalize hr : errI (vchk v) = r
  have hrH := Lib.hid hr
  clear hr
  have hb : Below w.heap.size w (w.alloc (.cells #[.int .u32 v.d0, .int .u32 v.d1, .int .u32 v.d2, .int .u32 v.d3, .int .u32 v.d4, .int .u32 v.d5, .int .u32 v.d6, .int .u32 v.d7] 28)) := (Below.refl _ _).alloc (Nat.le_refl _) _
  go_enter Tryz.func36, Tryz.ntmps36
  go_wp2
  go_loopg [3] 9 (fun g i wr => ∃ k : Nat, k ≤ 8 ∧ g = 9 - k ∧ i = .int .i64 (k : Int) ∧ (∀ q : Nat, q < k → v.get q ≤ 1048576) ∧ wr = (w.alloc (.cells #[.int .u32 v.d0, .int .u32 v.d1, .int .u32 v.d2, .int .u32 v.d3, .int .u32 v.d4, .int .u32 v.d5, .int .u32 v.d6, .int .u32 v.d7] 28)))
  case atStart => exact ⟨0, by omega, rfl, rfl, by omega, rfl⟩
  case round =>
    obtain ⟨k, hk, rfl, rfl, hok, rfl⟩ := hrel
    have hokH := Lib.hid hok
    clear hok
    obtain rfl | rfl | rfl | rfl | rfl | rfl | rfl | rfl | rfl : k = 0 ∨ k = 1 ∨ k = 2 ∨ k = 3 ∨ k = 4 ∨ k = 5 ∨ k = 6 ∨ k = 7 ∨ k = 8 := by omega
    · have ix : ∀ w, (Instr.index 28 (.agg #[.int .u32 v.d0, .int .u32 v.d1, .int .u32 v.d2, .int .u32 v.d3, .int .u32 v.d4, .int .u32 v.d5, .int .u32 v.d6, .int .u32 v.d7]) (.int .i64 0)).run Tryz.prog w = .ok (.int .u32 v.d0) w := fun _ => by kernel_rfl
      by_cases h : v.d0 ≤ 1048576
      · have hT : Hid (∀ q : Nat, q < 1 → v.get q ≤ 1048576) := Lib.hid (by
          intro q hq
          rcases Nat.lt_succ_iff_lt_or_eq.1 hq with h' | rfl
          · exact hokH.out q h'
          · simpa [Vm.get] using h)
        have hd : decide (1048576 < v.d0) = false := by simpa using h
        go_wp2
        go_roundg (9 - 1)
        case measure => omega
        case rel => exact ⟨1, by omega, rfl, by go_num, hT.out, rfl⟩
      · have hT : Hid (2 = r) := Lib.hid (by
          rw [← hrH.out, show vchk v = false by unfold vchk; rw [decide_eq_false_iff_not]; intro hh; apply h; (first | exact hh.1 | exact hh.2.1 | exact hh.2.2.1 | exact hh.2.2.2.1 | exact hh.2.2.2.2.1 | exact hh.2.2.2.2.2.1 | exact hh.2.2.2.2.2.2.1 | exact hh.2.2.2.2.2.2.2)]; rfl)
        have hd : decide (1048576 < v.d0) = true := by simpa using h
        go_wp2
        go_ret
        exact ⟨ret_int hT.out, hb⟩
    · have ix : ∀ w, (Instr.index 28 (.agg #[.int .u32 v.d0, .int .u32 v.d1, .int .u32 v.d2, .int .u32 v.d3, .int .u32 v.d4, .int .u32 v.d5, .int .u32 v.d6, .int .u32 v.d7]) (.int .i64 1)).run Tryz.prog w = .ok (.int .u32 v.d1) w := fun _ => by kernel_rfl
      by_cases h : v.d1 ≤ 1048576
      · have hT : Hid (∀ q : Nat, q < 2 → v.get q ≤ 1048576) := Lib.hid (by
          intro q hq
          rcases Nat.lt_succ_iff_lt_or_eq.1 hq with h' | rfl
          · exact hokH.out q h'
          · simpa [Vm.get] using h)
        have hd : decide (1048576 < v.d1) = false := by simpa using h
        go_wp2
        go_roundg (9 - 2)
        case measure => omega
        case rel => exact ⟨2, by omega, rfl, by go_num, hT.out, rfl⟩
      · have hT : Hid (2 = r) := Lib.hid (by
          rw [← hrH.out, show vchk v = false by unfold vchk; rw [decide_eq_false_iff_not]; intro hh; apply h; (first | exact hh.1 | exact hh.2.1 | exact hh.2.2.1 | exact hh.2.2.2.1 | exact hh.2.2.2.2.1 | exact hh.2.2.2.2.2.1 | exact hh.2.2.2.2.2.2.1 | exact hh.2.2.2.2.2.2.2)]; rfl)
        have hd : decide (1048576 < v.d1) = true := by simpa using h
        go_wp2
        go_ret
        exact ⟨ret_int hT.out, hb⟩
    · have ix : ∀ w, (Instr.index 28 (.agg #[.int .u32 v.d0, .int .u32 v.d1, .int .u32 v.d2, .int .u32 v.d3, .int .u32 v.d4, .int .u32 v.d5, .int .u32 v.d6, .int .u32 v.d7]) (.int .i64 2)).run Tryz.prog w = .ok (.int .u32 v.d2) w := fun _ => by kernel_rfl
      by_cases h : v.d2 ≤ 1048576
      · have hT : Hid (∀ q : Nat, q < 3 → v.get q ≤ 1048576) := Lib.hid (by
          intro q hq
          rcases Nat.lt_succ_iff_lt_or_eq.1 hq with h' | rfl
          · exact hokH.out q h'
          · simpa [Vm.get] using h)
        have hd : decide (1048576 < v.d2) = false := by simpa using h
        go_wp2
        go_roundg (9 - 3)
        case measure => omega
        case rel => exact ⟨3, by omega, rfl, by go_num, hT.out, rfl⟩
      · have hT : Hid (2 = r) := Lib.hid (by
          rw [← hrH.out, show vchk v = false by unfold vchk; rw [decide_eq_false_iff_not]; intro hh; apply h; (first | exact hh.1 | exact hh.2.1 | exact hh.2.2.1 | exact hh.2.2.2.1 | exact hh.2.2.2.2.1 | exact hh.2.2.2.2.2.1 | exact hh.2.2.2.2.2.2.1 | exact hh.2.2.2.2.2.2.2)]; rfl)
        have hd : decide (1048576 < v.d2) = true := by simpa using h
        go_wp2
        go_ret
        exact ⟨ret_int hT.out, hb⟩
    · have ix : ∀ w, (Instr.index 28 (.agg #[.int .u32 v.d0, .int .u32 v.d1, .int .u32 v.d2, .int .u32 v.d3, .int .u32 v.d4, .int .u32 v.d5, .int .u32 v.d6, .int .u32 v.d7]) (.int .i64 3)).run Tryz.prog w = .ok (.int .u32 v.d3) w := fun _ => by kernel_rfl
      by_cases h : v.d3 ≤ 1048576
      · have hT : Hid (∀ q : Nat, q < 4 → v.get q ≤ 1048576) := Lib.hid (by
          intro q hq
          rcases Nat.lt_succ_iff_lt_or_eq.1 hq with h' | rfl
          · exact hokH.out q h'
          · simpa [Vm.get] using h)
        have hd : decide (1048576 < v.d3) = false := by simpa using h
        go_wp2
        go_roundg (9 - 4)
        case measure => omega
        case rel => exact ⟨4, by omega, rfl, by go_num, hT.out, rfl⟩
      · have hT : Hid (2 = r) := Lib.hid (by
          rw [← hrH.out, show vchk v = false by unfold vchk; rw [decide_eq_false_iff_not]; intro hh; apply h; (first | exact hh.1 | exact hh.2.1 | exact hh.2.2.1 | exact hh.2.2.2.1 | exact hh.2.2.2.2.1 | exact hh.2.2.2.2.2.1 | exact hh.2.2.2.2.2.2.1 | exact hh.2.2.2.2.2.2.2)]; rfl)
        have hd : decide (1048576 < v.d3) = true := by simpa using h
        go_wp2
        go_ret
        exact ⟨ret_int hT.out, hb⟩
    · have ix : ∀ w, (Instr.index 28 (.agg #[.int .u32 v.d0, .int .u32 v.d1, .int .u32 v.d2, .int .u32 v.d3, .int .u32 v.d4, .int .u32 v.d5, .int .u32 v.d6, .int .u32 v.d7]) (.int .i64 4)).run Tryz.prog w = .ok (.int .u32 v.d4) w := fun _ => by kernel_rfl
      by_cases h : v.d4 ≤ 1048576
      · have hT : Hid (∀ q : Nat, q < 5 → v.get q ≤ 1048576) := Lib.hid (by
          intro q hq
          rcases Nat.lt_succ_iff_lt_or_eq.1 hq with h' | rfl
          · exact hokH.out q h'
          · simpa [Vm.get] using h)
        have hd : decide (1048576 < v.d4) = false := by simpa using h
        go_wp2
        go_roundg (9 - 5)
        case measure => omega
        case rel => exact ⟨5, by omega, rfl, by go_num, hT.out, rfl⟩
      · have hT : Hid (2 = r) := Lib.hid (by
          rw [← hrH.out, show vchk v = false by unfold vchk; rw [decide_eq_false_iff_not]; intro hh; apply h; (first | exact hh.1 | exact hh.2.1 | exact hh.2.2.1 | exact hh.2.2.2.1 | exact hh.2.2.2.2.1 | exact hh.2.2.2.2.2.1 | exact hh.2.2.2.2.2.2.1 | exact hh.2.2.2.2.2.2.2)]; rfl)
        have hd : decide (1048576 < v.d4) = true := by simpa using h
        go_wp2
        go_ret
        exact ⟨ret_int hT.out, hb⟩
    · have ix : ∀ w, (Instr.index 28 (.agg #[.int .u32 v.d0, .int .u32 v.d1, .int .u32 v.d2, .int .u32 v.d3, .int .u32 v.d4, .int .u32 v.d5, .int .u32 v.d6, .int .u32 v.d7]) (.int .i64 5)).run Tryz.prog w = .ok (.int .u32 v.d5) w := fun _ => by kernel_rfl
      by_cases h : v.d5 ≤ 1048576
      · have hT : Hid (∀ q : Nat, q < 6 → v.get q ≤ 1048576) := Lib.hid (by
          intro q hq
          rcases Nat.lt_succ_iff_lt_or_eq.1 hq with h' | rfl
          · exact hokH.out q h'
          · simpa [Vm.get] using h)
        have hd : decide (1048576 < v.d5) = false := by simpa using h
        go_wp2
        go_roundg (9 - 6)
        case measure => omega
        case rel => exact ⟨6, by omega, rfl, by go_num, hT.out, rfl⟩
      · have hT : Hid (2 = r) := Lib.hid (by
          rw [← hrH.out, show vchk v = false by unfold vchk; rw [decide_eq_false_iff_not]; intro hh; apply h; (first | exact hh.1 | exact hh.2.1 | exact hh.2.2.1 | exact hh.2.2.2.1 | exact hh.2.2.2.2.1 | exact hh.2.2.2.2.2.1 | exact hh.2.2.2.2.2.2.1 | exact hh.2.2.2.2.2.2.2)]; rfl)
        have hd : decide (1048576 < v.d5) = true := by simpa using h
        go_wp2
        go_ret
        exact ⟨ret_int hT.out, hb⟩
    · have ix : ∀ w, (Instr.index 28 (.agg #[.int .u32 v.d0, .int .u32 v.d1, .int .u32 v.d2, .int .u32 v.d3, .int .u32 v.d4, .int .u32 v.d5, .int .u32 v.d6, .int .u32 v.d7]) (.int .i64 6)).run Tryz.prog w = .ok (.int .u32 v.d6) w := fun _ => by kernel_rfl
      by_cases h : v.d6 ≤ 1048576
      · have hT : Hid (∀ q : Nat, q < 7 → v.get q ≤ 1048576) := Lib.hid (by
          intro q hq
          rcases Nat.lt_succ_iff_lt_or_eq.1 hq with h' | rfl
          · exact hokH.out q h'
          · simpa [Vm.get] using h)
        have hd : decide (1048576 < v.d6) = false := by simpa using h
        go_wp2
        go_roundg (9 - 7)
        case measure => omega
        case rel => exact ⟨7, by omega, rfl, by go_num, hT.out, rfl⟩
      · have hT : Hid (2 = r) := Lib.hid (by
          rw [← hrH.out, show vchk v = false by unfold vchk; rw [decide_eq_false_iff_not]; intro hh; apply h; (first | exact hh.1 | exact hh.2.1 | exact hh.2.2.1 | exact hh.2.2.2.1 | exact hh.2.2.2.2.1 | exact hh.2.2.2.2.2.1 | exact hh.2.2.2.2.2.2.1 | exact hh.2.2.2.2.2.2.2)]; rfl)
        have hd : decide (1048576 < v.d6) = true := by simpa using h
        go_wp2
        go_ret
        exact ⟨ret_int hT.out, hb⟩
    · have ix : ∀ w, (Instr.index 28 (.agg #[.int .u32 v.d0, .int .u32 v.d1, .int .u32 v.d2, .int .u32 v.d3, .int .u32 v.d4, .int .u32 v.d5, .int .u32 v.d6, .int .u32 v.d7]) (.int .i64 7)).run Tryz.prog w = .ok (.int .u32 v.d7) w := fun _ => by kernel_rfl
      by_cases h : v.d7 ≤ 1048576
      · have hT : Hid (∀ q : Nat, q < 8 → v.get q ≤ 1048576) := Lib.hid (by
          intro q hq
          rcases Nat.lt_succ_iff_lt_or_eq.1 hq with h' | rfl
          · exact hokH.out q h'
          · simpa [Vm.get] using h)
        have hd : decide (1048576 < v.d7) = false := by simpa using h
        go_wp2
        go_roundg (9 - 8)
        case measure => omega
        case rel => exact ⟨8, by omega, rfl, by go_num, hT.out, rfl⟩
      · have hT : Hid (2 = r) := Lib.hid (by
          rw [← hrH.out, show vchk v = false by unfold vchk; rw [decide_eq_false_iff_not]; intro hh; apply h; (first | exact hh.1 | exact hh.2.1 | exact hh.2.2.1 | exact hh.2.2.2.1 | exact hh.2.2.2.2.1 | exact hh.2.2.2.2.2.1 | exact hh.2.2.2.2.2.2.1 | exact hh.2.2.2.2.2.2.2)]; rfl)
        have hd : decide (1048576 < v.d7) = true := by simpa using h
        go_wp2
        go_ret
        exact ⟨ret_int hT.out, hb⟩
    · have hT : Hid (0 = r) := Lib.hid (by
        rw [← hrH.out, show vchk v = true by
          unfold vchk; rw [decide_eq_true_eq]
          exact ⟨hokH.out 0 (by omega), hokH.out 1 (by omega), hokH.out 2 (by omega), hokH.out 3 (by omega), hokH.out 4 (by omega), hokH.out 5 (by omega), hokH.out 6 (by omega), hokH.out 7 (by omega)⟩]
        rfl)
      go_wp2
      go_ret
      exact ⟨ret_int hT.out, hb⟩
end Go.Proofs.YtfhandglpjnonaaGreatDoor
