/- vec.Join, vec.LE. -/
import Derived.Test.YtpfohpfgfdeecaaVcB
import Derived.Test.YtpfohpfgfdeecaaPl
import Derived.Test.YtpfohpfgfdeecaaGb
import Derived.Test.YtpfohpfgfdeecaaEqV
import Derived.BigQuiet
import Derived.Deep.QuietTactic
namespace Go.Proofs.Ytpfohpfgfdeecaa
open Go.RowKit

def joinK (a b : Vm) : Nat → Vm
  | 0 => a
  | k + 1 => (joinK a b k).set (k : Int) (max ((joinK a b k).get (k : Int)) (b.get (k : Int)))
def joinV (a b : Vm) : Vm := joinK a b 8
theorem ix_vec (v : Vm) (k : Nat) (hk : k < 8) (w : World) : (Instr.index 24 (.agg #[.int .u32 v.d0, .int .u32 v.d1, .int .u32 v.d2, .int .u32 v.d3, .int .u32 v.d4, .int .u32 v.d5, .int .u32 v.d6, .int .u32 v.d7]) (.int .i64 (k : Int))).run Try.prog w = .ok (.int .u32 (v.get k)) w := by
  obtain rfl | rfl | rfl | rfl | rfl | rfl | rfl | rfl : k = 0 ∨ k = 1 ∨ k = 2 ∨ k = 3 ∨ k = 4 ∨ k = 5 ∨ k = 6 ∨ k = 7 := by omega
  all_goals kernel_rfl
set_option maxRecDepth 100000 in
set_option maxHeartbeats 1000000 in
theorem vjoin_any (a b : Vm) (_ha : a.wf) (_hb : b.wf) (w : World) :
    Calls Try.prog 22 #[.agg #[.int .u32 a.d0, .int .u32 a.d1, .int .u32 a.d2, .int .u32 a.d3, .int .u32 a.d4, .int .u32 a.d5, .int .u32 a.d6, .int .u32 a.d7], .agg #[.int .u32 b.d0, .int .u32 b.d1, .int .u32 b.d2, .int .u32 b.d3, .int .u32 b.d4, .int .u32 b.d5, .int .u32 b.d6, .int .u32 b.d7]] w fun e w' => e = .returned (.agg #[.int .u32 (joinV a b).d0, .int .u32 (joinV a b).d1, .int .u32 (joinV a b).d2, .int .u32 (joinV a b).d3, .int .u32 (joinV a b).d4, .int .u32 (joinV a b).d5, .int .u32 (joinV a b).d6, .int .u32 (joinV a b).d7]) ∧ Below w.heap.size w w' := by
  have hbA : (((w.alloc (.cells #[.int .u32 a.d0, .int .u32 a.d1, .int .u32 a.d2, .int .u32 a.d3, .int .u32 a.d4, .int .u32 a.d5, .int .u32 a.d6, .int .u32 a.d7] 24)).alloc (.cells #[.int .u32 b.d0, .int .u32 b.d1, .int .u32 b.d2, .int .u32 b.d3, .int .u32 b.d4, .int .u32 b.d5, .int .u32 b.d6, .int .u32 b.d7] 24)).alloc (.cells #[.int .u32 0, .int .u32 0, .int .u32 0, .int .u32 0, .int .u32 0, .int .u32 0, .int .u32 0, .int .u32 0] 24)).heap[w.heap.size]? = some (.cells #[.int .u32 a.d0, .int .u32 a.d1, .int .u32 a.d2, .int .u32 a.d3, .int .u32 a.d4, .int .u32 a.d5, .int .u32 a.d6, .int .u32 a.d7] 24 (0, 0)) := heap_old _ (by simp; omega) (heap_old _ (by simp) (heap_at _ _ rfl))
  have hbR : (((w.alloc (.cells #[.int .u32 a.d0, .int .u32 a.d1, .int .u32 a.d2, .int .u32 a.d3, .int .u32 a.d4, .int .u32 a.d5, .int .u32 a.d6, .int .u32 a.d7] 24)).alloc (.cells #[.int .u32 b.d0, .int .u32 b.d1, .int .u32 b.d2, .int .u32 b.d3, .int .u32 b.d4, .int .u32 b.d5, .int .u32 b.d6, .int .u32 b.d7] 24)).alloc (.cells #[.int .u32 0, .int .u32 0, .int .u32 0, .int .u32 0, .int .u32 0, .int .u32 0, .int .u32 0, .int .u32 0] 24)).heap[w.heap.size + 1 + 1]? = some (.cells #[.int .u32 0, .int .u32 0, .int .u32 0, .int .u32 0, .int .u32 0, .int .u32 0, .int .u32 0, .int .u32 0] 24 (0, 0)) := heap_at _ _ (by simp)
  have hb0 : Below w.heap.size w (((w.alloc (.cells #[.int .u32 a.d0, .int .u32 a.d1, .int .u32 a.d2, .int .u32 a.d3, .int .u32 a.d4, .int .u32 a.d5, .int .u32 a.d6, .int .u32 a.d7] 24)).alloc (.cells #[.int .u32 b.d0, .int .u32 b.d1, .int .u32 b.d2, .int .u32 b.d3, .int .u32 b.d4, .int .u32 b.d5, .int .u32 b.d6, .int .u32 b.d7] 24)).alloc (.cells #[.int .u32 0, .int .u32 0, .int .u32 0, .int .u32 0, .int .u32 0, .int .u32 0, .int .u32 0, .int .u32 0] 24)) := (((Below.refl _ w).alloc (Nat.le_refl _) _).alloc (by simp) _).alloc (by simp; omega) _
  go_enter Try.func22, Try.ntmps22
  go_wp2_with fail
  go_loopg [8] 9 (fun g i wr => ∃ k : Nat, k ≤ 8 ∧ g = 9 - k ∧ i = .int .i64 (k : Int) ∧ wr.heap[w.heap.size]? = some (.cells #[.int .u32 (joinK a b k).d0, .int .u32 (joinK a b k).d1, .int .u32 (joinK a b k).d2, .int .u32 (joinK a b k).d3, .int .u32 (joinK a b k).d4, .int .u32 (joinK a b k).d5, .int .u32 (joinK a b k).d6, .int .u32 (joinK a b k).d7] 24 (0, 0)) ∧ wr.heap[w.heap.size + 1 + 1]? = some (.cells #[.int .u32 0, .int .u32 0, .int .u32 0, .int .u32 0, .int .u32 0, .int .u32 0, .int .u32 0, .int .u32 0] 24 (0, 0)) ∧ Below w.heap.size w wr)
  case atStart => exact ⟨0, by omega, rfl, rfl, hbA, hbR, hb0⟩
  case round =>
    clear hbA hbR hb0
    obtain ⟨k, hk, rfl, rfl, hbA, hbR, hB⟩ := hrel
    have hlt := blk_lt hbA
    have hltR := blk_lt hbR
    by_cases hlk : k < 8
    · have hcv : wr.cell? ⟨w.heap.size, k, none⟩ = some (.int .u32 ((joinK a b k).get k)) := by rw [blk_cell hbA]; exact get_cells _ k hlk
      have hfA := blk_frozen hbA
      have hix := ix_vec b k hlk
      have hki : (k : Int) < 8 := by omega
      have hk0 : (0 : Int) ≤ (k : Int) := by omega
      have hbA2 : (wr.setCell ⟨w.heap.size, k, none⟩ (.int .u32 (max ((joinK a b k).get k) (b.get k)))).heap[w.heap.size]? = some (.cells #[.int .u32 (joinK a b (k + 1)).d0, .int .u32 (joinK a b (k + 1)).d1, .int .u32 (joinK a b (k + 1)).d2, .int .u32 (joinK a b (k + 1)).d3, .int .u32 (joinK a b (k + 1)).d4, .int .u32 (joinK a b (k + 1)).d5, .int .u32 (joinK a b (k + 1)).d6, .int .u32 (joinK a b (k + 1)).d7] 24 (0, 0)) := by rw [blk_set hbA, set_cells _ k hlk]; rfl
      have hbR2 : (wr.setCell ⟨w.heap.size, k, none⟩ (.int .u32 (max ((joinK a b k).get k) (b.get k)))).heap[w.heap.size + 1 + 1]? = some (.cells #[.int .u32 0, .int .u32 0, .int .u32 0, .int .u32 0, .int .u32 0, .int .u32 0, .int .u32 0, .int .u32 0] 24 (0, 0)) := heap_set_ne (by dsimp only; omega) hbR
      have hB2 : Below w.heap.size w (wr.setCell ⟨w.heap.size, k, none⟩ (.int .u32 (max ((joinK a b k).get k) (b.get k)))) := hB.setCell (Nat.le_refl _) _
      clear hbA hbR
      generalize (joinK a b k).get (k : Int) = y at *
      generalize b.get (k : Int) = z at *
      by_cases hyz : y < z
      · rw [show max y z = z from by omega] at hbA2 hbR2 hB2
        have hbA2 := Lib.hid hbA2
        have hbR2 := Lib.hid hbR2
        go_wp2
        go_roundg (9 - (k + 1))
        case measure => omega
        case rel => exact ⟨k + 1, by omega, rfl, by go_num, hbA2.out, hbR2.out, hB2⟩
      · rw [show max y z = y from by omega] at hbA2 hbR2 hB2
        have hbA2 := Lib.hid hbA2
        have hbR2 := Lib.hid hbR2
        go_wp2
        go_roundg (9 - (k + 1))
        case measure => omega
        case rel => exact ⟨k + 1, by omega, rfl, by go_num, hbA2.out, hbR2.out, hB2⟩
    · obtain rfl : k = 8 := by omega
      have q0 := blk_cell hbA 0
      have q1 := blk_cell hbA 1
      have q2 := blk_cell hbA 2
      have q3 := blk_cell hbA 3
      have q4 := blk_cell hbA 4
      have q5 := blk_cell hbA 5
      have q6 := blk_cell hbA 6
      have q7 := blk_cell hbA 7
      simp at q0 q1 q2 q3 q4 q5 q6 q7
      have r0 := blk_cell hbR 0
      have r1 := blk_cell hbR 1
      have r2 := blk_cell hbR 2
      have r3 := blk_cell hbR 3
      have r4 := blk_cell hbR 4
      have r5 := blk_cell hbR 5
      have r6 := blk_cell hbR 6
      have r7 := blk_cell hbR 7
      simp at r0 r1 r2 r3 r4 r5 r6 r7
      have hfR := blk_frozen hbR
      go_wp2
      refine bodyPost_ret (v := .agg #[.int .u32 (joinV a b).d0, .int .u32 (joinV a b).d1, .int .u32 (joinV a b).d2, .int .u32 (joinV a b).d3, .int .u32 (joinV a b).d4, .int .u32 (joinV a b).d5, .int .u32 (joinV a b).d6, .int .u32 (joinV a b).d7]) (by simp [results, Try.results22, go_sem, r0, r1, r2, r3, r4, r5, r6, r7, joinV]) rfl ⟨rfl, ?_⟩
      repeat (first | (with_reducible exact hB) | (with_reducible refine Below.drew ?_) | (with_reducible refine Below.alloc ?_ (by first | (simp; done) | (simp; omega) | omega) _) | (with_reducible refine Below.setCell ?_ (by first | (simp; done) | (simp; omega) | omega) _))
theorem join_le {a b : Vm} (h : leV a b) : joinV a b = b := by
  obtain ⟨a0, a1, a2, a3, a4, a5, a6, a7⟩ := a
  obtain ⟨b0, b1, b2, b3, b4, b5, b6, b7⟩ := b
  simp [leV] at h
  simp [joinV, joinK, Vm.set, Vm.get]
  omega
end Go.Proofs.Ytpfohpfgfdeecaa
