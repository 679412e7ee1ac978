/- The statements' own To and From. -/
import Derived.Test.YthfjbbijcemmoaaCx
namespace Go.Proofs.Ythfjbbijcemmoaa
open Go.RowKit
set_option maxRecDepth 100000 in
set_option maxHeartbeats 1000000 in
theorem from_any (v : Vm) (A : Option Addr) (n c : Nat) (w : World) :
    Calls Try.prog 40 #[.agg #[.int .u32 v.d0, .int .u32 v.d1, .int .u32 v.d2, .int .u32 v.d3, .int .u32 v.d4, .int .u32 v.d5, .int .u32 v.d6, .int .u32 v.d7, .slice A n c]] w fun e w' => e = .returned (.agg #[.int .u32 v.d0, .int .u32 v.d1, .int .u32 v.d2, .int .u32 v.d3, .int .u32 v.d4, .int .u32 v.d5, .int .u32 v.d6, .int .u32 v.d7, .slice A n c]) ∧ Below w.heap.size w w' := by
  go_enter Try.func40, Try.ntmps40
  go_wp2
  refine bodyPost_ret (v := .agg #[.int .u32 v.d0, .int .u32 v.d1, .int .u32 v.d2, .int .u32 v.d3, .int .u32 v.d4, .int .u32 v.d5, .int .u32 v.d6, .int .u32 v.d7, .slice A n c]) (by simp [results, Try.results40, go_sem]) rfl ⟨rfl, ?_⟩
  repeat (first | exact Below.refl _ _ | (refine Below.alloc ?_ (by first | (simp; done) | (simp; omega) | omega) _) | (refine Below.setCell ?_ (by first | (simp; done) | (simp; omega) | omega) _))
set_option maxRecDepth 100000 in
set_option maxHeartbeats 1000000 in
theorem to_any (v : Vm) (A : Option Addr) (n c : Nat) (xs : List Im) (w : World) (hA : RdI w w.heap.size A n xs) (hn : n ≤ 1100) :
    Calls Try.prog 37 #[.agg #[.int .u32 v.d0, .int .u32 v.d1, .int .u32 v.d2, .int .u32 v.d3, .int .u32 v.d4, .int .u32 v.d5, .int .u32 v.d6, .int .u32 v.d7, .slice A n c]] w fun e w' => ∃ A' c', e = .returned (.agg #[.int .u32 v.d0, .int .u32 v.d1, .int .u32 v.d2, .int .u32 v.d3, .int .u32 v.d4, .int .u32 v.d5, .int .u32 v.d6, .int .u32 v.d7, .slice A' n c']) ∧ Ow w' w.heap.size 35 2 (.slice A' n c') (xs.map Im.enc) ∧ Below w.heap.size w w' := by
  go_enter Try.func37, Try.ntmps37
  go_wp2
  have hT1 := hA.below ((Below.refl _ w).alloc (Nat.le_refl _) (.cells #[.int .u32 v.d0, .int .u32 v.d1, .int .u32 v.d2, .int .u32 v.d3, .int .u32 v.d4, .int .u32 v.d5, .int .u32 v.d6, .int .u32 v.d7, .slice A n c] 49))
  go_region_held3 (fun w' => KQ (w.heap.size + 1) (w.alloc (.cells #[.int .u32 v.d0, .int .u32 v.d1, .int .u32 v.d2, .int .u32 v.d3, .int .u32 v.d4, .int .u32 v.d5, .int .u32 v.d6, .int .u32 v.d7, .slice A n c] 49)) w')
    (first
          | with_reducible exact kq_call (by assumption) (by simp) (by assumption)
          | with_reducible exact kq_grown (by assumption) (by simp) (by assumption) (by simp [Value.ownBlock])
          | ((with_reducible refine kq ?_); (repeat (first | (with_reducible exact Below.refl _ _) | (with_reducible refine Below.drew ?_) | (with_reducible refine Below.alloc ?_ (by simp) _) | (with_reducible refine Below.setCell ?_ (by simp) _) | (with_reducible exact (by assumption : KQ _ _ _).1))); done))
    (first
      | (refine step_append_rd _ rfl _ _ _ rfl eId (base := w.heap.size + 2) (v := .slice (some ⟨w.heap.size + 1 + 1, 0, none⟩) 0 0) (xs := []) rfl (Ow.made0d _ _ _ (by simp) (by simp)) rfl (kq_rd hT1 (Nat.le_succ _) (by assumption)) Im.len Im.one (by simp [maxLen]; omega) (by simp; omega) (by simp) ?_
         intro A' n' c' w1 hn' hown hg hat
         obtain ⟨hblk, hcell, hfro⟩ := grown_cells (b := w.heap.size + 1) hg (heap_drew (heap_old _ (by simp) (heap_at _ _ (by simp)))) (by simp [Value.ownBlock])
         have r0 := hcell 0
         have r1 := hcell 1
         have r2 := hcell 2
         have r3 := hcell 3
         have r4 := hcell 4
         have r5 := hcell 5
         have r6 := hcell 6
         have r7 := hcell 7
         have r8 := hcell 8
         simp at r0 r1 r2 r3 r4 r5 r6 r7 r8
         clear hcell hblk))
  obtain rfl : n' = n := by simpa using hn'
  go_wp2
  refine bodyPost_ret (v := .agg #[.int .u32 v.d0, .int .u32 v.d1, .int .u32 v.d2, .int .u32 v.d3, .int .u32 v.d4, .int .u32 v.d5, .int .u32 v.d6, .int .u32 v.d7, .slice A' n' c']) (by simp [results, Try.results37, go_sem, r0, r1, r2, r3, r4, r5, r6, r7, r8]) rfl ⟨A', c', rfl, ?_, ((Below.refl _ w).alloc (Nat.le_refl _) _).trans (Below.mono (by assumption : KQ (w.heap.size + 1) _ _).1 (Nat.le_succ _))⟩
  refine Ow.base (base := w.heap.size + 2) ?_ (by omega)
  repeat (with_reducible refine Ow.setCell ?_ (by simp) _)
  simpa using hown
end Go.Proofs.Ythfjbbijcemmoaa
