/- selkielaw14.Effect: an effect with a list of names of its own. -/
import Derived.Test.YtgjiaipheohmoaaRows
import Derived.Test.YtgjiaipheohmoaaPt
import Derived.Deep.DeepCutAuto
import Derived.Deep.RegionHeld3
namespace Go.Proofs.Ytgjiaipheohmoaa
open Go.RowKit

theorem infoTag : (Try.prog.info? 51).map (fun i => (i.zero, i.size, i.bytes)) = some (some (.agg #[.int .i64 0, .int .u32 0, .int .i64 0]), 3, 24) := by kernel_rfl
theorem eTag : ElemInfo Try.prog 54 51 3 24 := by
  obtain ⟨i, hi, h0, h1, h2⟩ := info_parts infoTag
  exact ⟨Try.underlying54, ⟨i, _, hi, h0, h1, h2, rfl⟩, by decide⟩

set_option maxRecDepth 100000 in
set_option maxHeartbeats 400000 in
theorem effect_any (a v o s n t ao : Int) (nm : ByteArray) (A : Option Addr) (l c : Nat) (ts : List Tg) (w : World)
    (hT : Rd w w.heap.size 3 A l (ts.map Tg.enc)) (hl : l ≤ 4096) :
    Calls Try.prog 16 #[.agg #[.int .i64 a, .string nm, .int .i64 v, .int .i64 o, .int .u32 s, .int .i64 n, .int .u32 t, .int .i64 ao, .slice A l c]] w
      fun e w' => ∃ A' c', e = .returned (.agg #[.int .i64 a, .string nm, .int .i64 v, .int .i64 o, .int .u32 s, .int .i64 n, .int .u32 t, .int .i64 ao, .slice A' l c']) ∧
        Ow w' w.heap.size 51 3 (.slice A' l c') (ts.map Tg.enc) ∧ Below w.heap.size w w' := by
  go_enter Try.func16, Try.ntmps16
  go_wp2
  have hT1 := hT.below ((Below.refl _ w).alloc (Nat.le_refl _) (.cells #[.int .i64 a, .string nm, .int .i64 v, .int .i64 o, .int .u32 s, .int .i64 n, .int .u32 t, .int .i64 ao, .slice A l c] 56))
  go_region_held3 (fun w' => KQ (w.heap.size + 1) (w.alloc (.cells #[.int .i64 a, .string nm, .int .i64 v, .int .i64 o, .int .u32 s, .int .i64 n, .int .u32 t, .int .i64 ao, .slice A l c] 56)) w')
    (first
      | with_reducible exact kq_call (by assumption) (by simp) (by assumption)
      | with_reducible exact kq_grown (by assumption) (by simp) (by assumption) (by simp [Value.ownBlock])
      | ((with_reducible refine kq ?_); (repeat (first | (with_reducible exact Below.refl _ _) | (with_reducible refine Below.drew ?_) | (with_reducible refine Below.alloc ?_ (by simp) _) | (with_reducible refine Below.setCell ?_ (by simp) _) | (with_reducible exact (by assumption : KQ _ _ _).1))); done))
    (first
      | (refine step_append_rd _ rfl _ _ _ rfl eTag (base := w.heap.size + 2) (v := .slice (some ⟨w.heap.size + 1 + 1, 0, none⟩) 0 0) (xs := []) rfl (Ow.made0d _ _ _ (by simp) (by simp)) rfl (kq_rd hT1 (Nat.le_succ _) (by assumption)) Tg.len Tg.one (by simp [maxLen]; omega) (by simp; omega) (by simp) ?_
         intro A' n' c' w1 hn' hown hg hat
         obtain ⟨hblk, hcell, hfro⟩ := grown_cells (b := w.heap.size + 1) hg (heap_drew (heap_old _ (by simp) (heap_at _ _ (by simp)))) (by simp [Value.ownBlock])
         have r0 := hcell 0
         have r1 := hcell 1
         have r2 := hcell 2
         have r3 := hcell 3
         have r4 := hcell 4
         have r5 := hcell 5
         have r6 := hcell 6
         have r7 := hcell 7
         have r8 := hcell 8
         simp at r0 r1 r2 r3 r4 r5 r6 r7 r8
         clear hcell hblk))
  obtain rfl : n' = l := by simpa using hn'
  go_wp2
  refine bodyPost_ret (v := .agg #[.int .i64 a, .string nm, .int .i64 v, .int .i64 o, .int .u32 s, .int .i64 n, .int .u32 t, .int .i64 ao, .slice A' n' c']) (by simp [results, Try.results16, go_sem, r0, r1, r2, r3, r4, r5, r6, r7, r8]) rfl ⟨A', c', rfl, ?_, ((Below.refl _ w).alloc (Nat.le_refl _) _).trans (Below.mono (by assumption : KQ (w.heap.size + 1) _ _).1 (Nat.le_succ _))⟩
  refine Ow.base (base := w.heap.size + 2) ?_ (by omega)
  repeat (with_reducible refine Ow.setCell ?_ (by simp) _)
  simpa using hown
end Go.Proofs.Ytgjiaipheohmoaa
