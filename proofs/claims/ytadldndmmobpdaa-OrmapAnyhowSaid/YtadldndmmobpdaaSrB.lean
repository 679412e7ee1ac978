/- slices.SortFunc and SortedFunc at names. -/
import Derived.Test.YtadldndmmobpdaaM8
import Derived.Test.YtadldndmmobpdaaM2
import Derived.Test.YtadldndmmobpdaaM6
namespace Go.Proofs.Ytadldndmmobpdaa
open Go.RowKit

set_option maxRecDepth 100000 in
theorem cmp_lays (x y : Im) (w : World) :
    Calls Try.prog 128 #[.agg #[.int .i64 x.1, .int .u32 x.2], .agg #[.int .i64 y.1, .int .u32 y.2]] w fun e w' => e = .returned (.int .i64 (cmpI x y)) ∧ ∃ q os, w' = Sort.grow (w.drewN q) os := by
  generalize hr : cmpI x y = r
  rw [cmpI_ord] at hr
  have hc1 := ccmp_any x.1 y.1
  have hc2 := ccmpu_any x.2 y.2
  have ho := or_any
  generalize ordI x.1 y.1 = p at *
  generalize ordI x.2 y.2 = q at *
  have hc1 := Lib.hid hc1
  have hc2 := Lib.hid hc2
  have ho := Lib.hid (fun g w h0 h1 h2 => hr ▸ ho g p q w h0 h1 h2)
  clear hr
  go_enter Try.func128, Try.ntmps128
  go_wp2
  go_region_held3 (fun w' => KQ (w.heap.size + 2) ((w.alloc (.cells #[.int .i64 x.1, .int .u32 x.2] 77)).alloc (.cells #[.int .i64 y.1, .int .u32 y.2] 77)) w') (first
      | with_reducible exact kq_call (by assumption) (by simp) (by assumption)
      | with_reducible exact kq_grown (by assumption) (by simp) (by assumption) (by simp [Value.ownBlock])
      | ((with_reducible refine kq ?_); (repeat (first | (with_reducible exact Below.refl _ _) | (with_reducible refine Below.drew ?_) | (with_reducible refine Below.alloc ?_ (by simp) _) | (with_reducible refine Below.setCell ?_ (by simp) _) | (with_reducible exact (by assumption : KQ _ _ _).1))); done))
    (first
      | (go_at_call 129; refine (hc1.out _).mono ?_; rintro e w1 ⟨rfl, rfl⟩)
      | (go_at_call 147; refine (hc2.out _).mono ?_; rintro e w1 ⟨rfl, rfl⟩)
      | (go_at_call 117; refine (ho.out _ _ (by simp) (blk_cell (heap_drew (heap_at _ _ (by simp))) 0) (blk_cell (heap_drew (heap_at _ _ (by simp))) 1)).mono ?_; rintro e w1 ⟨rfl, rfl⟩))
  go_wp2
  go_ret
  refine ⟨rfl, 1, #[.cells #[.int .i64 x.1, .int .u32 x.2] 77, .cells #[.int .i64 y.1, .int .u32 y.2] 77, .cells #[.int .i64 p, .int .i64 q] 3], ?_⟩
  rw [Sort.alloc_eq_grow, Sort.alloc_eq_grow, Sort.alloc_eq_grow, Sort.grow_grow, Sort.grow_grow, Sort.drew_grow]
  rfl
theorem ltOf_cmp (x y : Im) : ltOf cmpI x y = decide (cmpI x y < 0) := rfl
theorem swo_cmp : Sort.SWO (ltOf cmpI) where
  irrefl x := by rw [ltOf_cmp, decide_eq_false_iff_not]; exact ltI_irrefl x
  trans x y z h1 h2 := by
    rw [ltOf_cmp, decide_eq_true_eq] at *
    exact ltI_trans h1 h2
  ntrans x y z h1 h2 := by
    rw [ltOf_cmp, decide_eq_false_iff_not] at *
    intro h
    rcases Classical.em (x = y) with rfl | hne
    · exact h2 h
    · have h3 := ltI_total hne h1
      exact h2 (ltI_trans h3 h)
theorem cmp_hands (g n : Nat) (w : World) : CmpLays Try.prog 128 #[] Im.enc 2 cmpI g 0 n w := by
  intro m os dk _ x y
  exact cmp_lays x y _

end Go.Proofs.Ytadldndmmobpdaa
