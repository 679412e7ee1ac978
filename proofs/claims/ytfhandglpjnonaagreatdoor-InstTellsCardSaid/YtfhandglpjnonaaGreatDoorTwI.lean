/- The statement InstTells, walked. -/
import Derived.Test.YtfhandglpjnonaaGreatDoorQr
namespace Go.Proofs.YtfhandglpjnonaaGreatDoor
open Go.RowKit

/-- What any command that is handed in is. -/
structure Cm.Raw (w : World) (c : Cm) : Prop where
  ok : c.Ok w w.heap.size
  p : ∀ p ∈ c.ps, p.e.wf ∧ p.key.length ≤ maxLen ∧ p.e.name.length ≤ maxLen
  x : c.x.wf
  v : c.v.wf
  u : c.u.wf
theorem Cm.Raw.sml {w : World} {c : Cm} (h : c.Raw w) (hg : grC c = false) : c.Sml w := by
  unfold grC at hg
  rw [Bool.or_eq_false_iff] at hg
  obtain ⟨h1, h2⟩ := fgr15_no h.ok.rdE hg.1
  have h3 := h.ok.rdE.len
  have h4 := h.ok.rdM.1
  have h5 : ¬ 30 < c.m := by simpa using hg.2
  refine ⟨h.ok, ⟨?_, ?_, h2, ?_, h.x, h.v, h.u⟩⟩
  · simp [Cm.val]; omega
  · simp [Cm.val]; simp at h4; omega
  · intro p hp
    obtain ⟨q, hq, rfl⟩ := List.mem_map.1 hp
    exact (h.p q hq).1
set_option maxRecDepth 100000 in
set_option maxHeartbeats 16000000 in
theorem insttells_any (m : Mm) (c : Cm) (w : World) (hm : m.c.Raw w) (hi : m.i.wf) (hav : m.av.wf) (hc : c.Raw w) (hVM : VarM w) :
    Calls Tryz.prog 3 #[.agg #[.int .i64 m.kd, .int .i64 m.fr, .int .i64 m.dst, .int .u32 m.ep, .int .i64 m.i.1, .int .u32 m.i.2, .int .u32 m.b.1, .int .i64 m.b.2, .int .i64 m.st, .int .u32 m.vv.1, .int .i64 m.vv.2, .int .i64 m.c.kd, .int .i64 m.c.x.1, .int .u32 m.c.x.2, .int .u32 m.c.v.d0, .int .u32 m.c.v.d1, .int .u32 m.c.v.d2, .int .u32 m.c.v.d3, .int .u32 m.c.v.d4, .int .u32 m.c.v.d5, .int .u32 m.c.v.d6, .int .u32 m.c.v.d7, .bool m.c.t, .slice m.c.T m.c.k m.c.kc, .int .i64 m.c.sn, .int .i64 m.c.wh, .slice m.c.B m.c.m m.c.mc, .int .u32 m.c.u.d0, .int .u32 m.c.u.d1, .int .u32 m.c.u.d2, .int .u32 m.c.u.d3, .int .u32 m.c.u.d4, .int .u32 m.c.u.d5, .int .u32 m.c.u.d6, .int .u32 m.c.u.d7, .int .u32 m.an, .int .u32 m.av.d0, .int .u32 m.av.d1, .int .u32 m.av.d2, .int .u32 m.av.d3, .int .u32 m.av.d4, .int .u32 m.av.d5, .int .u32 m.av.d6, .int .u32 m.av.d7], .agg #[.int .i64 c.kd, .int .i64 c.x.1, .int .u32 c.x.2, .int .u32 c.v.d0, .int .u32 c.v.d1, .int .u32 c.v.d2, .int .u32 c.v.d3, .int .u32 c.v.d4, .int .u32 c.v.d5, .int .u32 c.v.d6, .int .u32 c.v.d7, .bool c.t, .slice c.T c.k c.kc, .int .i64 c.sn, .int .i64 c.wh, .slice c.B c.m c.mc, .int .u32 c.u.d0, .int .u32 c.u.d1, .int .u32 c.u.d2, .int .u32 c.u.d3, .int .u32 c.u.d4, .int .u32 c.u.d5, .int .u32 c.u.d6, .int .u32 c.u.d7]] w fun e w' => e = .returned (.bool true) ∧ Below w.heap.size w w' := by
  have g1 := Lib.hid (fun w' (h : Below w.heap.size w w') => great25_any m.c w' ((hm.ok.below h).more h.size))
  have g2 := Lib.hid (fun w' (h : Below w.heap.size w w') => great25_any c w' ((hc.ok.below h).more h.size))
  have hb0 : Below w.heap.size w ((w.alloc (.cells #[.int .i64 m.kd, .int .i64 m.fr, .int .i64 m.dst, .int .u32 m.ep, .int .i64 m.i.1, .int .u32 m.i.2, .int .u32 m.b.1, .int .i64 m.b.2, .int .i64 m.st, .int .u32 m.vv.1, .int .i64 m.vv.2, .int .i64 m.c.kd, .int .i64 m.c.x.1, .int .u32 m.c.x.2, .int .u32 m.c.v.d0, .int .u32 m.c.v.d1, .int .u32 m.c.v.d2, .int .u32 m.c.v.d3, .int .u32 m.c.v.d4, .int .u32 m.c.v.d5, .int .u32 m.c.v.d6, .int .u32 m.c.v.d7, .bool m.c.t, .slice m.c.T m.c.k m.c.kc, .int .i64 m.c.sn, .int .i64 m.c.wh, .slice m.c.B m.c.m m.c.mc, .int .u32 m.c.u.d0, .int .u32 m.c.u.d1, .int .u32 m.c.u.d2, .int .u32 m.c.u.d3, .int .u32 m.c.u.d4, .int .u32 m.c.u.d5, .int .u32 m.c.u.d6, .int .u32 m.c.u.d7, .int .u32 m.an, .int .u32 m.av.d0, .int .u32 m.av.d1, .int .u32 m.av.d2, .int .u32 m.av.d3, .int .u32 m.av.d4, .int .u32 m.av.d5, .int .u32 m.av.d6, .int .u32 m.av.d7] 38)).alloc (.cells #[.int .i64 c.kd, .int .i64 c.x.1, .int .u32 c.x.2, .int .u32 c.v.d0, .int .u32 c.v.d1, .int .u32 c.v.d2, .int .u32 c.v.d3, .int .u32 c.v.d4, .int .u32 c.v.d5, .int .u32 c.v.d6, .int .u32 c.v.d7, .bool c.t, .slice c.T c.k c.kc, .int .i64 c.sn, .int .i64 c.wh, .slice c.B c.m c.mc, .int .u32 c.u.d0, .int .u32 c.u.d1, .int .u32 c.u.d2, .int .u32 c.u.d3, .int .u32 c.u.d4, .int .u32 c.u.d5, .int .u32 c.u.d6, .int .u32 c.u.d7] 34)) := ((Below.refl _ w).alloc (Nat.le_refl _) _).alloc (by simp) _
  have hbA : ((w.alloc (.cells #[.int .i64 m.kd, .int .i64 m.fr, .int .i64 m.dst, .int .u32 m.ep, .int .i64 m.i.1, .int .u32 m.i.2, .int .u32 m.b.1, .int .i64 m.b.2, .int .i64 m.st, .int .u32 m.vv.1, .int .i64 m.vv.2, .int .i64 m.c.kd, .int .i64 m.c.x.1, .int .u32 m.c.x.2, .int .u32 m.c.v.d0, .int .u32 m.c.v.d1, .int .u32 m.c.v.d2, .int .u32 m.c.v.d3, .int .u32 m.c.v.d4, .int .u32 m.c.v.d5, .int .u32 m.c.v.d6, .int .u32 m.c.v.d7, .bool m.c.t, .slice m.c.T m.c.k m.c.kc, .int .i64 m.c.sn, .int .i64 m.c.wh, .slice m.c.B m.c.m m.c.mc, .int .u32 m.c.u.d0, .int .u32 m.c.u.d1, .int .u32 m.c.u.d2, .int .u32 m.c.u.d3, .int .u32 m.c.u.d4, .int .u32 m.c.u.d5, .int .u32 m.c.u.d6, .int .u32 m.c.u.d7, .int .u32 m.an, .int .u32 m.av.d0, .int .u32 m.av.d1, .int .u32 m.av.d2, .int .u32 m.av.d3, .int .u32 m.av.d4, .int .u32 m.av.d5, .int .u32 m.av.d6, .int .u32 m.av.d7] 38)).alloc (.cells #[.int .i64 c.kd, .int .i64 c.x.1, .int .u32 c.x.2, .int .u32 c.v.d0, .int .u32 c.v.d1, .int .u32 c.v.d2, .int .u32 c.v.d3, .int .u32 c.v.d4, .int .u32 c.v.d5, .int .u32 c.v.d6, .int .u32 c.v.d7, .bool c.t, .slice c.T c.k c.kc, .int .i64 c.sn, .int .i64 c.wh, .slice c.B c.m c.mc, .int .u32 c.u.d0, .int .u32 c.u.d1, .int .u32 c.u.d2, .int .u32 c.u.d3, .int .u32 c.u.d4, .int .u32 c.u.d5, .int .u32 c.u.d6, .int .u32 c.u.d7] 34)).heap[w.heap.size]? = some (.cells #[.int .i64 m.kd, .int .i64 m.fr, .int .i64 m.dst, .int .u32 m.ep, .int .i64 m.i.1, .int .u32 m.i.2, .int .u32 m.b.1, .int .i64 m.b.2, .int .i64 m.st, .int .u32 m.vv.1, .int .i64 m.vv.2, .int .i64 m.c.kd, .int .i64 m.c.x.1, .int .u32 m.c.x.2, .int .u32 m.c.v.d0, .int .u32 m.c.v.d1, .int .u32 m.c.v.d2, .int .u32 m.c.v.d3, .int .u32 m.c.v.d4, .int .u32 m.c.v.d5, .int .u32 m.c.v.d6, .int .u32 m.c.v.d7, .bool m.c.t, .slice m.c.T m.c.k m.c.kc, .int .i64 m.c.sn, .int .i64 m.c.wh, .slice m.c.B m.c.m m.c.mc, .int .u32 m.c.u.d0, .int .u32 m.c.u.d1, .int .u32 m.c.u.d2, .int .u32 m.c.u.d3, .int .u32 m.c.u.d4, .int .u32 m.c.u.d5, .int .u32 m.c.u.d6, .int .u32 m.c.u.d7, .int .u32 m.an, .int .u32 m.av.d0, .int .u32 m.av.d1, .int .u32 m.av.d2, .int .u32 m.av.d3, .int .u32 m.av.d4, .int .u32 m.av.d5, .int .u32 m.av.d6, .int .u32 m.av.d7] 38 (0, 0)) := heap_old _ (by simp) (heap_at _ _ rfl)
  have hbB : ((w.alloc (.cells #[.int .i64 m.kd, .int .i64 m.fr, .int .i64 m.dst, .int .u32 m.ep, .int .i64 m.i.1, .int .u32 m.i.2, .int .u32 m.b.1, .int .i64 m.b.2, .int .i64 m.st, .int .u32 m.vv.1, .int .i64 m.vv.2, .int .i64 m.c.kd, .int .i64 m.c.x.1, .int .u32 m.c.x.2, .int .u32 m.c.v.d0, .int .u32 m.c.v.d1, .int .u32 m.c.v.d2, .int .u32 m.c.v.d3, .int .u32 m.c.v.d4, .int .u32 m.c.v.d5, .int .u32 m.c.v.d6, .int .u32 m.c.v.d7, .bool m.c.t, .slice m.c.T m.c.k m.c.kc, .int .i64 m.c.sn, .int .i64 m.c.wh, .slice m.c.B m.c.m m.c.mc, .int .u32 m.c.u.d0, .int .u32 m.c.u.d1, .int .u32 m.c.u.d2, .int .u32 m.c.u.d3, .int .u32 m.c.u.d4, .int .u32 m.c.u.d5, .int .u32 m.c.u.d6, .int .u32 m.c.u.d7, .int .u32 m.an, .int .u32 m.av.d0, .int .u32 m.av.d1, .int .u32 m.av.d2, .int .u32 m.av.d3, .int .u32 m.av.d4, .int .u32 m.av.d5, .int .u32 m.av.d6, .int .u32 m.av.d7] 38)).alloc (.cells #[.int .i64 c.kd, .int .i64 c.x.1, .int .u32 c.x.2, .int .u32 c.v.d0, .int .u32 c.v.d1, .int .u32 c.v.d2, .int .u32 c.v.d3, .int .u32 c.v.d4, .int .u32 c.v.d5, .int .u32 c.v.d6, .int .u32 c.v.d7, .bool c.t, .slice c.T c.k c.kc, .int .i64 c.sn, .int .i64 c.wh, .slice c.B c.m c.mc, .int .u32 c.u.d0, .int .u32 c.u.d1, .int .u32 c.u.d2, .int .u32 c.u.d3, .int .u32 c.u.d4, .int .u32 c.u.d5, .int .u32 c.u.d6, .int .u32 c.u.d7] 34)).heap[w.heap.size + 1]? = some (.cells #[.int .i64 c.kd, .int .i64 c.x.1, .int .u32 c.x.2, .int .u32 c.v.d0, .int .u32 c.v.d1, .int .u32 c.v.d2, .int .u32 c.v.d3, .int .u32 c.v.d4, .int .u32 c.v.d5, .int .u32 c.v.d6, .int .u32 c.v.d7, .bool c.t, .slice c.T c.k c.kc, .int .i64 c.sn, .int .i64 c.wh, .slice c.B c.m c.mc, .int .u32 c.u.d0, .int .u32 c.u.d1, .int .u32 c.u.d2, .int .u32 c.u.d3, .int .u32 c.u.d4, .int .u32 c.u.d5, .int .u32 c.u.d6, .int .u32 c.u.d7] 34 (0, 0)) := heap_at _ _ (by simp)
  generalize hW : ((w.alloc (.cells #[.int .i64 m.kd, .int .i64 m.fr, .int .i64 m.dst, .int .u32 m.ep, .int .i64 m.i.1, .int .u32 m.i.2, .int .u32 m.b.1, .int .i64 m.b.2, .int .i64 m.st, .int .u32 m.vv.1, .int .i64 m.vv.2, .int .i64 m.c.kd, .int .i64 m.c.x.1, .int .u32 m.c.x.2, .int .u32 m.c.v.d0, .int .u32 m.c.v.d1, .int .u32 m.c.v.d2, .int .u32 m.c.v.d3, .int .u32 m.c.v.d4, .int .u32 m.c.v.d5, .int .u32 m.c.v.d6, .int .u32 m.c.v.d7, .bool m.c.t, .slice m.c.T m.c.k m.c.kc, .int .i64 m.c.sn, .int .i64 m.c.wh, .slice m.c.B m.c.m m.c.mc, .int .u32 m.c.u.d0, .int .u32 m.c.u.d1, .int .u32 m.c.u.d2, .int .u32 m.c.u.d3, .int .u32 m.c.u.d4, .int .u32 m.c.u.d5, .int .u32 m.c.u.d6, .int .u32 m.c.u.d7, .int .u32 m.an, .int .u32 m.av.d0, .int .u32 m.av.d1, .int .u32 m.av.d2, .int .u32 m.av.d3, .int .u32 m.av.d4, .int .u32 m.av.d5, .int .u32 m.av.d6, .int .u32 m.av.d7] 38)).alloc (.cells #[.int .i64 c.kd, .int .i64 c.x.1, .int .u32 c.x.2, .int .u32 c.v.d0, .int .u32 c.v.d1, .int .u32 c.v.d2, .int .u32 c.v.d3, .int .u32 c.v.d4, .int .u32 c.v.d5, .int .u32 c.v.d6, .int .u32 c.v.d7, .bool c.t, .slice c.T c.k c.kc, .int .i64 c.sn, .int .i64 c.wh, .slice c.B c.m c.mc, .int .u32 c.u.d0, .int .u32 c.u.d1, .int .u32 c.u.d2, .int .u32 c.u.d3, .int .u32 c.u.d4, .int .u32 c.u.d5, .int .u32 c.u.d6, .int .u32 c.u.d7] 34)) = W at hb0 hbA hbB
  have hz0 := hb0.size
  have hltA := blk_lt hbA
  have hltB := blk_lt hbB
  have hbAH := Lib.hid hbA
  have hbBH := Lib.hid hbB
  have hVr := Lib.hid (fun w' (h : Below w.heap.size w w') => hVM.below h hVM.lt)
  clear hbA hbB hVM
  cases hg1 : grC m.c with
  | true =>
    rw [hg1] at g1
    clear hm hc hg1
    go_enter Tryz.func3, Tryz.ntmps3
    go_upto_region 1 with (fail)
    clear hW
    refine wp_region_list ?_
    refine wpList_step (fun K hK => ?_)
    rw [if_pos (by kernel_rfl)]
    go_simp
    refine hK _ _ ?_
    clear hK K
    refine wpList_load_midG (by kernel_rfl) _ _ rfl (w.heap.size) 11 rfl [.int .i64 m.c.kd, .int .i64 m.c.x.1, .int .u32 m.c.x.2, .int .u32 m.c.v.d0, .int .u32 m.c.v.d1, .int .u32 m.c.v.d2, .int .u32 m.c.v.d3, .int .u32 m.c.v.d4, .int .u32 m.c.v.d5, .int .u32 m.c.v.d6, .int .u32 m.c.v.d7, .bool m.c.t, .slice m.c.T m.c.k m.c.kc, .int .i64 m.c.sn, .int .i64 m.c.wh, .slice m.c.B m.c.m m.c.mc, .int .u32 m.c.u.d0, .int .u32 m.c.u.d1, .int .u32 m.c.u.d2, .int .u32 m.c.u.d3, .int .u32 m.c.u.d4, .int .u32 m.c.u.d5, .int .u32 m.c.u.d6, .int .u32 m.c.u.d7] _ (rangeQ hbAH.out 11 [.int .i64 m.c.kd, .int .i64 m.c.x.1, .int .u32 m.c.x.2, .int .u32 m.c.v.d0, .int .u32 m.c.v.d1, .int .u32 m.c.v.d2, .int .u32 m.c.v.d3, .int .u32 m.c.v.d4, .int .u32 m.c.v.d5, .int .u32 m.c.v.d6, .int .u32 m.c.v.d7, .bool m.c.t, .slice m.c.T m.c.k m.c.kc, .int .i64 m.c.sn, .int .i64 m.c.wh, .slice m.c.B m.c.m m.c.mc, .int .u32 m.c.u.d0, .int .u32 m.c.u.d1, .int .u32 m.c.u.d2, .int .u32 m.c.u.d3, .int .u32 m.c.u.d4, .int .u32 m.c.u.d5, .int .u32 m.c.u.d6, .int .u32 m.c.u.d7] rfl) Tryz.underlying34 rfl (by kernel_rfl) ?_
    (try simp only [Act.put, List.setIfInBounds_toArray, List.set_cons_zero, List.set_cons_succ])
    go_wp2_with fail
    refine (g1.out _ hb0).mono ?_
    rintro e w1 ⟨rfl, hb1⟩
    have hG := hb0.trans (hb1.mono hz0)
    go_wp2
    go_ret
    exact ⟨rfl, hG⟩
  | false =>
  cases hg2 : grC c with
  | true =>
    rw [hg1] at g1
    rw [hg2] at g2
    clear hm hc hg1 hg2
    go_enter Tryz.func3, Tryz.ntmps3
    go_upto_region 1 with (fail)
    clear hW
    refine wp_region_list ?_
    refine wpList_step (fun K hK => ?_)
    rw [if_pos (by kernel_rfl)]
    go_simp
    refine hK _ _ ?_
    clear hK K
    refine wpList_load_midG (by kernel_rfl) _ _ rfl (w.heap.size) 11 rfl [.int .i64 m.c.kd, .int .i64 m.c.x.1, .int .u32 m.c.x.2, .int .u32 m.c.v.d0, .int .u32 m.c.v.d1, .int .u32 m.c.v.d2, .int .u32 m.c.v.d3, .int .u32 m.c.v.d4, .int .u32 m.c.v.d5, .int .u32 m.c.v.d6, .int .u32 m.c.v.d7, .bool m.c.t, .slice m.c.T m.c.k m.c.kc, .int .i64 m.c.sn, .int .i64 m.c.wh, .slice m.c.B m.c.m m.c.mc, .int .u32 m.c.u.d0, .int .u32 m.c.u.d1, .int .u32 m.c.u.d2, .int .u32 m.c.u.d3, .int .u32 m.c.u.d4, .int .u32 m.c.u.d5, .int .u32 m.c.u.d6, .int .u32 m.c.u.d7] _ (rangeQ hbAH.out 11 [.int .i64 m.c.kd, .int .i64 m.c.x.1, .int .u32 m.c.x.2, .int .u32 m.c.v.d0, .int .u32 m.c.v.d1, .int .u32 m.c.v.d2, .int .u32 m.c.v.d3, .int .u32 m.c.v.d4, .int .u32 m.c.v.d5, .int .u32 m.c.v.d6, .int .u32 m.c.v.d7, .bool m.c.t, .slice m.c.T m.c.k m.c.kc, .int .i64 m.c.sn, .int .i64 m.c.wh, .slice m.c.B m.c.m m.c.mc, .int .u32 m.c.u.d0, .int .u32 m.c.u.d1, .int .u32 m.c.u.d2, .int .u32 m.c.u.d3, .int .u32 m.c.u.d4, .int .u32 m.c.u.d5, .int .u32 m.c.u.d6, .int .u32 m.c.u.d7] rfl) Tryz.underlying34 rfl (by kernel_rfl) ?_
    (try simp only [Act.put, List.setIfInBounds_toArray, List.set_cons_zero, List.set_cons_succ])
    refine wpList_step (fun K hK => ?_)
    rw [if_pos (by kernel_rfl)]
    go_simp
    refine (g1.out _ hb0).mono ?_
    rintro e w1 ⟨rfl, hb1⟩
    refine hK _ _ ?_
    clear hK K
    have hG1 := hb0.trans (hb1.mono hz0)
    have hbB1 := Lib.hid (blk_below hbBH.out hb1)
    refine wpList_step (fun K hK => ?_)
    rw [if_pos (by kernel_rfl)]
    go_simp
    refine hK _ _ ?_
    clear hK K
    refine wpList_loadG (by kernel_rfl) _ _ rfl (w.heap.size + 1) rfl 34 #[.int .i64 c.kd, .int .i64 c.x.1, .int .u32 c.x.2, .int .u32 c.v.d0, .int .u32 c.v.d1, .int .u32 c.v.d2, .int .u32 c.v.d3, .int .u32 c.v.d4, .int .u32 c.v.d5, .int .u32 c.v.d6, .int .u32 c.v.d7, .bool c.t, .slice c.T c.k c.kc, .int .i64 c.sn, .int .i64 c.wh, .slice c.B c.m c.mc, .int .u32 c.u.d0, .int .u32 c.u.d1, .int .u32 c.u.d2, .int .u32 c.u.d3, .int .u32 c.u.d4, .int .u32 c.u.d5, .int .u32 c.u.d6, .int .u32 c.u.d7] (0, 0) _ hbB1.out Tryz.underlying34 rfl (by kernel_rfl) ?_
    (try simp only [Act.put, List.setIfInBounds_toArray, List.set_cons_zero, List.set_cons_succ])
    go_wp2_with fail
    refine (g2.out _ hG1).mono ?_
    rintro e w2 ⟨rfl, hb2⟩
    have hG := hG1.trans (hb2.mono hG1.size)
    go_wp2
    go_ret
    exact ⟨rfl, hG⟩
  | false =>
  have hSm : Hid (∀ w', Below w.heap.size w w' → m.Sml w') := Lib.hid (fun w' h => ⟨(hm.sml hg1).below h, hi, hav⟩)
  have hSc : Hid (∀ w', Below w.heap.size w w' → c.Sml w') := Lib.hid (fun w' h => (hc.sml hg2).below h)
  rw [hg1] at g1
  rw [hg2] at g2
  clear hm hc hg1 hg2 hi hav
  go_enter Tryz.func3, Tryz.ntmps3
  go_upto_region 1 with (fail)
  clear hW
  refine wp_region_list ?_
  refine wpList_step (fun K hK => ?_)
  rw [if_pos (by kernel_rfl)]
  go_simp
  refine hK _ _ ?_
  clear hK K
  refine wpList_load_midG (by kernel_rfl) _ _ rfl (w.heap.size) 11 rfl [.int .i64 m.c.kd, .int .i64 m.c.x.1, .int .u32 m.c.x.2, .int .u32 m.c.v.d0, .int .u32 m.c.v.d1, .int .u32 m.c.v.d2, .int .u32 m.c.v.d3, .int .u32 m.c.v.d4, .int .u32 m.c.v.d5, .int .u32 m.c.v.d6, .int .u32 m.c.v.d7, .bool m.c.t, .slice m.c.T m.c.k m.c.kc, .int .i64 m.c.sn, .int .i64 m.c.wh, .slice m.c.B m.c.m m.c.mc, .int .u32 m.c.u.d0, .int .u32 m.c.u.d1, .int .u32 m.c.u.d2, .int .u32 m.c.u.d3, .int .u32 m.c.u.d4, .int .u32 m.c.u.d5, .int .u32 m.c.u.d6, .int .u32 m.c.u.d7] _ (rangeQ hbAH.out 11 [.int .i64 m.c.kd, .int .i64 m.c.x.1, .int .u32 m.c.x.2, .int .u32 m.c.v.d0, .int .u32 m.c.v.d1, .int .u32 m.c.v.d2, .int .u32 m.c.v.d3, .int .u32 m.c.v.d4, .int .u32 m.c.v.d5, .int .u32 m.c.v.d6, .int .u32 m.c.v.d7, .bool m.c.t, .slice m.c.T m.c.k m.c.kc, .int .i64 m.c.sn, .int .i64 m.c.wh, .slice m.c.B m.c.m m.c.mc, .int .u32 m.c.u.d0, .int .u32 m.c.u.d1, .int .u32 m.c.u.d2, .int .u32 m.c.u.d3, .int .u32 m.c.u.d4, .int .u32 m.c.u.d5, .int .u32 m.c.u.d6, .int .u32 m.c.u.d7] rfl) Tryz.underlying34 rfl (by kernel_rfl) ?_
  (try simp only [Act.put, List.setIfInBounds_toArray, List.set_cons_zero, List.set_cons_succ])
  refine wpList_step (fun K hK => ?_)
  rw [if_pos (by kernel_rfl)]
  go_simp
  refine (g1.out _ hb0).mono ?_
  rintro e w1 ⟨rfl, hb1⟩
  refine hK _ _ ?_
  clear hK K
  have hG1 := hb0.trans (hb1.mono hz0)
  have hbB1 := Lib.hid (blk_below hbBH.out hb1)
  have hbA1 := Lib.hid (blk_below hbAH.out hb1)
  refine wpList_step (fun K hK => ?_)
  rw [if_pos (by kernel_rfl)]
  go_simp
  refine hK _ _ ?_
  clear hK K
  refine wpList_loadG (by kernel_rfl) _ _ rfl (w.heap.size + 1) rfl 34 #[.int .i64 c.kd, .int .i64 c.x.1, .int .u32 c.x.2, .int .u32 c.v.d0, .int .u32 c.v.d1, .int .u32 c.v.d2, .int .u32 c.v.d3, .int .u32 c.v.d4, .int .u32 c.v.d5, .int .u32 c.v.d6, .int .u32 c.v.d7, .bool c.t, .slice c.T c.k c.kc, .int .i64 c.sn, .int .i64 c.wh, .slice c.B c.m c.mc, .int .u32 c.u.d0, .int .u32 c.u.d1, .int .u32 c.u.d2, .int .u32 c.u.d3, .int .u32 c.u.d4, .int .u32 c.u.d5, .int .u32 c.u.d6, .int .u32 c.u.d7] (0, 0) _ hbB1.out Tryz.underlying34 rfl (by kernel_rfl) ?_
  (try simp only [Act.put, List.setIfInBounds_toArray, List.set_cons_zero, List.set_cons_succ])
  go_wp2_with fail
  refine (g2.out _ hG1).mono ?_
  rintro e w2 ⟨rfl, hb2⟩
  have hG2 := hG1.trans (hb2.mono hG1.size)
  have hbA2 := blk_below hbA1.out hb2
  have hbB2 := blk_below hbB1.out hb2
  have hrM := Lib.hid (fun w' (h : KQ w2.heap.size w2 w') => blk_below hbA2 h.1)
  have hrC := Lib.hid (fun w' (h : KQ w2.heap.size w2 w') => blk_below hbB2 h.1)
  have hmid := Lib.hid (fun w' (h : KQ w2.heap.size w2 w') => rangeQ (blk_below hbA2 h.1) 11 [.int .i64 m.c.kd, .int .i64 m.c.x.1, .int .u32 m.c.x.2, .int .u32 m.c.v.d0, .int .u32 m.c.v.d1, .int .u32 m.c.v.d2, .int .u32 m.c.v.d3, .int .u32 m.c.v.d4, .int .u32 m.c.v.d5, .int .u32 m.c.v.d6, .int .u32 m.c.v.d7, .bool m.c.t, .slice m.c.T m.c.k m.c.kc, .int .i64 m.c.sn, .int .i64 m.c.wh, .slice m.c.B m.c.m m.c.mc, .int .u32 m.c.u.d0, .int .u32 m.c.u.d1, .int .u32 m.c.u.d2, .int .u32 m.c.u.d3, .int .u32 m.c.u.d4, .int .u32 m.c.u.d5, .int .u32 m.c.u.d6, .int .u32 m.c.u.d7] rfl)
  have hl2A := blk_lt hbA2
  have hl2B := blk_lt hbB2
  have hGr := Lib.hid (fun w' (h : Below w2.heap.size w2 w') => hG2.trans (h.mono hG2.size))
  obtain ⟨eM, heM⟩ : ∃ q, msgErr m = q := ⟨_, rfl⟩
  obtain ⟨eC, heC⟩ : ∃ q, cmdErr c.val = q := ⟨_, rfl⟩
  obtain ⟨bS, hbS⟩ : ∃ q, sameCv m.c.val c.val = q := ⟨_, rfl⟩
  have cTo := Lib.hid (fun w' (h : Below w2.heap.size w2 w') => to25_any m w' (hSm.out w' (hGr.out w' h)))
  have cCk := Lib.hid (fun (n : Mm) w' (hn : n.Sml w') (hv : n.val = m.val) (h : Below w2.heap.size w2 w') => (msgErr_val hv).trans heM ▸ imchk_any n w' hn.fit (hVr.out w' (hGr.out w' h)))
  have dCk := Lib.hid (fun w' (h : Below w2.heap.size w2 w') => heM ▸ rimchk_any m w' (hSm.out w' (hGr.out w' h)).fit)
  have cC := Lib.hid (fun w' (h : Below w2.heap.size w2 w') => cmd25_any c w' (hSc.out w' (hGr.out w' h)))
  have cD := Lib.hid (fun w' (h : Below w2.heap.size w2 w') => cmd25_any m.c w' (hSm.out w' (hGr.out w' h)).c)
  have cE := Lib.hid (fun (d : Cm) w' (hn : d.Sml w') (hv : d.val = c.val) (h : Below w2.heap.size w2 w') => (show cmdErr d.val = eC by rw [hv]; exact heC) ▸ chkcmd_any d w' hn.fit (hVr.out w' (hGr.out w' h)))
  have dE := Lib.hid (fun w' (h : Below w2.heap.size w2 w') => heC ▸ rchkcmd_any c w' (hSc.out w' (hGr.out w' h)).fit)
  have cS := Lib.hid (fun (d d' : Cm) w' (hn : d.Sml w') (hv : d.val = m.c.val) (hn' : d'.Sml w') (hv' : d'.val = c.val) => (show sameCv d.val d'.val = bS by rw [hv, hv']; exact hbS) ▸ scmdP_any d d' w' hn.ok hn'.ok)
  have dS := Lib.hid (fun w' (h : Below w2.heap.size w2 w') => hbS ▸ scmdD_any m.c c w' (hSm.out w' (hGr.out w' h)).c.ok (hSc.out w' (hGr.out w' h)).ok)
  clear heM heC hbS hbA2 hbB2
  go_upto_region 3 with (fail)
  refine wp_region_M (fun w' => KQ w2.heap.size w2 w') (fun _ => True) 99 (by kernel_rfl) (kq (Below.refl _ _).drew) trivial ?_
  intro hcl
  have hC : KQ w2.heap.size w2 w2.drew := kq (Below.refl _ _).drew
  have hE := trivial
  refine wpM_take (i := 0) (v := .agg #[.int .i64 m.kd, .int .i64 m.fr, .int .i64 m.dst, .int .u32 m.ep, .int .i64 m.i.1, .int .u32 m.i.2, .int .u32 m.b.1, .int .i64 m.b.2, .int .i64 m.st, .int .u32 m.vv.1, .int .i64 m.vv.2, .int .i64 m.c.kd, .int .i64 m.c.x.1, .int .u32 m.c.x.2, .int .u32 m.c.v.d0, .int .u32 m.c.v.d1, .int .u32 m.c.v.d2, .int .u32 m.c.v.d3, .int .u32 m.c.v.d4, .int .u32 m.c.v.d5, .int .u32 m.c.v.d6, .int .u32 m.c.v.d7, .bool m.c.t, .slice m.c.T m.c.k m.c.kc, .int .i64 m.c.sn, .int .i64 m.c.wh, .slice m.c.B m.c.m m.c.mc, .int .u32 m.c.u.d0, .int .u32 m.c.u.d1, .int .u32 m.c.u.d2, .int .u32 m.c.u.d3, .int .u32 m.c.u.d4, .int .u32 m.c.u.d5, .int .u32 m.c.u.d6, .int .u32 m.c.u.d7, .int .u32 m.an, .int .u32 m.av.d0, .int .u32 m.av.d1, .int .u32 m.av.d2, .int .u32 m.av.d3, .int .u32 m.av.d4, .int .u32 m.av.d5, .int .u32 m.av.d6, .int .u32 m.av.d7]) rfl (by kernel_rfl) (by kernel_rfl) (by kernel_rfl) (by decide) (fun _ _ _ h => h) hcl hC (fun _ => hE) (yields_row (by kernel_rfl) rfl (w.heap.size) rfl 38 #[.int .i64 m.kd, .int .i64 m.fr, .int .i64 m.dst, .int .u32 m.ep, .int .i64 m.i.1, .int .u32 m.i.2, .int .u32 m.b.1, .int .i64 m.b.2, .int .i64 m.st, .int .u32 m.vv.1, .int .i64 m.vv.2, .int .i64 m.c.kd, .int .i64 m.c.x.1, .int .u32 m.c.x.2, .int .u32 m.c.v.d0, .int .u32 m.c.v.d1, .int .u32 m.c.v.d2, .int .u32 m.c.v.d3, .int .u32 m.c.v.d4, .int .u32 m.c.v.d5, .int .u32 m.c.v.d6, .int .u32 m.c.v.d7, .bool m.c.t, .slice m.c.T m.c.k m.c.kc, .int .i64 m.c.sn, .int .i64 m.c.wh, .slice m.c.B m.c.m m.c.mc, .int .u32 m.c.u.d0, .int .u32 m.c.u.d1, .int .u32 m.c.u.d2, .int .u32 m.c.u.d3, .int .u32 m.c.u.d4, .int .u32 m.c.u.d5, .int .u32 m.c.u.d6, .int .u32 m.c.u.d7, .int .u32 m.an, .int .u32 m.av.d0, .int .u32 m.av.d1, .int .u32 m.av.d2, .int .u32 m.av.d3, .int .u32 m.av.d4, .int .u32 m.av.d5, .int .u32 m.av.d6, .int .u32 m.av.d7] (0, 0) _ hrM.out Tryz.underlying38 rfl (by kernel_rfl)) ?_
  clear hcl
  intro hcl
  (try simp only [Act.put, List.getElem_toArray, List.getElem_cons_zero, List.setIfInBounds_toArray, List.set_cons_zero, List.set_cons_succ])
  refine wpM_take (i := 3) (v := .agg #[.int .i64 m.kd, .int .i64 m.fr, .int .i64 m.dst, .int .u32 m.ep, .int .i64 m.i.1, .int .u32 m.i.2, .int .u32 m.b.1, .int .i64 m.b.2, .int .i64 m.st, .int .u32 m.vv.1, .int .i64 m.vv.2, .int .i64 m.c.kd, .int .i64 m.c.x.1, .int .u32 m.c.x.2, .int .u32 m.c.v.d0, .int .u32 m.c.v.d1, .int .u32 m.c.v.d2, .int .u32 m.c.v.d3, .int .u32 m.c.v.d4, .int .u32 m.c.v.d5, .int .u32 m.c.v.d6, .int .u32 m.c.v.d7, .bool m.c.t, .slice m.c.T m.c.k m.c.kc, .int .i64 m.c.sn, .int .i64 m.c.wh, .slice m.c.B m.c.m m.c.mc, .int .u32 m.c.u.d0, .int .u32 m.c.u.d1, .int .u32 m.c.u.d2, .int .u32 m.c.u.d3, .int .u32 m.c.u.d4, .int .u32 m.c.u.d5, .int .u32 m.c.u.d6, .int .u32 m.c.u.d7, .int .u32 m.an, .int .u32 m.av.d0, .int .u32 m.av.d1, .int .u32 m.av.d2, .int .u32 m.av.d3, .int .u32 m.av.d4, .int .u32 m.av.d5, .int .u32 m.av.d6, .int .u32 m.av.d7]) rfl (by kernel_rfl) (by kernel_rfl) (by kernel_rfl) (by decide) (fun _ _ _ h => h) hcl hC (fun _ => hE) (yields_row (by kernel_rfl) rfl (w.heap.size) rfl 38 #[.int .i64 m.kd, .int .i64 m.fr, .int .i64 m.dst, .int .u32 m.ep, .int .i64 m.i.1, .int .u32 m.i.2, .int .u32 m.b.1, .int .i64 m.b.2, .int .i64 m.st, .int .u32 m.vv.1, .int .i64 m.vv.2, .int .i64 m.c.kd, .int .i64 m.c.x.1, .int .u32 m.c.x.2, .int .u32 m.c.v.d0, .int .u32 m.c.v.d1, .int .u32 m.c.v.d2, .int .u32 m.c.v.d3, .int .u32 m.c.v.d4, .int .u32 m.c.v.d5, .int .u32 m.c.v.d6, .int .u32 m.c.v.d7, .bool m.c.t, .slice m.c.T m.c.k m.c.kc, .int .i64 m.c.sn, .int .i64 m.c.wh, .slice m.c.B m.c.m m.c.mc, .int .u32 m.c.u.d0, .int .u32 m.c.u.d1, .int .u32 m.c.u.d2, .int .u32 m.c.u.d3, .int .u32 m.c.u.d4, .int .u32 m.c.u.d5, .int .u32 m.c.u.d6, .int .u32 m.c.u.d7, .int .u32 m.an, .int .u32 m.av.d0, .int .u32 m.av.d1, .int .u32 m.av.d2, .int .u32 m.av.d3, .int .u32 m.av.d4, .int .u32 m.av.d5, .int .u32 m.av.d6, .int .u32 m.av.d7] (0, 0) _ hrM.out Tryz.underlying38 rfl (by kernel_rfl)) ?_
  clear hcl
  intro hcl
  (try simp only [Act.put, List.getElem_toArray, List.getElem_cons_zero, List.getElem_cons_succ, List.setIfInBounds_toArray, List.set_cons_zero, List.set_cons_succ])
  refine wpM_only (i := 1) rfl (by kernel_rfl) hcl (fun K hK => ?_)
  go_simp
  refine (cTo.out _ hC.1).mono ?_
  rintro e v1 hP
  obtain ⟨n, rfl, hnv, hns, hv1⟩ := hP.sml (hSm.out _ (hGr.out _ hC.1))
  replace hnv := Lib.hid hnv
  replace hns := Lib.hid hns
  clear hP
  have hC' := kq_call hC (Nat.le_refl _) hv1
  refine hK.out _ _ hC' trivial ?_
  clear hK K
  clear hcl
  intro hcl
  (try simp only)
  clear hC
  have hC := hC'
  clear hC'
  refine wpM_only (i := 2) rfl (by kernel_rfl) hcl (fun K hK => ?_)
  go_simp
  refine (cCk.out n _ hns.out hnv.out hC.1).mono ?_
  rintro e v2 ⟨rfl, hv2⟩
  clear hns hnv
  have hC' := kq_call hC (Nat.le_refl _) hv2
  refine hK.out _ _ hC' trivial ?_
  clear hK K
  clear hcl
  intro hcl
  (try simp only [Act.put, List.getElem_toArray, List.getElem_cons_zero, List.getElem_cons_succ, List.setIfInBounds_toArray, List.set_cons_zero, List.set_cons_succ])
  clear hC
  have hC := hC'
  clear hC'
  refine wpM_only (i := 4) rfl (by kernel_rfl) hcl (fun K hK => ?_)
  go_simp
  refine (dCk.out _ hC.1).mono ?_
  rintro e v3 ⟨rfl, hv3⟩
  have hC' := kq_call hC (Nat.le_refl _) hv3
  refine hK.out _ _ hC' trivial ?_
  clear hK K
  clear hcl
  intro hcl
  (try simp only [Act.put, List.getElem_toArray, List.getElem_cons_zero, List.getElem_cons_succ, List.setIfInBounds_toArray, List.set_cons_zero, List.set_cons_succ])
  clear hC
  have hC := hC'
  clear hC'
  (refine wpM_take (i := 5) (v := ?_) rfl (by kernel_rfl) (by kernel_rfl) (by kernel_rfl) (by decide) (fun _ _ _ h => h) hcl hC (fun _ => hE) (Or.inl ⟨by rfl, ?_⟩) ?_; rotate_left; (· (intro w hSw; (try dsimp only at hSw); go_simp; (try with_reducible rfl))); clear hcl; intro hcl; (try simp only [Act.put, List.getElem_toArray, List.getElem_cons_zero, List.getElem_cons_succ, List.setIfInBounds_toArray, List.set_cons_zero, List.set_cons_succ]))
  (refine wpM_take (i := 6) (v := ?_) rfl (by kernel_rfl) (by kernel_rfl) (by kernel_rfl) (by decide) (fun _ _ _ h => h) hcl hC (fun _ => hE) (Or.inl ⟨by rfl, ?_⟩) ?_; rotate_left; (· (intro w hSw; (try dsimp only at hSw); go_simp; (try with_reducible rfl))); clear hcl; intro hcl; (try simp only [Act.put, List.getElem_toArray, List.getElem_cons_zero, List.getElem_cons_succ, List.setIfInBounds_toArray, List.set_cons_zero, List.set_cons_succ]))
  refine wpM_take (i := 7) (v := .agg #[.int .i64 c.kd, .int .i64 c.x.1, .int .u32 c.x.2, .int .u32 c.v.d0, .int .u32 c.v.d1, .int .u32 c.v.d2, .int .u32 c.v.d3, .int .u32 c.v.d4, .int .u32 c.v.d5, .int .u32 c.v.d6, .int .u32 c.v.d7, .bool c.t, .slice c.T c.k c.kc, .int .i64 c.sn, .int .i64 c.wh, .slice c.B c.m c.mc, .int .u32 c.u.d0, .int .u32 c.u.d1, .int .u32 c.u.d2, .int .u32 c.u.d3, .int .u32 c.u.d4, .int .u32 c.u.d5, .int .u32 c.u.d6, .int .u32 c.u.d7]) rfl (by kernel_rfl) (by kernel_rfl) (by kernel_rfl) (by decide) (fun _ _ _ h => h) hcl hC (fun _ => hE) (yields_row (by kernel_rfl) rfl (w.heap.size + 1) rfl 34 #[.int .i64 c.kd, .int .i64 c.x.1, .int .u32 c.x.2, .int .u32 c.v.d0, .int .u32 c.v.d1, .int .u32 c.v.d2, .int .u32 c.v.d3, .int .u32 c.v.d4, .int .u32 c.v.d5, .int .u32 c.v.d6, .int .u32 c.v.d7, .bool c.t, .slice c.T c.k c.kc, .int .i64 c.sn, .int .i64 c.wh, .slice c.B c.m c.mc, .int .u32 c.u.d0, .int .u32 c.u.d1, .int .u32 c.u.d2, .int .u32 c.u.d3, .int .u32 c.u.d4, .int .u32 c.u.d5, .int .u32 c.u.d6, .int .u32 c.u.d7] (0, 0) _ hrC.out Tryz.underlying34 rfl (by kernel_rfl)) ?_
  clear hcl
  intro hcl
  (try simp only [Act.put, List.getElem_toArray, List.getElem_cons_zero, List.getElem_cons_succ, List.setIfInBounds_toArray, List.set_cons_zero, List.set_cons_succ])
  refine wpM_take (i := 10) (v := .agg #[.int .i64 c.kd, .int .i64 c.x.1, .int .u32 c.x.2, .int .u32 c.v.d0, .int .u32 c.v.d1, .int .u32 c.v.d2, .int .u32 c.v.d3, .int .u32 c.v.d4, .int .u32 c.v.d5, .int .u32 c.v.d6, .int .u32 c.v.d7, .bool c.t, .slice c.T c.k c.kc, .int .i64 c.sn, .int .i64 c.wh, .slice c.B c.m c.mc, .int .u32 c.u.d0, .int .u32 c.u.d1, .int .u32 c.u.d2, .int .u32 c.u.d3, .int .u32 c.u.d4, .int .u32 c.u.d5, .int .u32 c.u.d6, .int .u32 c.u.d7]) rfl (by kernel_rfl) (by kernel_rfl) (by kernel_rfl) (by decide) (fun _ _ _ h => h) hcl hC (fun _ => hE) (yields_row (by kernel_rfl) rfl (w.heap.size + 1) rfl 34 #[.int .i64 c.kd, .int .i64 c.x.1, .int .u32 c.x.2, .int .u32 c.v.d0, .int .u32 c.v.d1, .int .u32 c.v.d2, .int .u32 c.v.d3, .int .u32 c.v.d4, .int .u32 c.v.d5, .int .u32 c.v.d6, .int .u32 c.v.d7, .bool c.t, .slice c.T c.k c.kc, .int .i64 c.sn, .int .i64 c.wh, .slice c.B c.m c.mc, .int .u32 c.u.d0, .int .u32 c.u.d1, .int .u32 c.u.d2, .int .u32 c.u.d3, .int .u32 c.u.d4, .int .u32 c.u.d5, .int .u32 c.u.d6, .int .u32 c.u.d7] (0, 0) _ hrC.out Tryz.underlying34 rfl (by kernel_rfl)) ?_
  clear hcl
  intro hcl
  (try simp only [Act.put, List.getElem_toArray, List.getElem_cons_zero, List.getElem_cons_succ, List.setIfInBounds_toArray, List.set_cons_zero, List.set_cons_succ])
  refine wpM_only (i := 8) rfl (by kernel_rfl) hcl (fun K hK => ?_)
  go_simp
  refine (cC.out _ hC.1).mono ?_
  rintro e v4 hP
  obtain ⟨d, rfl, hdv, hds, hv4⟩ := hP.sml (hSc.out _ (hGr.out _ hC.1)).v
  replace hdv := Lib.hid hdv
  replace hds := Lib.hid hds
  clear hP
  have hC' := kq_call hC (Nat.le_refl _) hv4
  refine hK.out _ _ hC' trivial ?_
  clear hK K
  clear hcl
  intro hcl
  (try simp only [Act.put, List.getElem_toArray, List.getElem_cons_zero, List.getElem_cons_succ, List.setIfInBounds_toArray, List.set_cons_zero, List.set_cons_succ])
  clear hC
  have hC := hC'
  clear hC'
  refine wpM_only (i := 9) rfl (by kernel_rfl) hcl (fun K hK => ?_)
  go_simp
  refine (cE.out d _ hds.out hdv.out hC.1).mono ?_
  rintro e v5 ⟨rfl, hv5⟩
  clear hds hdv
  have hC' := kq_call hC (Nat.le_refl _) hv5
  refine hK.out _ _ hC' trivial ?_
  clear hK K
  clear hcl
  intro hcl
  (try simp only [Act.put, List.getElem_toArray, List.getElem_cons_zero, List.getElem_cons_succ, List.setIfInBounds_toArray, List.set_cons_zero, List.set_cons_succ])
  clear hC
  have hC := hC'
  clear hC'
  refine wpM_only (i := 11) rfl (by kernel_rfl) hcl (fun K hK => ?_)
  go_simp
  refine (dE.out _ hC.1).mono ?_
  rintro e v6 ⟨rfl, hv6⟩
  have hC' := kq_call hC (Nat.le_refl _) hv6
  refine hK.out _ _ hC' trivial ?_
  clear hK K
  clear hcl
  intro hcl
  (try simp only [Act.put, List.getElem_toArray, List.getElem_cons_zero, List.getElem_cons_succ, List.setIfInBounds_toArray, List.set_cons_zero, List.set_cons_succ])
  clear hC
  have hC := hC'
  clear hC'
  (refine wpM_take (i := 12) (v := ?_) rfl (by kernel_rfl) (by kernel_rfl) (by kernel_rfl) (by decide) (fun _ _ _ h => h) hcl hC (fun _ => hE) (Or.inl ⟨by rfl, ?_⟩) ?_; rotate_left; (· (intro w hSw; (try dsimp only at hSw); go_simp; (try with_reducible rfl))); clear hcl; intro hcl; (try simp only [Act.put, List.getElem_toArray, List.getElem_cons_zero, List.getElem_cons_succ, List.setIfInBounds_toArray, List.set_cons_zero, List.set_cons_succ]))
  (refine wpM_take (i := 13) (v := ?_) rfl (by kernel_rfl) (by kernel_rfl) (by kernel_rfl) (by decide) (fun _ _ _ h => h) hcl hC (fun _ => hE) (Or.inl ⟨by rfl, ?_⟩) ?_; rotate_left; (· (intro w hSw; (try dsimp only at hSw); go_simp; (try with_reducible rfl))); clear hcl; intro hcl; (try simp only [Act.put, List.getElem_toArray, List.getElem_cons_zero, List.getElem_cons_succ, List.setIfInBounds_toArray, List.set_cons_zero, List.set_cons_succ]))
  (refine wpM_take (i := 14) (v := ?_) rfl (by kernel_rfl) (by kernel_rfl) (by kernel_rfl) (by decide) (fun _ _ _ h => h) hcl hC (fun _ => hE) (Or.inl ⟨by rfl, ?_⟩) ?_; rotate_left; (· (intro w hSw; (try dsimp only at hSw); go_simp; (try with_reducible rfl))); clear hcl; intro hcl; (try simp only [Act.put, List.getElem_toArray, List.getElem_cons_zero, List.getElem_cons_succ, List.setIfInBounds_toArray, List.set_cons_zero, List.set_cons_succ]))
  (refine wpM_take (i := 15) (v := ?_) rfl (by kernel_rfl) (by kernel_rfl) (by kernel_rfl) (by decide) (fun _ _ _ h => h) hcl hC (fun _ => hE) (Or.inl ⟨by rfl, ?_⟩) ?_; rotate_left; (· (intro w hSw; (try dsimp only at hSw); go_simp; (try with_reducible rfl))); clear hcl; intro hcl; (try simp only [Act.put, List.getElem_toArray, List.getElem_cons_zero, List.getElem_cons_succ, List.setIfInBounds_toArray, List.set_cons_zero, List.set_cons_succ]))
  refine wpM_take (i := 16) (v := .agg ([.int .i64 m.c.kd, .int .i64 m.c.x.1, .int .u32 m.c.x.2, .int .u32 m.c.v.d0, .int .u32 m.c.v.d1, .int .u32 m.c.v.d2, .int .u32 m.c.v.d3, .int .u32 m.c.v.d4, .int .u32 m.c.v.d5, .int .u32 m.c.v.d6, .int .u32 m.c.v.d7, .bool m.c.t, .slice m.c.T m.c.k m.c.kc, .int .i64 m.c.sn, .int .i64 m.c.wh, .slice m.c.B m.c.m m.c.mc, .int .u32 m.c.u.d0, .int .u32 m.c.u.d1, .int .u32 m.c.u.d2, .int .u32 m.c.u.d3, .int .u32 m.c.u.d4, .int .u32 m.c.u.d5, .int .u32 m.c.u.d6, .int .u32 m.c.u.d7] : List Value).toArray) rfl (by kernel_rfl) (by kernel_rfl) (by kernel_rfl) (by decide) (fun _ _ _ h => h) hcl hC (fun _ => hE) (yields_mid (by kernel_rfl) rfl (w.heap.size) 11 rfl [.int .i64 m.c.kd, .int .i64 m.c.x.1, .int .u32 m.c.x.2, .int .u32 m.c.v.d0, .int .u32 m.c.v.d1, .int .u32 m.c.v.d2, .int .u32 m.c.v.d3, .int .u32 m.c.v.d4, .int .u32 m.c.v.d5, .int .u32 m.c.v.d6, .int .u32 m.c.v.d7, .bool m.c.t, .slice m.c.T m.c.k m.c.kc, .int .i64 m.c.sn, .int .i64 m.c.wh, .slice m.c.B m.c.m m.c.mc, .int .u32 m.c.u.d0, .int .u32 m.c.u.d1, .int .u32 m.c.u.d2, .int .u32 m.c.u.d3, .int .u32 m.c.u.d4, .int .u32 m.c.u.d5, .int .u32 m.c.u.d6, .int .u32 m.c.u.d7] _ hmid.out Tryz.underlying34 rfl (by kernel_rfl)) ?_
  clear hcl
  intro hcl
  (try simp only [Act.put, List.getElem_toArray, List.getElem_cons_zero, List.getElem_cons_succ, List.setIfInBounds_toArray, List.set_cons_zero, List.set_cons_succ])
  refine wpM_take (i := 18) (v := .agg #[.int .i64 c.kd, .int .i64 c.x.1, .int .u32 c.x.2, .int .u32 c.v.d0, .int .u32 c.v.d1, .int .u32 c.v.d2, .int .u32 c.v.d3, .int .u32 c.v.d4, .int .u32 c.v.d5, .int .u32 c.v.d6, .int .u32 c.v.d7, .bool c.t, .slice c.T c.k c.kc, .int .i64 c.sn, .int .i64 c.wh, .slice c.B c.m c.mc, .int .u32 c.u.d0, .int .u32 c.u.d1, .int .u32 c.u.d2, .int .u32 c.u.d3, .int .u32 c.u.d4, .int .u32 c.u.d5, .int .u32 c.u.d6, .int .u32 c.u.d7]) rfl (by kernel_rfl) (by kernel_rfl) (by kernel_rfl) (by decide) (fun _ _ _ h => h) hcl hC (fun _ => hE) (yields_row (by kernel_rfl) rfl (w.heap.size + 1) rfl 34 #[.int .i64 c.kd, .int .i64 c.x.1, .int .u32 c.x.2, .int .u32 c.v.d0, .int .u32 c.v.d1, .int .u32 c.v.d2, .int .u32 c.v.d3, .int .u32 c.v.d4, .int .u32 c.v.d5, .int .u32 c.v.d6, .int .u32 c.v.d7, .bool c.t, .slice c.T c.k c.kc, .int .i64 c.sn, .int .i64 c.wh, .slice c.B c.m c.mc, .int .u32 c.u.d0, .int .u32 c.u.d1, .int .u32 c.u.d2, .int .u32 c.u.d3, .int .u32 c.u.d4, .int .u32 c.u.d5, .int .u32 c.u.d6, .int .u32 c.u.d7] (0, 0) _ hrC.out Tryz.underlying34 rfl (by kernel_rfl)) ?_
  clear hcl
  intro hcl
  (try simp only [Act.put, List.getElem_toArray, List.getElem_cons_zero, List.getElem_cons_succ, List.setIfInBounds_toArray, List.set_cons_zero, List.set_cons_succ])
  (refine wpM_take (i := 21) (v := ?_) rfl (by kernel_rfl) (by kernel_rfl) (by kernel_rfl) (by decide) (fun _ _ _ h => h) hcl hC (fun _ => hE) (Or.inl ⟨by rfl, ?_⟩) ?_; rotate_left; (· (intro w hSw; (try dsimp only at hSw); go_simp; (try with_reducible rfl))); clear hcl; intro hcl; (try simp only [Act.put, List.getElem_toArray, List.getElem_cons_zero, List.getElem_cons_succ, List.setIfInBounds_toArray, List.set_cons_zero, List.set_cons_succ]))
  refine wpM_take (i := 22) (v := .agg ([.int .i64 m.c.kd, .int .i64 m.c.x.1, .int .u32 m.c.x.2, .int .u32 m.c.v.d0, .int .u32 m.c.v.d1, .int .u32 m.c.v.d2, .int .u32 m.c.v.d3, .int .u32 m.c.v.d4, .int .u32 m.c.v.d5, .int .u32 m.c.v.d6, .int .u32 m.c.v.d7, .bool m.c.t, .slice m.c.T m.c.k m.c.kc, .int .i64 m.c.sn, .int .i64 m.c.wh, .slice m.c.B m.c.m m.c.mc, .int .u32 m.c.u.d0, .int .u32 m.c.u.d1, .int .u32 m.c.u.d2, .int .u32 m.c.u.d3, .int .u32 m.c.u.d4, .int .u32 m.c.u.d5, .int .u32 m.c.u.d6, .int .u32 m.c.u.d7] : List Value).toArray) rfl (by kernel_rfl) (by kernel_rfl) (by kernel_rfl) (by decide) (fun _ _ _ h => h) hcl hC (fun _ => hE) (yields_mid (by kernel_rfl) rfl (w.heap.size) 11 rfl [.int .i64 m.c.kd, .int .i64 m.c.x.1, .int .u32 m.c.x.2, .int .u32 m.c.v.d0, .int .u32 m.c.v.d1, .int .u32 m.c.v.d2, .int .u32 m.c.v.d3, .int .u32 m.c.v.d4, .int .u32 m.c.v.d5, .int .u32 m.c.v.d6, .int .u32 m.c.v.d7, .bool m.c.t, .slice m.c.T m.c.k m.c.kc, .int .i64 m.c.sn, .int .i64 m.c.wh, .slice m.c.B m.c.m m.c.mc, .int .u32 m.c.u.d0, .int .u32 m.c.u.d1, .int .u32 m.c.u.d2, .int .u32 m.c.u.d3, .int .u32 m.c.u.d4, .int .u32 m.c.u.d5, .int .u32 m.c.u.d6, .int .u32 m.c.u.d7] _ hmid.out Tryz.underlying34 rfl (by kernel_rfl)) ?_
  clear hcl
  intro hcl
  (try simp only [Act.put, List.getElem_toArray, List.getElem_cons_zero, List.getElem_cons_succ, List.setIfInBounds_toArray, List.set_cons_zero, List.set_cons_succ])
  refine wpM_take (i := 23) (v := .agg #[.int .i64 c.kd, .int .i64 c.x.1, .int .u32 c.x.2, .int .u32 c.v.d0, .int .u32 c.v.d1, .int .u32 c.v.d2, .int .u32 c.v.d3, .int .u32 c.v.d4, .int .u32 c.v.d5, .int .u32 c.v.d6, .int .u32 c.v.d7, .bool c.t, .slice c.T c.k c.kc, .int .i64 c.sn, .int .i64 c.wh, .slice c.B c.m c.mc, .int .u32 c.u.d0, .int .u32 c.u.d1, .int .u32 c.u.d2, .int .u32 c.u.d3, .int .u32 c.u.d4, .int .u32 c.u.d5, .int .u32 c.u.d6, .int .u32 c.u.d7]) rfl (by kernel_rfl) (by kernel_rfl) (by kernel_rfl) (by decide) (fun _ _ _ h => h) hcl hC (fun _ => hE) (yields_row (by kernel_rfl) rfl (w.heap.size + 1) rfl 34 #[.int .i64 c.kd, .int .i64 c.x.1, .int .u32 c.x.2, .int .u32 c.v.d0, .int .u32 c.v.d1, .int .u32 c.v.d2, .int .u32 c.v.d3, .int .u32 c.v.d4, .int .u32 c.v.d5, .int .u32 c.v.d6, .int .u32 c.v.d7, .bool c.t, .slice c.T c.k c.kc, .int .i64 c.sn, .int .i64 c.wh, .slice c.B c.m c.mc, .int .u32 c.u.d0, .int .u32 c.u.d1, .int .u32 c.u.d2, .int .u32 c.u.d3, .int .u32 c.u.d4, .int .u32 c.u.d5, .int .u32 c.u.d6, .int .u32 c.u.d7] (0, 0) _ hrC.out Tryz.underlying34 rfl (by kernel_rfl)) ?_
  clear hcl
  intro hcl
  (try simp only [Act.put, List.getElem_toArray, List.getElem_cons_zero, List.getElem_cons_succ, List.setIfInBounds_toArray, List.set_cons_zero, List.set_cons_succ])
  refine wpM_only (i := 17) rfl (by kernel_rfl) hcl (fun K hK => ?_)
  go_simp
  refine (cD.out _ hC.1).mono ?_
  rintro e v7 hP
  obtain ⟨d1, rfl, hdv1, hds1, hv7⟩ := hP.sml (hSm.out _ (hGr.out _ hC.1)).c.v
  replace hdv1 := Lib.hid hdv1
  replace hds1 := Lib.hid hds1
  clear hP
  have hC' := kq_call hC (Nat.le_refl _) hv7
  refine hK.out _ _ hC' trivial ?_
  clear hK K
  clear hcl
  intro hcl
  (try simp only [Act.put, List.getElem_toArray, List.getElem_cons_zero, List.getElem_cons_succ, List.setIfInBounds_toArray, List.set_cons_zero, List.set_cons_succ])
  clear hC
  have hC := hC'
  clear hC'
  refine wpM_only (i := 19) rfl (by kernel_rfl) hcl (fun K hK => ?_)
  go_simp
  refine (cC.out _ hC.1).mono ?_
  rintro e v8 hP
  obtain ⟨d2, rfl, hdv2, hds2, hv8⟩ := hP.sml (hSc.out _ (hGr.out _ hC.1)).v
  replace hdv2 := Lib.hid hdv2
  replace hds2 := Lib.hid hds2
  replace hds1 := Lib.hid (hds1.out.below hv8)
  clear hP
  have hC' := kq_call hC (Nat.le_refl _) hv8
  refine hK.out _ _ hC' trivial ?_
  clear hK K
  clear hcl
  intro hcl
  (try simp only [Act.put, List.getElem_toArray, List.getElem_cons_zero, List.getElem_cons_succ, List.setIfInBounds_toArray, List.set_cons_zero, List.set_cons_succ])
  clear hC
  have hC := hC'
  clear hC'
  refine wpM_only (i := 20) rfl (by kernel_rfl) hcl (fun K hK => ?_)
  go_simp
  refine (cS.out d1 d2 _ hds1.out hdv1.out hds2.out hdv2.out).mono ?_
  rintro e v9 ⟨rfl, hv9⟩
  clear hds1 hds2 hdv1 hdv2
  have hC' := kq_call hC (Nat.le_refl _) hv9
  refine hK.out _ _ hC' trivial ?_
  clear hK K
  clear hcl
  intro hcl
  (try simp only [Act.put, List.getElem_toArray, List.getElem_cons_zero, List.getElem_cons_succ, List.setIfInBounds_toArray, List.set_cons_zero, List.set_cons_succ])
  clear hC
  have hC := hC'
  clear hC'
  refine wpM_only (i := 24) rfl (by kernel_rfl) hcl (fun K hK => ?_)
  go_simp
  refine (dS.out _ hC.1).mono ?_
  rintro e va ⟨rfl, hva⟩
  have hC' := kq_call hC (Nat.le_refl _) hva
  refine hK.out _ _ hC' trivial ?_
  clear hK K
  clear hcl
  intro hcl
  (try simp only [Act.put, List.getElem_toArray, List.getElem_cons_zero, List.getElem_cons_succ, List.setIfInBounds_toArray, List.set_cons_zero, List.set_cons_succ])
  clear hC
  have hC := hC'
  clear hC'
  (refine wpM_take (i := 25) (v := ?_) rfl (by kernel_rfl) (by kernel_rfl) (by kernel_rfl) (by decide) (fun _ _ _ h => h) hcl hC (fun _ => hE) (Or.inl ⟨by rfl, ?_⟩) ?_; rotate_left; (· (intro w hSw; (try dsimp only at hSw); go_simp; (try with_reducible rfl))); clear hcl; intro hcl; (try simp only [Act.put, List.getElem_toArray, List.getElem_cons_zero, List.getElem_cons_succ, List.setIfInBounds_toArray, List.set_cons_zero, List.set_cons_succ]))
  (refine wpM_take (i := 26) (v := ?_) rfl (by kernel_rfl) (by kernel_rfl) (by kernel_rfl) (by decide) (fun _ _ _ h => h) hcl hC (fun _ => hE) (Or.inl ⟨by rfl, ?_⟩) ?_; rotate_left; (· (intro w hSw; (try dsimp only at hSw); go_simp; (try with_reducible rfl))); clear hcl; intro hcl; (try simp only [Act.put, List.getElem_toArray, List.getElem_cons_zero, List.getElem_cons_succ, List.setIfInBounds_toArray, List.set_cons_zero, List.set_cons_succ]))
  (refine wpM_take (i := 27) (v := ?_) rfl (by kernel_rfl) (by kernel_rfl) (by kernel_rfl) (by decide) (fun _ _ _ h => h) hcl hC (fun _ => hE) (Or.inl ⟨by rfl, ?_⟩) ?_; rotate_left; (· (intro w hSw; (try dsimp only at hSw); go_simp; (try with_reducible rfl))); clear hcl; intro hcl; (try simp only [Act.put, List.getElem_toArray, List.getElem_cons_zero, List.getElem_cons_succ, List.setIfInBounds_toArray, List.set_cons_zero, List.set_cons_succ]))
  refine wpM_done (by kernel_rfl) ?_
  clear hcl
  try simp only [Act.put, List.getElem_toArray, List.getElem_cons_zero, List.getElem_cons_succ, List.setIfInBounds_toArray, List.set_cons_zero, List.set_cons_succ]
  have hG := hGr.out _ hC.1
  clear hC
  go_wp2
  go_ret
  exact ⟨rfl, hG⟩
end Go.Proofs.YtfhandglpjnonaaGreatDoor
