/- The law's Great of objects; its To: the program's object of the document's. -/
import Derived.Test.YtffnpfponnhddaaGreatN27
import Derived.Test.YtffnpfponnhddaaGreatN29
import Derived.Test.YtffnpfponnhddaaGreatN38
import Derived.Test.YtffnpfponnhddaaGreatOsT
import Derived.Test.YtffnpfponnhddaaGreatM13
namespace Go.Proofs.YtffnpfponnhddaaGreat
open Go.RowKit

def grK (r : Rw) : Bool := (decide (200 < r.n) || decide (200 < r.m)) || (decide (100 < r.k) || decide (200 < r.l))
set_option maxRecDepth 100000 in
set_option maxHeartbeats 2000000 in
theorem greatK_any (o : Ob) (r : Rw) (w : World) :
    Calls Tryz.prog 5 #[.agg #[.int .i64 o.kd, .int .i64 o.rv, .int .u32 o.rt, .int .i64 o.ro, .int .i64 o.pl, .int .i64 o.mi, .slice r.A r.n r.c, .slice r.B r.m r.d, .slice r.P r.k r.e, .slice r.Q r.l r.f], .agg #[.int .i64 0, .string ⟨#[]⟩, .int .i64 0, .int .i64 0, .int .u32 0, .int .i64 0, .int .u32 0, .int .i64 0, .slice none 0 0]] w fun e w' => e = .returned (.bool (grK r)) ∧ Below w.heap.size w w' := by
  have c1 := Lib.hid (fun w' => fgreat12_any r.A r.B r.n r.m r.c r.d w')
  have c2 := Lib.hid (fun w' => fgreat13_any r.P r.Q r.k r.l r.e r.f w')
  generalize hr : grK r = z
  unfold grK at hr
  generalize (decide (200 < r.n) || decide (200 < r.m)) = z1 at *
  generalize (decide (100 < r.k) || decide (200 < r.l)) = z2 at *
  have hb0 : Below w.heap.size w ((w.alloc (.cells #[.int .i64 o.kd, .int .i64 o.rv, .int .u32 o.rt, .int .i64 o.ro, .int .i64 o.pl, .int .i64 o.mi, .slice r.A r.n r.c, .slice r.B r.m r.d, .slice r.P r.k r.e, .slice r.Q r.l r.f] 37)).alloc (.cells #[.int .i64 0, .string ⟨#[]⟩, .int .i64 0, .int .i64 0, .int .u32 0, .int .i64 0, .int .u32 0, .int .i64 0, .slice none 0 0] 47)) := ((Below.refl _ w).alloc (by first | (simp; done) | (simp; omega) | omega) _).alloc (by first | (simp; done) | (simp; omega) | omega) _
  have hx0 : ((w.alloc (.cells #[.int .i64 o.kd, .int .i64 o.rv, .int .u32 o.rt, .int .i64 o.ro, .int .i64 o.pl, .int .i64 o.mi, .slice r.A r.n r.c, .slice r.B r.m r.d, .slice r.P r.k r.e, .slice r.Q r.l r.f] 37)).alloc (.cells #[.int .i64 0, .string ⟨#[]⟩, .int .i64 0, .int .i64 0, .int .u32 0, .int .i64 0, .int .u32 0, .int .i64 0, .slice none 0 0] 47)).heap[w.heap.size]? = some (.cells #[.int .i64 o.kd, .int .i64 o.rv, .int .u32 o.rt, .int .i64 o.ro, .int .i64 o.pl, .int .i64 o.mi, .slice r.A r.n r.c, .slice r.B r.m r.d, .slice r.P r.k r.e, .slice r.Q r.l r.f] 37 (0, 0)) := heap_old _ (by first | (simp; done) | (simp; omega) | omega) (heap_at _ _ rfl)
  have hx1 : ((w.alloc (.cells #[.int .i64 o.kd, .int .i64 o.rv, .int .u32 o.rt, .int .i64 o.ro, .int .i64 o.pl, .int .i64 o.mi, .slice r.A r.n r.c, .slice r.B r.m r.d, .slice r.P r.k r.e, .slice r.Q r.l r.f] 37)).alloc (.cells #[.int .i64 0, .string ⟨#[]⟩, .int .i64 0, .int .i64 0, .int .u32 0, .int .i64 0, .int .u32 0, .int .i64 0, .slice none 0 0] 47)).heap[w.heap.size + 1]? = some (.cells #[.int .i64 0, .string ⟨#[]⟩, .int .i64 0, .int .i64 0, .int .u32 0, .int .i64 0, .int .u32 0, .int .i64 0, .slice none 0 0] 47 (0, 0)) := heap_at _ _ (by simp)
  generalize hW : ((w.alloc (.cells #[.int .i64 o.kd, .int .i64 o.rv, .int .u32 o.rt, .int .i64 o.ro, .int .i64 o.pl, .int .i64 o.mi, .slice r.A r.n r.c, .slice r.B r.m r.d, .slice r.P r.k r.e, .slice r.Q r.l r.f] 37)).alloc (.cells #[.int .i64 0, .string ⟨#[]⟩, .int .i64 0, .int .i64 0, .int .u32 0, .int .i64 0, .int .u32 0, .int .i64 0, .slice none 0 0] 47)) = W at hb0 hx0 hx1
  have hk0 := Lib.hid hx0
  have hk1 := Lib.hid hx1
  have hl0 := blk_lt hx0
  have hl1 := blk_lt hx1
  have f0_0 := blk_cell hx0 0
  have f0_1 := blk_cell hx0 1
  have f0_2 := blk_cell hx0 2
  have f0_3 := blk_cell hx0 3
  have f0_4 := blk_cell hx0 4
  have f0_5 := blk_cell hx0 5
  have f0_6 := blk_cell hx0 6
  have f0_7 := blk_cell hx0 7
  have f0_8 := blk_cell hx0 8
  have f0_9 := blk_cell hx0 9
  have f1_0 := blk_cell hx1 0
  have f1_1 := blk_cell hx1 1
  have f1_2 := blk_cell hx1 2
  have f1_3 := blk_cell hx1 3
  have f1_4 := blk_cell hx1 4
  have f1_5 := blk_cell hx1 5
  have f1_6 := blk_cell hx1 6
  have f1_7 := blk_cell hx1 7
  have f1_8 := blk_cell hx1 8
  simp at f0_0 f0_1 f0_2 f0_3 f0_4 f0_5 f0_6 f0_7 f0_8 f0_9 f1_0 f1_1 f1_2 f1_3 f1_4 f1_5 f1_6 f1_7 f1_8
  clear hx0 hx1
  subst hr
  cases z1 with
  | true =>
    go_enter Tryz.func5, Tryz.ntmps5
    go_wp2_with fail
    refine (c1.out _).mono ?_
    rintro e w1 ⟨rfl, hv1⟩
    have hG := hb0.trans (hv1.mono hb0.size)
    go_wp2_with fail
    go_ret
    exact ⟨rfl, hG⟩
  | false =>
    have hF : ∀ (w1 : World), Below W.heap.size W w1 → w1.heap[w.heap.size]? = some (.cells #[.int .i64 o.kd, .int .i64 o.rv, .int .u32 o.rt, .int .i64 o.ro, .int .i64 o.pl, .int .i64 o.mi, .slice r.A r.n r.c, .slice r.B r.m r.d, .slice r.P r.k r.e, .slice r.Q r.l r.f] 37 (0, 0)) ∧ w1.heap[w.heap.size + 1]? = some (.cells #[.int .i64 0, .string ⟨#[]⟩, .int .i64 0, .int .i64 0, .int .u32 0, .int .i64 0, .int .u32 0, .int .i64 0, .slice none 0 0] 47 (0, 0)) := fun w1 h => ⟨blk_below hk0.out h, blk_below hk1.out h⟩
    have hFH := Lib.hid hF
    clear hF
    cases z2 with
    | true =>
      go_enter Tryz.func5, Tryz.ntmps5
      go_wp2_with fail
      refine (c1.out _).mono ?_
      rintro e w1 ⟨rfl, hv1⟩
      have hG := hb0.trans (hv1.mono hb0.size)
      clear f0_0 f0_1 f0_2 f0_3 f0_4 f0_5 f0_6 f0_7 f0_8 f0_9 f1_0 f1_1 f1_2 f1_3 f1_4 f1_5 f1_6 f1_7 f1_8 hl0 hl1
      have hy0 := (hFH.out _ hv1).1
      have hy1 := (hFH.out _ hv1).2
      have hl0 := blk_lt hy0
      have hl1 := blk_lt hy1
      have f0_0 := blk_cell hy0 0
      have f0_1 := blk_cell hy0 1
      have f0_2 := blk_cell hy0 2
      have f0_3 := blk_cell hy0 3
      have f0_4 := blk_cell hy0 4
      have f0_5 := blk_cell hy0 5
      have f0_6 := blk_cell hy0 6
      have f0_7 := blk_cell hy0 7
      have f0_8 := blk_cell hy0 8
      have f0_9 := blk_cell hy0 9
      have f1_0 := blk_cell hy1 0
      have f1_1 := blk_cell hy1 1
      have f1_2 := blk_cell hy1 2
      have f1_3 := blk_cell hy1 3
      have f1_4 := blk_cell hy1 4
      have f1_5 := blk_cell hy1 5
      have f1_6 := blk_cell hy1 6
      have f1_7 := blk_cell hy1 7
      have f1_8 := blk_cell hy1 8
      simp at f0_0 f0_1 f0_2 f0_3 f0_4 f0_5 f0_6 f0_7 f0_8 f0_9 f1_0 f1_1 f1_2 f1_3 f1_4 f1_5 f1_6 f1_7 f1_8
      clear hy0 hy1
      go_wp2_with fail
      refine (c2.out _).mono ?_
      rintro e w2 ⟨rfl, hv2⟩
      have hG2 := hG.trans (hv2.mono hG.size)
      go_wp2_with fail
      go_ret
      exact ⟨rfl, hG2⟩
    | false =>
      go_enter Tryz.func5, Tryz.ntmps5
      go_wp2_with fail
      refine (c1.out _).mono ?_
      rintro e w1 ⟨rfl, hv1⟩
      have hG := hb0.trans (hv1.mono hb0.size)
      clear f0_0 f0_1 f0_2 f0_3 f0_4 f0_5 f0_6 f0_7 f0_8 f0_9 f1_0 f1_1 f1_2 f1_3 f1_4 f1_5 f1_6 f1_7 f1_8 hl0 hl1
      have hy0 := (hFH.out _ hv1).1
      have hy1 := (hFH.out _ hv1).2
      have hl0 := blk_lt hy0
      have hl1 := blk_lt hy1
      have f0_0 := blk_cell hy0 0
      have f0_1 := blk_cell hy0 1
      have f0_2 := blk_cell hy0 2
      have f0_3 := blk_cell hy0 3
      have f0_4 := blk_cell hy0 4
      have f0_5 := blk_cell hy0 5
      have f0_6 := blk_cell hy0 6
      have f0_7 := blk_cell hy0 7
      have f0_8 := blk_cell hy0 8
      have f0_9 := blk_cell hy0 9
      have f1_0 := blk_cell hy1 0
      have f1_1 := blk_cell hy1 1
      have f1_2 := blk_cell hy1 2
      have f1_3 := blk_cell hy1 3
      have f1_4 := blk_cell hy1 4
      have f1_5 := blk_cell hy1 5
      have f1_6 := blk_cell hy1 6
      have f1_7 := blk_cell hy1 7
      have f1_8 := blk_cell hy1 8
      simp at f0_0 f0_1 f0_2 f0_3 f0_4 f0_5 f0_6 f0_7 f0_8 f0_9 f1_0 f1_1 f1_2 f1_3 f1_4 f1_5 f1_6 f1_7 f1_8
      clear hy0 hy1
      go_wp2_with fail
      refine (c2.out _).mono ?_
      rintro e w2 ⟨rfl, hv2⟩
      have hG2 := hG.trans (hv2.mono hG.size)
      have hv12 := hv1.trans (hv2.mono hv1.size)
      clear f0_0 f0_1 f0_2 f0_3 f0_4 f0_5 f0_6 f0_7 f0_8 f0_9 f1_0 f1_1 f1_2 f1_3 f1_4 f1_5 f1_6 f1_7 f1_8 hl0 hl1
      have hy0 := (hFH.out _ hv12).1
      have hy1 := (hFH.out _ hv12).2
      have hl0 := blk_lt hy0
      have hl1 := blk_lt hy1
      have f0_0 := blk_cell hy0 0
      have f0_1 := blk_cell hy0 1
      have f0_2 := blk_cell hy0 2
      have f0_3 := blk_cell hy0 3
      have f0_4 := blk_cell hy0 4
      have f0_5 := blk_cell hy0 5
      have f0_6 := blk_cell hy0 6
      have f0_7 := blk_cell hy0 7
      have f0_8 := blk_cell hy0 8
      have f0_9 := blk_cell hy0 9
      have f1_0 := blk_cell hy1 0
      have f1_1 := blk_cell hy1 1
      have f1_2 := blk_cell hy1 2
      have f1_3 := blk_cell hy1 3
      have f1_4 := blk_cell hy1 4
      have f1_5 := blk_cell hy1 5
      have f1_6 := blk_cell hy1 6
      have f1_7 := blk_cell hy1 7
      have f1_8 := blk_cell hy1 8
      simp at f0_0 f0_1 f0_2 f0_3 f0_4 f0_5 f0_6 f0_7 f0_8 f0_9 f1_0 f1_1 f1_2 f1_3 f1_4 f1_5 f1_6 f1_7 f1_8
      clear hy0 hy1
      go_wp2_with fail
      go_ret
      exact ⟨rfl, hG2⟩
set_option maxRecDepth 100000 in
set_option maxHeartbeats 4000000 in
theorem to14_any (o : Ob) (r : Rw) (w : World) (h : ObIn w o r) :
    Calls Tryz.prog 9 #[.agg #[.int .i64 o.kd, .int .i64 o.rv, .int .u32 o.rt, .int .i64 o.ro, .int .i64 o.pl, .int .i64 o.mi, .slice r.A r.n r.c, .slice r.B r.m r.d, .slice r.P r.k r.e, .slice r.Q r.l r.f]] w fun e w' => ∃ r' : Rw, e = .returned (.agg #[.int .i64 o.kd, .int .i64 o.rv, .int .u32 o.rt, .int .i64 o.ro, .int .i64 o.pl, .int .i64 o.mi, .slice r'.A r'.n r'.c, .slice r'.B r'.m r'.d, .slice r'.P r'.k r'.e, .slice r'.Q r'.l r'.f]) ∧ ObIn w' o r' ∧ ObTy w' r' ∧ Below w.heap.size w w' := by
  have c1 := Lib.hid (fun w' => lto_any o.rv o.rt o.ro w')
  have c2 := Lib.hid (fun w' => nto_any o.pl o.mi w')
  have c3 := Lib.hid (fun w' (hb : Below w.heap.size w w') => oto_any r.A r.n r.c o.S.1 r.B r.m r.d o.S.2 w' ((h.ra.below hb).more hb.size) ((h.rb.below hb).more hb.size) h.hn h.hm)
  have c4 := Lib.hid (fun w' (hb : Below w.heap.size w w') => mto_any r.P r.k r.e o.M.1 r.Q r.l r.f o.M.2 w' ((h.rp.below hb).more hb.size) ((h.rq.below hb).more hb.size) h.hk h.hl)
  have hH := Lib.hid h
  clear h
  have hb0 : Below w.heap.size w ((w.alloc (.cells #[.int .i64 o.kd, .int .i64 o.rv, .int .u32 o.rt, .int .i64 o.ro, .int .i64 o.pl, .int .i64 o.mi, .slice r.A r.n r.c, .slice r.B r.m r.d, .slice r.P r.k r.e, .slice r.Q r.l r.f] 37)).alloc (.cells #[.int .i64 0, .int .i64 0, .int .u32 0, .int .i64 0, .int .i64 0, .int .i64 0, .slice none 0 0, .slice none 0 0, .slice none 0 0, .slice none 0 0] 64)) := ((Below.refl _ w).alloc (by first | (simp; done) | (simp; omega) | omega) _).alloc (by first | (simp; done) | (simp; omega) | omega) _
  have hx0 : ((w.alloc (.cells #[.int .i64 o.kd, .int .i64 o.rv, .int .u32 o.rt, .int .i64 o.ro, .int .i64 o.pl, .int .i64 o.mi, .slice r.A r.n r.c, .slice r.B r.m r.d, .slice r.P r.k r.e, .slice r.Q r.l r.f] 37)).alloc (.cells #[.int .i64 0, .int .i64 0, .int .u32 0, .int .i64 0, .int .i64 0, .int .i64 0, .slice none 0 0, .slice none 0 0, .slice none 0 0, .slice none 0 0] 64)).heap[w.heap.size]? = some (.cells #[.int .i64 o.kd, .int .i64 o.rv, .int .u32 o.rt, .int .i64 o.ro, .int .i64 o.pl, .int .i64 o.mi, .slice r.A r.n r.c, .slice r.B r.m r.d, .slice r.P r.k r.e, .slice r.Q r.l r.f] 37 (0, 0)) := heap_old _ (by first | (simp; done) | (simp; omega) | omega) (heap_at _ _ rfl)
  have hx1 : ((w.alloc (.cells #[.int .i64 o.kd, .int .i64 o.rv, .int .u32 o.rt, .int .i64 o.ro, .int .i64 o.pl, .int .i64 o.mi, .slice r.A r.n r.c, .slice r.B r.m r.d, .slice r.P r.k r.e, .slice r.Q r.l r.f] 37)).alloc (.cells #[.int .i64 0, .int .i64 0, .int .u32 0, .int .i64 0, .int .i64 0, .int .i64 0, .slice none 0 0, .slice none 0 0, .slice none 0 0, .slice none 0 0] 64)).heap[w.heap.size + 1]? = some (.cells #[.int .i64 0, .int .i64 0, .int .u32 0, .int .i64 0, .int .i64 0, .int .i64 0, .slice none 0 0, .slice none 0 0, .slice none 0 0, .slice none 0 0] 64 (0, 0)) := heap_at _ _ (by simp)
  generalize hW : ((w.alloc (.cells #[.int .i64 o.kd, .int .i64 o.rv, .int .u32 o.rt, .int .i64 o.ro, .int .i64 o.pl, .int .i64 o.mi, .slice r.A r.n r.c, .slice r.B r.m r.d, .slice r.P r.k r.e, .slice r.Q r.l r.f] 37)).alloc (.cells #[.int .i64 0, .int .i64 0, .int .u32 0, .int .i64 0, .int .i64 0, .int .i64 0, .slice none 0 0, .slice none 0 0, .slice none 0 0, .slice none 0 0] 64)) = W at hb0 hx0 hx1
  have hn1 : w.heap.size + 1 ≤ W.heap.size := by have := blk_lt hx1; omega
  have hl0 := blk_lt hx0
  have f0_0 := blk_cell hx0 0
  have f0_1 := blk_cell hx0 1
  have f0_2 := blk_cell hx0 2
  have f0_3 := blk_cell hx0 3
  have f0_4 := blk_cell hx0 4
  have f0_5 := blk_cell hx0 5
  have f0_6 := blk_cell hx0 6
  have f0_7 := blk_cell hx0 7
  have f0_8 := blk_cell hx0 8
  have f0_9 := blk_cell hx0 9
  simp at f0_0 f0_1 f0_2 f0_3 f0_4 f0_5 f0_6 f0_7 f0_8 f0_9
  have hk1 := Lib.hid hx1
  have hGr := Lib.hid (fun w' (h : Below (w.heap.size + 1) W w') => hb0.trans (h.mono (Nat.le_succ _)))
  clear hx0 hx1
  go_enter Tryz.func9, Tryz.ntmps9
  go_upto_region 1 with (fail)
  clear hW
  refine wp_region_M (fun w' => KQ (w.heap.size + 1) W w') (fun _ => True) 15 (by kernel_rfl) (kq (Below.refl _ _).drew) trivial ?_
  intro hcl
  have hC : KQ (w.heap.size + 1) W W.drew := kq (Below.refl _ _).drew
  have hE := trivial
  have hR0 : W.drew.heap[w.heap.size + 1]? = some (.cells #[.int .i64 0, .int .i64 0, .int .u32 0, .int .i64 0, .int .i64 0, .int .i64 0, .slice none 0 0, .slice none 0 0, .slice none 0 0, .slice none 0 0] 64 (0, 0)) := hk1.out
  (refine wpM_take (i := 0) (v := ?_) rfl (by kernel_rfl) (by kernel_rfl) (by kernel_rfl) (by decide) (fun _ _ _ h => h) hcl hC (fun _ => hE) (Or.inl ⟨by rfl, ?_⟩) ?_; rotate_left; (· (intro w hSw; (try dsimp only at hSw); go_simp; (try with_reducible rfl))); clear hcl; intro hcl; (try simp only [Act.put, List.getElem_toArray, List.getElem_cons_zero, List.setIfInBounds_toArray, List.set_cons_zero, List.set_cons_succ]))
  (refine wpM_take (i := 1) (v := ?_) rfl (by kernel_rfl) (by kernel_rfl) (by kernel_rfl) (by decide) (fun _ _ _ h => h) hcl hC (fun _ => hE) (Or.inl ⟨by rfl, ?_⟩) ?_; rotate_left; (· (intro w hSw; (try dsimp only at hSw); go_simp; (try with_reducible rfl))); clear hcl; intro hcl; (try simp only [Act.put, List.getElem_toArray, List.getElem_cons_zero, List.getElem_cons_succ, List.setIfInBounds_toArray, List.set_cons_zero, List.set_cons_succ]))
  (refine wpM_take (i := 2) (v := ?_) rfl (by kernel_rfl) (by kernel_rfl) (by kernel_rfl) (by decide) (fun _ _ _ h => h) hcl hC (fun _ => hE) (Or.inl ⟨by rfl, ?_⟩) ?_; rotate_left; (· (intro w hSw; (try dsimp only at hSw); go_simp; (try with_reducible rfl))); clear hcl; intro hcl; (try simp only [Act.put, List.getElem_toArray, List.getElem_cons_zero, List.getElem_cons_succ, List.setIfInBounds_toArray, List.set_cons_zero, List.set_cons_succ]))
  (refine wpM_take (i := 3) (v := ?_) rfl (by kernel_rfl) (by kernel_rfl) (by kernel_rfl) (by decide) (fun _ _ _ h => h) hcl hC (fun _ => hE) (Or.inl ⟨by rfl, ?_⟩) ?_; rotate_left; (· (intro w hSw; (try dsimp only at hSw); go_simp; (try with_reducible rfl))); clear hcl; intro hcl; (try simp only [Act.put, List.getElem_toArray, List.getElem_cons_zero, List.getElem_cons_succ, List.setIfInBounds_toArray, List.set_cons_zero, List.set_cons_succ]))
  (refine wpM_take (i := 5) (v := ?_) rfl (by kernel_rfl) (by kernel_rfl) (by kernel_rfl) (by decide) (fun _ _ _ h => h) hcl hC (fun _ => hE) (Or.inl ⟨by rfl, ?_⟩) ?_; rotate_left; (· (intro w hSw; (try dsimp only at hSw); go_simp; (try with_reducible rfl))); clear hcl; intro hcl; (try simp only [Act.put, List.getElem_toArray, List.getElem_cons_zero, List.getElem_cons_succ, List.setIfInBounds_toArray, List.set_cons_zero, List.set_cons_succ]))
  (refine wpM_take (i := 6) (v := ?_) rfl (by kernel_rfl) (by kernel_rfl) (by kernel_rfl) (by decide) (fun _ _ _ h => h) hcl hC (fun _ => hE) (Or.inl ⟨by rfl, ?_⟩) ?_; rotate_left; (· (intro w hSw; (try dsimp only at hSw); go_simp; (try with_reducible rfl))); clear hcl; intro hcl; (try simp only [Act.put, List.getElem_toArray, List.getElem_cons_zero, List.getElem_cons_succ, List.setIfInBounds_toArray, List.set_cons_zero, List.set_cons_succ]))
  (refine wpM_take (i := 8) (v := ?_) rfl (by kernel_rfl) (by kernel_rfl) (by kernel_rfl) (by decide) (fun _ _ _ h => h) hcl hC (fun _ => hE) (Or.inl ⟨by rfl, ?_⟩) ?_; rotate_left; (· (intro w hSw; (try dsimp only at hSw); go_simp; (try with_reducible rfl))); clear hcl; intro hcl; (try simp only [Act.put, List.getElem_toArray, List.getElem_cons_zero, List.getElem_cons_succ, List.setIfInBounds_toArray, List.set_cons_zero, List.set_cons_succ]))
  (refine wpM_take (i := 9) (v := ?_) rfl (by kernel_rfl) (by kernel_rfl) (by kernel_rfl) (by decide) (fun _ _ _ h => h) hcl hC (fun _ => hE) (Or.inl ⟨by rfl, ?_⟩) ?_; rotate_left; (· (intro w hSw; (try dsimp only at hSw); go_simp; (try with_reducible rfl))); clear hcl; intro hcl; (try simp only [Act.put, List.getElem_toArray, List.getElem_cons_zero, List.getElem_cons_succ, List.setIfInBounds_toArray, List.set_cons_zero, List.set_cons_succ]))
  (refine wpM_take (i := 11) (v := ?_) rfl (by kernel_rfl) (by kernel_rfl) (by kernel_rfl) (by decide) (fun _ _ _ h => h) hcl hC (fun _ => hE) (Or.inl ⟨by rfl, ?_⟩) ?_; rotate_left; (· (intro w hSw; (try dsimp only at hSw); go_simp; (try with_reducible rfl))); clear hcl; intro hcl; (try simp only [Act.put, List.getElem_toArray, List.getElem_cons_zero, List.getElem_cons_succ, List.setIfInBounds_toArray, List.set_cons_zero, List.set_cons_succ]))
  (refine wpM_take (i := 12) (v := ?_) rfl (by kernel_rfl) (by kernel_rfl) (by kernel_rfl) (by decide) (fun _ _ _ h => h) hcl hC (fun _ => hE) (Or.inl ⟨by rfl, ?_⟩) ?_; rotate_left; (· (intro w hSw; (try dsimp only at hSw); go_simp; (try with_reducible rfl))); clear hcl; intro hcl; (try simp only [Act.put, List.getElem_toArray, List.getElem_cons_zero, List.getElem_cons_succ, List.setIfInBounds_toArray, List.set_cons_zero, List.set_cons_succ]))
  refine wpM_only (i := 4) rfl (by kernel_rfl) hcl (fun K hK => ?_)
  go_simp
  refine (c1.out _).mono ?_
  rintro e v1 ⟨rfl, hv1⟩
  have hR1 := blk_below hR0 hv1
  have hC1 := kq_call hC hn1 hv1
  refine hK.out _ _ hC1 trivial ?_
  clear hK K
  clear hcl
  intro hcl
  (try simp only [Act.put, List.getElem_toArray, List.getElem_cons_zero, List.getElem_cons_succ, List.setIfInBounds_toArray, List.set_cons_zero, List.set_cons_succ])
  clear hC
  have hC := hC1
  clear hC1 hR0
  refine wpM_only (i := 7) rfl (by kernel_rfl) hcl (fun K hK => ?_)
  go_simp
  refine (c2.out _).mono ?_
  rintro e v2 ⟨rfl, hv2⟩
  have hR2 := blk_below hR1 hv2
  have hC1 := kq_call hC hn1 hv2
  refine hK.out _ _ hC1 trivial ?_
  clear hK K
  clear hcl
  intro hcl
  (try simp only [Act.put, List.getElem_toArray, List.getElem_cons_zero, List.getElem_cons_succ, List.setIfInBounds_toArray, List.set_cons_zero, List.set_cons_succ])
  clear hC
  have hC := hC1
  clear hC1 hR1
  refine wpM_only (i := 10) rfl (by kernel_rfl) hcl (fun K hK => ?_)
  go_simp
  refine (c3.out _ (hGr.out _ hC.1)).mono ?_
  rintro e v3 ⟨A3, c3, B3, d3, rfl, o1, o2, hv3⟩
  have hR3 := blk_below hR2 hv3
  have hC1 := kq_call hC hn1 hv3
  refine hK.out _ _ hC1 trivial ?_
  clear hK K
  clear hcl
  intro hcl
  (try simp only [Act.put, List.getElem_toArray, List.getElem_cons_zero, List.getElem_cons_succ, List.setIfInBounds_toArray, List.set_cons_zero, List.set_cons_succ])
  clear hC
  have hC := hC1
  clear hC1 hR2
  refine wpM_only (i := 13) rfl (by kernel_rfl) hcl (fun K hK => ?_)
  go_simp
  refine (c4.out _ (hGr.out _ hC.1)).mono ?_
  rintro e v4 ⟨A4, c4, B4, d4, rfl, o3, o4, hv4⟩
  have hR4 := blk_below hR3 hv4
  have hC1 := kq_call hC hn1 hv4
  refine hK.out _ _ hC1 trivial ?_
  clear hK K
  clear hcl
  intro hcl
  (try simp only [Act.put, List.getElem_toArray, List.getElem_cons_zero, List.getElem_cons_succ, List.setIfInBounds_toArray, List.set_cons_zero, List.set_cons_succ])
  clear hC
  have hC := hC1
  clear hC1 hR3
  replace o1 := o1.below hv4
  replace o2 := o2.below hv4
  (refine wpM_take (i := 14) (v := ?_) rfl (by kernel_rfl) (by kernel_rfl) (by kernel_rfl) (by decide) (fun _ _ _ h => h) hcl hC (fun _ => hE) (Or.inl ⟨by rfl, ?_⟩) ?_; rotate_left; (· (intro w hSw; (try dsimp only at hSw); go_simp; (try with_reducible rfl))); clear hcl; intro hcl; (try simp only [Act.put, List.getElem_toArray, List.getElem_cons_zero, List.getElem_cons_succ, List.setIfInBounds_toArray, List.set_cons_zero, List.set_cons_succ]))
  refine wpM_last (i := 15) rfl (by kernel_rfl) hcl (by kernel_rfl) (fun K hK => ?_)
  have hfr := blk_frozen hR4
  have hlr := blk_lt hR4
  have s0 := blk_cell hR4 0
  have s1 := blk_cell hR4 1
  have s2 := blk_cell hR4 2
  have s3 := blk_cell hR4 3
  have s4 := blk_cell hR4 4
  have s5 := blk_cell hR4 5
  have s6 := blk_cell hR4 6
  have s7 := blk_cell hR4 7
  have s8 := blk_cell hR4 8
  have s9 := blk_cell hR4 9
  simp at s0 s1 s2 s3 s4 s5 s6 s7 s8 s9
  go_simp
  have hG4 := hGr.out _ hC.1
  have hI : ObIn v4 o ⟨A3, r.n, c3, B3, r.m, d3, A4, r.k, c4, B4, r.l, d4⟩ := ⟨o1.rd.1, o2.rd.1, o3.rd.1, o4.rd.1, hH.out.hn, hH.out.hm, hH.out.hk, hH.out.hl⟩
  have hT : ObTy v4 ⟨A3, r.n, c3, B3, r.m, d3, A4, r.k, c4, B4, r.l, d4⟩ := ⟨o1.ty, o2.ty, o3.ty, o4.ty⟩
  have hF := Lib.hid (ObIn.other (w' := ((((((((((v4.setCell ⟨w.heap.size + 1, 0, none⟩ (.int .i64 o.kd)).setCell ⟨w.heap.size + 1, 1, none⟩ (.int .i64 o.rv)).setCell ⟨w.heap.size + 1, 2, none⟩ (.int .u32 o.rt)).setCell ⟨w.heap.size + 1, 3, none⟩ (.int .i64 o.ro)).setCell ⟨w.heap.size + 1, 4, none⟩ (.int .i64 o.pl)).setCell ⟨w.heap.size + 1, 5, none⟩ (.int .i64 o.mi)).setCell ⟨w.heap.size + 1, 6, none⟩ (.slice A3 r.n c3)).setCell ⟨w.heap.size + 1, 7, none⟩ (.slice B3 r.m d3)).setCell ⟨w.heap.size + 1, 8, none⟩ (.slice A4 r.k c4)).setCell ⟨w.heap.size + 1, 9, none⟩ (.slice B4 r.l d4))) hI hT hR4 (by decide) (by decide) (by decide) (fun b hb => by repeat (first | rw [heap_set_of b hb] | rfl)) (by simp))
  have hGs : Below w.heap.size w ((((((((((v4.setCell ⟨w.heap.size + 1, 0, none⟩ (.int .i64 o.kd)).setCell ⟨w.heap.size + 1, 1, none⟩ (.int .i64 o.rv)).setCell ⟨w.heap.size + 1, 2, none⟩ (.int .u32 o.rt)).setCell ⟨w.heap.size + 1, 3, none⟩ (.int .i64 o.ro)).setCell ⟨w.heap.size + 1, 4, none⟩ (.int .i64 o.pl)).setCell ⟨w.heap.size + 1, 5, none⟩ (.int .i64 o.mi)).setCell ⟨w.heap.size + 1, 6, none⟩ (.slice A3 r.n c3)).setCell ⟨w.heap.size + 1, 7, none⟩ (.slice B3 r.m d3)).setCell ⟨w.heap.size + 1, 8, none⟩ (.slice A4 r.k c4)).setCell ⟨w.heap.size + 1, 9, none⟩ (.slice B4 r.l d4)) := ((((((((((hG4.setCell (by dsimp only; omega) _).setCell (by dsimp only; omega) _).setCell (by dsimp only; omega) _).setCell (by dsimp only; omega) _).setCell (by dsimp only; omega) _).setCell (by dsimp only; omega) _).setCell (by dsimp only; omega) _).setCell (by dsimp only; omega) _).setCell (by dsimp only; omega) _).setCell (by dsimp only; omega) _)
  refine hK.out _ _ (kq_set (kq_set (kq_set (kq_set (kq_set (kq_set (kq_set (kq_set (kq_set (kq_set hC (Nat.le_refl _) (.int .i64 o.kd)) (Nat.le_refl _) (.int .i64 o.rv)) (Nat.le_refl _) (.int .u32 o.rt)) (Nat.le_refl _) (.int .i64 o.ro)) (Nat.le_refl _) (.int .i64 o.pl)) (Nat.le_refl _) (.int .i64 o.mi)) (Nat.le_refl _) (.slice A3 r.n c3)) (Nat.le_refl _) (.slice B3 r.m d3)) (Nat.le_refl _) (.slice A4 r.k c4)) (Nat.le_refl _) (.slice B4 r.l d4)) ?_
  clear hK K hcl hI hT o1 o2 o3 o4 hC hGr hH
  intro hcl
  refine wpM_done (by kernel_rfl) ?_
  clear hcl
  (try simp only [Act.put, List.getElem_toArray, List.getElem_cons_zero, List.getElem_cons_succ, List.setIfInBounds_toArray, List.set_cons_zero, List.set_cons_succ])
  go_wp2_with fail
  exact bodyPost_ret (v := .agg #[.int .i64 o.kd, .int .i64 o.rv, .int .u32 o.rt, .int .i64 o.ro, .int .i64 o.pl, .int .i64 o.mi, .slice A3 r.n c3, .slice B3 r.m d3, .slice A4 r.k c4, .slice B4 r.l d4]) (by simp [results, Tryz.results9, go_sem, s0, s1, s2, s3, s4, s5, s6, s7, s8, s9]) rfl ⟨⟨A3, r.n, c3, B3, r.m, d3, A4, r.k, c4, B4, r.l, d4⟩, rfl, hF.out.1, hF.out.2, hGs⟩
end Go.Proofs.YtffnpfponnhddaaGreat
