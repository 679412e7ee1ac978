/- An object with lists of its own: obj.own. -/
import Derived.Test.YtffnpfponnhddaaGreatN27
namespace Go.Proofs.YtffnpfponnhddaaGreat
open Go.RowKit

set_option maxRecDepth 100000 in
set_option maxHeartbeats 4000000 in
theorem ownOb_any (o : Ob) (r : Rw) (w : World) (h : ObIn w o r) :
    Calls Tryz.prog 36 #[.agg #[.int .i64 o.kd, .int .i64 o.rv, .int .u32 o.rt, .int .i64 o.ro, .int .i64 o.pl, .int .i64 o.mi, .slice r.A r.n r.c, .slice r.B r.m r.d, .slice r.P r.k r.e, .slice r.Q r.l r.f]] w fun e w' => ∃ r' : Rw, e = .returned (.agg #[.int .i64 o.kd, .int .i64 o.rv, .int .u32 o.rt, .int .i64 o.ro, .int .i64 o.pl, .int .i64 o.mi, .slice r'.A r'.n r'.c, .slice r'.B r'.m r'.d, .slice r'.P r'.k r'.e, .slice r'.Q r'.l r'.f]) ∧ ObIn w' o r' ∧ ObTy w' r' ∧ Below w.heap.size w w' := by
  have hb0 : Below w.heap.size w ((w.alloc (.cells #[.int .i64 o.kd, .int .i64 o.rv, .int .u32 o.rt, .int .i64 o.ro, .int .i64 o.pl, .int .i64 o.mi, .slice r.A r.n r.c, .slice r.B r.m r.d, .slice r.P r.k r.e, .slice r.Q r.l r.f] 64)).alloc (.cells #[.int .i64 0, .int .i64 0, .int .u32 0, .int .i64 0, .int .i64 0, .int .i64 0, .slice none 0 0, .slice none 0 0, .slice none 0 0, .slice none 0 0] 64)) := ((Below.refl _ w).alloc (Nat.le_refl _) _).alloc (by simp) _
  have hbx : ((w.alloc (.cells #[.int .i64 o.kd, .int .i64 o.rv, .int .u32 o.rt, .int .i64 o.ro, .int .i64 o.pl, .int .i64 o.mi, .slice r.A r.n r.c, .slice r.B r.m r.d, .slice r.P r.k r.e, .slice r.Q r.l r.f] 64)).alloc (.cells #[.int .i64 0, .int .i64 0, .int .u32 0, .int .i64 0, .int .i64 0, .int .i64 0, .slice none 0 0, .slice none 0 0, .slice none 0 0, .slice none 0 0] 64)).heap[w.heap.size]? = some (.cells #[.int .i64 o.kd, .int .i64 o.rv, .int .u32 o.rt, .int .i64 o.ro, .int .i64 o.pl, .int .i64 o.mi, .slice r.A r.n r.c, .slice r.B r.m r.d, .slice r.P r.k r.e, .slice r.Q r.l r.f] 64 (0, 0)) := heap_old _ (by simp) (heap_at _ _ rfl)
  have hbr : ((w.alloc (.cells #[.int .i64 o.kd, .int .i64 o.rv, .int .u32 o.rt, .int .i64 o.ro, .int .i64 o.pl, .int .i64 o.mi, .slice r.A r.n r.c, .slice r.B r.m r.d, .slice r.P r.k r.e, .slice r.Q r.l r.f] 64)).alloc (.cells #[.int .i64 0, .int .i64 0, .int .u32 0, .int .i64 0, .int .i64 0, .int .i64 0, .slice none 0 0, .slice none 0 0, .slice none 0 0, .slice none 0 0] 64)).heap[w.heap.size + 1]? = some (.cells #[.int .i64 0, .int .i64 0, .int .u32 0, .int .i64 0, .int .i64 0, .int .i64 0, .slice none 0 0, .slice none 0 0, .slice none 0 0, .slice none 0 0] 64 (0, 0)) := heap_at _ _ (by simp)
  have hzW : ((w.alloc (.cells #[.int .i64 o.kd, .int .i64 o.rv, .int .u32 o.rt, .int .i64 o.ro, .int .i64 o.pl, .int .i64 o.mi, .slice r.A r.n r.c, .slice r.B r.m r.d, .slice r.P r.k r.e, .slice r.Q r.l r.f] 64)).alloc (.cells #[.int .i64 0, .int .i64 0, .int .u32 0, .int .i64 0, .int .i64 0, .int .i64 0, .slice none 0 0, .slice none 0 0, .slice none 0 0, .slice none 0 0] 64)).heap.size = w.heap.size + 1 + 1 := by simp
  generalize hW : ((w.alloc (.cells #[.int .i64 o.kd, .int .i64 o.rv, .int .u32 o.rt, .int .i64 o.ro, .int .i64 o.pl, .int .i64 o.mi, .slice r.A r.n r.c, .slice r.B r.m r.d, .slice r.P r.k r.e, .slice r.Q r.l r.f] 64)).alloc (.cells #[.int .i64 0, .int .i64 0, .int .u32 0, .int .i64 0, .int .i64 0, .int .i64 0, .slice none 0 0, .slice none 0 0, .slice none 0 0, .slice none 0 0] 64)) = W at hb0 hbx hbr hzW
  have hn1 : w.heap.size ≤ W.heap.size := by omega
  have hbxH := Lib.hid hbx
  have hbrH := Lib.hid hbr
  have hH := Lib.hid h
  have cA := Lib.hid (fun w' (hb : Below w.heap.size w w') => cloneA_any r.A r.n r.c o.S.1 w' ((h.ra.below hb).more hb.size) h.hn)
  have cB := Lib.hid (fun w' (hb : Below w.heap.size w w') => cloneT_any r.B r.m r.d o.S.2 w' ((h.rb.below hb).more hb.size) h.hm)
  have cP := Lib.hid (fun w' (hb : Below w.heap.size w w') => cloneP_any r.P r.k r.e o.M.1 w' ((h.rp.below hb).more hb.size) h.hk)
  have cQ := Lib.hid (fun w' (hb : Below w.heap.size w w') => cloneT_any r.Q r.l r.f o.M.2 w' ((h.rq.below hb).more hb.size) h.hl)
  clear hbx hbr h
  go_enter Tryz.func36, Tryz.ntmps36
  go_upto_region 1 with (fail)
  clear hW
  have hGr := Lib.hid (fun w' (h : Below w.heap.size W w') => hb0.trans (h.mono (Nat.le_refl _)))
  have q0 := blk_cell hbxH.out 6
  have q1 := blk_cell hbxH.out 7
  simp at q0 q1
  refine wp_region_M (fun w' => KQ w.heap.size W w') (fun w' => w'.cell? ⟨w.heap.size, 6, none⟩ = some (.slice r.A r.n r.c) ∧ w'.cell? ⟨w.heap.size, 7, none⟩ = some (.slice r.B r.m r.d)) 10 (by kernel_rfl) (kq (Below.refl _ _).drew) ⟨q0, q1⟩ ?_
  intro hcl
  have hC : KQ w.heap.size W W.drew := kq (Below.refl _ _).drew
  have hE : W.drew.cell? ⟨w.heap.size, 6, none⟩ = some (.slice r.A r.n r.c) ∧ W.drew.cell? ⟨w.heap.size, 7, none⟩ = some (.slice r.B r.m r.d) := ⟨q0, q1⟩
  have hX : W.drew.heap[w.heap.size]? = some (.cells #[.int .i64 o.kd, .int .i64 o.rv, .int .u32 o.rt, .int .i64 o.ro, .int .i64 o.pl, .int .i64 o.mi, .slice r.A r.n r.c, .slice r.B r.m r.d, .slice r.P r.k r.e, .slice r.Q r.l r.f] 64 (0, 0)) := hbxH.out
  have hR : W.drew.heap[w.heap.size + 1]? = some (.cells #[.int .i64 0, .int .i64 0, .int .u32 0, .int .i64 0, .int .i64 0, .int .i64 0, .slice none 0 0, .slice none 0 0, .slice none 0 0, .slice none 0 0] 64 (0, 0)) := hbrH.out
  clear q0 q1
  (refine wpM_take (i := 0) (v := ?_) rfl (by kernel_rfl) (by kernel_rfl) (by kernel_rfl) (by decide) (fun _ _ _ h => h) hcl hC (fun _ => hE) (Or.inl ⟨by rfl, ?_⟩) ?_; rotate_left; (· (intro w hSw; (try dsimp only at hSw); go_simp; (try with_reducible rfl))); clear hcl; intro hcl; (try simp only [Act.put, List.getElem_toArray, List.getElem_cons_zero, List.setIfInBounds_toArray, List.set_cons_zero, List.set_cons_succ]))
  (refine wpM_take (i := 1) (v := ?_) rfl (by kernel_rfl) (by kernel_rfl) (by kernel_rfl) (by decide) (fun _ _ _ h => h) hcl hC (fun _ => hE) (Or.inl ⟨by rfl, ?_⟩) ?_; rotate_left; (· (intro w hSw; (try dsimp only at hSw); go_simp; (try with_reducible rfl))); clear hcl; intro hcl; (try simp only [Act.put, List.getElem_toArray, List.getElem_cons_zero, List.getElem_cons_succ, List.setIfInBounds_toArray, List.set_cons_zero, List.set_cons_succ]))
  (refine wpM_take0d (i := 2) (j := 7) (k := 3) (v := ?_) rfl rfl rfl rfl (by kernel_rfl) (by kernel_rfl) (by kernel_rfl) (by kernel_rfl) (by kernel_rfl) (by kernel_rfl) (by decide) (fun _ _ _ h => h) hcl hC (fun _ => hE) (Or.inl ⟨by rfl, ?_⟩) ?_; rotate_left; (· (intro w hSw; (try dsimp only at hSw); go_simp; (try with_reducible rfl))); clear hcl; intro hcl; (try simp only [Act.put, List.getElem_toArray, List.getElem_cons_zero, List.getElem_cons_succ, List.setIfInBounds_toArray, List.set_cons_zero, List.set_cons_succ]))
  (refine wpM_take (i := 4) (v := ?_) rfl (by kernel_rfl) (by kernel_rfl) (by kernel_rfl) (by decide) (fun _ _ _ h => h) hcl hC (fun _ => hE) (Or.inl ⟨by rfl, ?_⟩) ?_; rotate_left; (· (intro w hSw; (try dsimp only at hSw); go_simp; (try with_reducible rfl))); clear hcl; intro hcl; (try simp only [Act.put, List.getElem_toArray, List.getElem_cons_zero, List.getElem_cons_succ, List.setIfInBounds_toArray, List.set_cons_zero, List.set_cons_succ]))
  (refine wpM_take (i := 5) (v := ?_) rfl (by kernel_rfl) (by kernel_rfl) (by kernel_rfl) (by decide) (fun _ _ _ h => h) hcl hC (fun _ => hE) (Or.inl ⟨by rfl, ?_⟩) ?_; rotate_left; (· (intro w hSw; (try dsimp only at hSw); go_simp; (try with_reducible rfl))); clear hcl; intro hcl; (try simp only [Act.put, List.getElem_toArray, List.getElem_cons_zero, List.getElem_cons_succ, List.setIfInBounds_toArray, List.set_cons_zero, List.set_cons_succ]))
  (refine wpM_take0c (i := 6) (j := 7) (v := ?_) rfl rfl rfl (by kernel_rfl) (by kernel_rfl) (by kernel_rfl) (by kernel_rfl) (by kernel_rfl) (by decide) (fun _ _ _ h => h) hcl hC (fun _ => hE) (Or.inl ⟨by rfl, ?_⟩) ?_; rotate_left; (· (intro w hSw; (try dsimp only at hSw); go_simp; (try with_reducible rfl))); clear hcl; intro hcl; (try simp only [Act.put, List.getElem_toArray, List.getElem_cons_zero, List.getElem_cons_succ, List.setIfInBounds_toArray, List.set_cons_zero, List.set_cons_succ]))
  refine wpM_only (i := 3) rfl (by kernel_rfl) hcl (fun K hK => ?_)
  go_simp
  refine (cA.out _ (hGr.out _ hC.1)).mono ?_
  rintro e v1 ⟨A1, c1, rfl, o1, hv1⟩
  have hX1 := blk_below hX hv1
  skip
  have hR1 := blk_below hR hv1
  have hC1 := kq_call hC hn1 hv1
  have hE1 : v1.cell? ⟨w.heap.size, 6, none⟩ = some (.slice r.A r.n r.c) ∧ v1.cell? ⟨w.heap.size, 7, none⟩ = some (.slice r.B r.m r.d) := ⟨by rw [blk_cell hX1]; simp, by rw [blk_cell hX1]; simp⟩
  refine hK.out _ _ hC1 hE1 ?_
  clear hK K
  clear hcl
  intro hcl
  (try simp only [Act.put, List.getElem_toArray, List.getElem_cons_zero, List.getElem_cons_succ, List.setIfInBounds_toArray, List.set_cons_zero, List.set_cons_succ])
  clear hC hE hX hR
  have hC := hC1
  have hE := hE1
  clear hC1 hE1
  refine wpM_only (i := 7) rfl (by kernel_rfl) hcl (fun K hK => ?_)
  go_simp
  refine (cB.out _ (hGr.out _ hC.1)).mono ?_
  rintro e v2 ⟨B1, d1, rfl, o2, hv2⟩
  have hX2 := blk_below hX1 hv2
  have hR2 := blk_below hR1 hv2
  have hC1 := kq_call hC hn1 hv2
  have hE1 : v2.cell? ⟨w.heap.size, 6, none⟩ = some (.slice r.A r.n r.c) ∧ v2.cell? ⟨w.heap.size, 7, none⟩ = some (.slice r.B r.m r.d) := ⟨by rw [blk_cell hX2]; simp, by rw [blk_cell hX2]; simp⟩
  replace o1 := o1.below hv2
  refine hK.out _ _ hC1 hE1 ?_
  clear hK K
  clear hcl
  intro hcl
  (try simp only [Act.put, List.getElem_toArray, List.getElem_cons_zero, List.getElem_cons_succ, List.setIfInBounds_toArray, List.set_cons_zero, List.set_cons_succ])
  clear hC hE hX1 hR1
  have hC := hC1
  have hE := hE1
  clear hC1 hE1
  (refine wpM_take (i := 8) (v := ?_) rfl (by kernel_rfl) (by kernel_rfl) (by kernel_rfl) (by decide) (fun _ _ _ h => h) hcl hC (fun _ => hE) (Or.inl ⟨by rfl, ?_⟩) ?_; rotate_left; (· (intro w hSw; (try dsimp only at hSw); go_simp; (try with_reducible rfl))); clear hcl; intro hcl; (try simp only [Act.put, List.getElem_toArray, List.getElem_cons_zero, List.getElem_cons_succ, List.setIfInBounds_toArray, List.set_cons_zero, List.set_cons_succ]))
  (refine wpM_take (i := 9) (v := ?_) rfl (by kernel_rfl) (by kernel_rfl) (by kernel_rfl) (by decide) (fun _ _ _ h => h) hcl hC (fun _ => hE) (Or.inl ⟨by rfl, ?_⟩) ?_; rotate_left; (· (intro w hSw; (try dsimp only at hSw); go_simp; (try with_reducible rfl))); clear hcl; intro hcl; (try simp only [Act.put, List.getElem_toArray, List.getElem_cons_zero, List.getElem_cons_succ, List.setIfInBounds_toArray, List.set_cons_zero, List.set_cons_succ]))
  refine wpM_last (i := 10) rfl (by kernel_rfl) hcl (by kernel_rfl) (fun K hK => ?_)
  have hfx := blk_frozen hX2
  have hltx := blk_lt hX2
  have q0 := blk_cell hX2 6
  have q1 := blk_cell hX2 7
  simp at q0 q1
  go_simp
  have hX3 := blk_set (blk_set hX2 6 (.slice A1 r.n c1)) 7 (.slice B1 r.m d1)
  simp only [List.setIfInBounds_toArray, List.set_cons_zero, List.set_cons_succ] at hX3
  have hR3 := heap_set_ne (p := ⟨w.heap.size, 7, none⟩) (u := .slice B1 r.m d1) (by dsimp only; omega) (heap_set_ne (p := ⟨w.heap.size, 6, none⟩) (u := .slice A1 r.n c1) (by dsimp only; omega) hR2)
  have hC3 := kq_set (p := ⟨w.heap.size, 7, none⟩) (kq_set (p := ⟨w.heap.size, 6, none⟩) hC (Nat.le_refl _) (.slice A1 r.n c1)) (Nat.le_refl _) (.slice B1 r.m d1)
  have hs1 := blk_set hX2 6 (.slice A1 r.n c1)
  replace o1 := Ow.set_blk (Ow.set_blk o1 hX2 (by decide) 6 (.slice A1 r.n c1)) hs1 (by decide) 7 (.slice B1 r.m d1)
  replace o2 := Ow.set_blk (Ow.set_blk o2 hX2 (by decide) 6 (.slice A1 r.n c1)) hs1 (by decide) 7 (.slice B1 r.m d1)
  generalize hwy : (v2.setCell ⟨w.heap.size, 6, none⟩ (.slice A1 r.n c1)).setCell ⟨w.heap.size, 7, none⟩ (.slice B1 r.m d1) = W2 at hX3 hR3 hC3 o1 o2 ⊢
  clear hwy
  refine hK.out _ _ hC3 ?_
  clear hK K hcl hC hE hX2 hR2 hs1 hfx hltx q0 q1
  intro hcl
  refine wpM_done (by kernel_rfl) ?_
  clear hcl
  (try simp only [Act.put, List.getElem_toArray, List.getElem_cons_zero, List.getElem_cons_succ, List.setIfInBounds_toArray, List.set_cons_zero, List.set_cons_succ])
  have hG2 := hGr.out _ hC3.1
  clear hC3 hGr hbxH hbrH
  have hbxH := Lib.hid hX3
  have hbrH := Lib.hid hR3
  clear hX3 hR3
  go_upto_region 2 with (fail)
  have hGr := Lib.hid (fun w' (h : Below w.heap.size W2 w') => hG2.trans (h.mono (Nat.le_refl _)))
  have hn1 := hG2.size
  have q0 := blk_cell hbxH.out 8
  have q1 := blk_cell hbxH.out 9
  simp at q0 q1
  refine wp_region_M (fun w' => KQ w.heap.size W2 w') (fun w' => w'.cell? ⟨w.heap.size, 8, none⟩ = some (.slice r.P r.k r.e) ∧ w'.cell? ⟨w.heap.size, 9, none⟩ = some (.slice r.Q r.l r.f)) 10 (by kernel_rfl) (kq (Below.refl _ _).drew) ⟨q0, q1⟩ ?_
  intro hcl
  have hC : KQ w.heap.size W2 W2.drew := kq (Below.refl _ _).drew
  have hE : W2.drew.cell? ⟨w.heap.size, 8, none⟩ = some (.slice r.P r.k r.e) ∧ W2.drew.cell? ⟨w.heap.size, 9, none⟩ = some (.slice r.Q r.l r.f) := ⟨q0, q1⟩
  have hX : W2.drew.heap[w.heap.size]? = some (.cells #[.int .i64 o.kd, .int .i64 o.rv, .int .u32 o.rt, .int .i64 o.ro, .int .i64 o.pl, .int .i64 o.mi, .slice A1 r.n c1, .slice B1 r.m d1, .slice r.P r.k r.e, .slice r.Q r.l r.f] 64 (0, 0)) := hbxH.out
  have hR : W2.drew.heap[w.heap.size + 1]? = some (.cells #[.int .i64 0, .int .i64 0, .int .u32 0, .int .i64 0, .int .i64 0, .int .i64 0, .slice none 0 0, .slice none 0 0, .slice none 0 0, .slice none 0 0] 64 (0, 0)) := hbrH.out
  clear q0 q1
  (refine wpM_take (i := 0) (v := ?_) rfl (by kernel_rfl) (by kernel_rfl) (by kernel_rfl) (by decide) (fun _ _ _ h => h) hcl hC (fun _ => hE) (Or.inl ⟨by rfl, ?_⟩) ?_; rotate_left; (· (intro w hSw; (try dsimp only at hSw); go_simp; (try with_reducible rfl))); clear hcl; intro hcl; (try simp only [Act.put, List.getElem_toArray, List.getElem_cons_zero, List.setIfInBounds_toArray, List.set_cons_zero, List.set_cons_succ]))
  (refine wpM_take (i := 1) (v := ?_) rfl (by kernel_rfl) (by kernel_rfl) (by kernel_rfl) (by decide) (fun _ _ _ h => h) hcl hC (fun _ => hE) (Or.inl ⟨by rfl, ?_⟩) ?_; rotate_left; (· (intro w hSw; (try dsimp only at hSw); go_simp; (try with_reducible rfl))); clear hcl; intro hcl; (try simp only [Act.put, List.getElem_toArray, List.getElem_cons_zero, List.getElem_cons_succ, List.setIfInBounds_toArray, List.set_cons_zero, List.set_cons_succ]))
  (refine wpM_take0d (i := 2) (j := 7) (k := 3) (v := ?_) rfl rfl rfl rfl (by kernel_rfl) (by kernel_rfl) (by kernel_rfl) (by kernel_rfl) (by kernel_rfl) (by kernel_rfl) (by decide) (fun _ _ _ h => h) hcl hC (fun _ => hE) (Or.inl ⟨by rfl, ?_⟩) ?_; rotate_left; (· (intro w hSw; (try dsimp only at hSw); go_simp; (try with_reducible rfl))); clear hcl; intro hcl; (try simp only [Act.put, List.getElem_toArray, List.getElem_cons_zero, List.getElem_cons_succ, List.setIfInBounds_toArray, List.set_cons_zero, List.set_cons_succ]))
  (refine wpM_take (i := 4) (v := ?_) rfl (by kernel_rfl) (by kernel_rfl) (by kernel_rfl) (by decide) (fun _ _ _ h => h) hcl hC (fun _ => hE) (Or.inl ⟨by rfl, ?_⟩) ?_; rotate_left; (· (intro w hSw; (try dsimp only at hSw); go_simp; (try with_reducible rfl))); clear hcl; intro hcl; (try simp only [Act.put, List.getElem_toArray, List.getElem_cons_zero, List.getElem_cons_succ, List.setIfInBounds_toArray, List.set_cons_zero, List.set_cons_succ]))
  (refine wpM_take (i := 5) (v := ?_) rfl (by kernel_rfl) (by kernel_rfl) (by kernel_rfl) (by decide) (fun _ _ _ h => h) hcl hC (fun _ => hE) (Or.inl ⟨by rfl, ?_⟩) ?_; rotate_left; (· (intro w hSw; (try dsimp only at hSw); go_simp; (try with_reducible rfl))); clear hcl; intro hcl; (try simp only [Act.put, List.getElem_toArray, List.getElem_cons_zero, List.getElem_cons_succ, List.setIfInBounds_toArray, List.set_cons_zero, List.set_cons_succ]))
  (refine wpM_take0c (i := 6) (j := 7) (v := ?_) rfl rfl rfl (by kernel_rfl) (by kernel_rfl) (by kernel_rfl) (by kernel_rfl) (by kernel_rfl) (by decide) (fun _ _ _ h => h) hcl hC (fun _ => hE) (Or.inl ⟨by rfl, ?_⟩) ?_; rotate_left; (· (intro w hSw; (try dsimp only at hSw); go_simp; (try with_reducible rfl))); clear hcl; intro hcl; (try simp only [Act.put, List.getElem_toArray, List.getElem_cons_zero, List.getElem_cons_succ, List.setIfInBounds_toArray, List.set_cons_zero, List.set_cons_succ]))
  refine wpM_only (i := 3) rfl (by kernel_rfl) hcl (fun K hK => ?_)
  go_simp
  refine (cP.out _ (hGr.out _ hC.1)).mono ?_
  rintro e v1 ⟨P1, e1, rfl, o3, hv1⟩
  have hX1 := blk_below hX hv1
  replace o1 := (o1.below (Below.refl _ _).drew).below hv1
  replace o2 := (o2.below (Below.refl _ _).drew).below hv1
  have hR1 := blk_below hR hv1
  have hC1 := kq_call hC hn1 hv1
  have hE1 : v1.cell? ⟨w.heap.size, 8, none⟩ = some (.slice r.P r.k r.e) ∧ v1.cell? ⟨w.heap.size, 9, none⟩ = some (.slice r.Q r.l r.f) := ⟨by rw [blk_cell hX1]; simp, by rw [blk_cell hX1]; simp⟩
  refine hK.out _ _ hC1 hE1 ?_
  clear hK K
  clear hcl
  intro hcl
  (try simp only [Act.put, List.getElem_toArray, List.getElem_cons_zero, List.getElem_cons_succ, List.setIfInBounds_toArray, List.set_cons_zero, List.set_cons_succ])
  clear hC hE hX hR
  have hC := hC1
  have hE := hE1
  clear hC1 hE1
  refine wpM_only (i := 7) rfl (by kernel_rfl) hcl (fun K hK => ?_)
  go_simp
  refine (cQ.out _ (hGr.out _ hC.1)).mono ?_
  rintro e v2 ⟨Q1, f1, rfl, o4, hv2⟩
  have hX2 := blk_below hX1 hv2
  have hR2 := blk_below hR1 hv2
  have hC1 := kq_call hC hn1 hv2
  have hE1 : v2.cell? ⟨w.heap.size, 8, none⟩ = some (.slice r.P r.k r.e) ∧ v2.cell? ⟨w.heap.size, 9, none⟩ = some (.slice r.Q r.l r.f) := ⟨by rw [blk_cell hX2]; simp, by rw [blk_cell hX2]; simp⟩
  replace o1 := o1.below hv2
  replace o2 := o2.below hv2
  replace o3 := o3.below hv2
  refine hK.out _ _ hC1 hE1 ?_
  clear hK K
  clear hcl
  intro hcl
  (try simp only [Act.put, List.getElem_toArray, List.getElem_cons_zero, List.getElem_cons_succ, List.setIfInBounds_toArray, List.set_cons_zero, List.set_cons_succ])
  clear hC hE hX1 hR1
  have hC := hC1
  have hE := hE1
  clear hC1 hE1
  (refine wpM_take (i := 8) (v := ?_) rfl (by kernel_rfl) (by kernel_rfl) (by kernel_rfl) (by decide) (fun _ _ _ h => h) hcl hC (fun _ => hE) (Or.inl ⟨by rfl, ?_⟩) ?_; rotate_left; (· (intro w hSw; (try dsimp only at hSw); go_simp; (try with_reducible rfl))); clear hcl; intro hcl; (try simp only [Act.put, List.getElem_toArray, List.getElem_cons_zero, List.getElem_cons_succ, List.setIfInBounds_toArray, List.set_cons_zero, List.set_cons_succ]))
  (refine wpM_take (i := 9) (v := ?_) rfl (by kernel_rfl) (by kernel_rfl) (by kernel_rfl) (by decide) (fun _ _ _ h => h) hcl hC (fun _ => hE) (Or.inl ⟨by rfl, ?_⟩) ?_; rotate_left; (· (intro w hSw; (try dsimp only at hSw); go_simp; (try with_reducible rfl))); clear hcl; intro hcl; (try simp only [Act.put, List.getElem_toArray, List.getElem_cons_zero, List.getElem_cons_succ, List.setIfInBounds_toArray, List.set_cons_zero, List.set_cons_succ]))
  refine wpM_last (i := 10) rfl (by kernel_rfl) hcl (by kernel_rfl) (fun K hK => ?_)
  have hfx := blk_frozen hX2
  have hltx := blk_lt hX2
  have q0 := blk_cell hX2 8
  have q1 := blk_cell hX2 9
  simp at q0 q1
  go_simp
  have hX3 := blk_set (blk_set hX2 8 (.slice P1 r.k e1)) 9 (.slice Q1 r.l f1)
  simp only [List.setIfInBounds_toArray, List.set_cons_zero, List.set_cons_succ] at hX3
  have hR3 := heap_set_ne (p := ⟨w.heap.size, 9, none⟩) (u := .slice Q1 r.l f1) (by dsimp only; omega) (heap_set_ne (p := ⟨w.heap.size, 8, none⟩) (u := .slice P1 r.k e1) (by dsimp only; omega) hR2)
  have hC3 := kq_set (p := ⟨w.heap.size, 9, none⟩) (kq_set (p := ⟨w.heap.size, 8, none⟩) hC (Nat.le_refl _) (.slice P1 r.k e1)) (Nat.le_refl _) (.slice Q1 r.l f1)
  have hs1 := blk_set hX2 8 (.slice P1 r.k e1)
  replace o1 := Ow.set_blk (Ow.set_blk o1 hX2 (by decide) 8 (.slice P1 r.k e1)) hs1 (by decide) 9 (.slice Q1 r.l f1)
  replace o2 := Ow.set_blk (Ow.set_blk o2 hX2 (by decide) 8 (.slice P1 r.k e1)) hs1 (by decide) 9 (.slice Q1 r.l f1)
  replace o3 := Ow.set_blk (Ow.set_blk o3 hX2 (by decide) 8 (.slice P1 r.k e1)) hs1 (by decide) 9 (.slice Q1 r.l f1)
  replace o4 := Ow.set_blk (Ow.set_blk o4 hX2 (by decide) 8 (.slice P1 r.k e1)) hs1 (by decide) 9 (.slice Q1 r.l f1)
  generalize hwy : (v2.setCell ⟨w.heap.size, 8, none⟩ (.slice P1 r.k e1)).setCell ⟨w.heap.size, 9, none⟩ (.slice Q1 r.l f1) = W3 at hX3 hR3 hC3 o1 o2 o3 o4 ⊢
  clear hwy
  refine hK.out _ _ hC3 ?_
  clear hK K hcl hC hE hX2 hR2 hs1 hfx hltx q0 q1
  intro hcl
  refine wpM_done (by kernel_rfl) ?_
  clear hcl
  (try simp only [Act.put, List.getElem_toArray, List.getElem_cons_zero, List.getElem_cons_succ, List.setIfInBounds_toArray, List.set_cons_zero, List.set_cons_succ])
  have hG3 := hGr.out _ hC3.1
  clear hC3 hGr hbxH hbrH
  have hbxH := Lib.hid hX3
  have hbrH := Lib.hid hR3
  clear hX3 hR3
  have hI : ObIn W3 o ⟨A1, r.n, c1, B1, r.m, d1, P1, r.k, e1, Q1, r.l, f1⟩ := ⟨o1.rd.1, o2.rd.1, o3.rd.1, o4.rd.1, hH.out.hn, hH.out.hm, hH.out.hk, hH.out.hl⟩
  have hT : ObTy W3 ⟨A1, r.n, c1, B1, r.m, d1, P1, r.k, e1, Q1, r.l, f1⟩ := ⟨o1.ty, o2.ty, o3.ty, o4.ty⟩
  have hF := Lib.hid (ObIn.other (w' := ((((((((((W3.setCell ⟨w.heap.size + 1, 0, none⟩ (.int .i64 o.kd)).setCell ⟨w.heap.size + 1, 1, none⟩ (.int .i64 o.rv)).setCell ⟨w.heap.size + 1, 2, none⟩ (.int .u32 o.rt)).setCell ⟨w.heap.size + 1, 3, none⟩ (.int .i64 o.ro)).setCell ⟨w.heap.size + 1, 4, none⟩ (.int .i64 o.pl)).setCell ⟨w.heap.size + 1, 5, none⟩ (.int .i64 o.mi)).setCell ⟨w.heap.size + 1, 6, none⟩ (.slice A1 r.n c1)).setCell ⟨w.heap.size + 1, 7, none⟩ (.slice B1 r.m d1)).setCell ⟨w.heap.size + 1, 8, none⟩ (.slice P1 r.k e1)).setCell ⟨w.heap.size + 1, 9, none⟩ (.slice Q1 r.l f1))) hI hT hbrH.out (by decide) (by decide) (by decide) (fun b hb => by repeat (first | rw [heap_set_of b hb] | rfl)) (by simp))
  have hGs : Below w.heap.size w ((((((((((W3.setCell ⟨w.heap.size + 1, 0, none⟩ (.int .i64 o.kd)).setCell ⟨w.heap.size + 1, 1, none⟩ (.int .i64 o.rv)).setCell ⟨w.heap.size + 1, 2, none⟩ (.int .u32 o.rt)).setCell ⟨w.heap.size + 1, 3, none⟩ (.int .i64 o.ro)).setCell ⟨w.heap.size + 1, 4, none⟩ (.int .i64 o.pl)).setCell ⟨w.heap.size + 1, 5, none⟩ (.int .i64 o.mi)).setCell ⟨w.heap.size + 1, 6, none⟩ (.slice A1 r.n c1)).setCell ⟨w.heap.size + 1, 7, none⟩ (.slice B1 r.m d1)).setCell ⟨w.heap.size + 1, 8, none⟩ (.slice P1 r.k e1)).setCell ⟨w.heap.size + 1, 9, none⟩ (.slice Q1 r.l f1)) := (((((((((((hG3.mono (Nat.le_refl _)).setCell (by dsimp only; omega) _).setCell (by dsimp only; omega) _).setCell (by dsimp only; omega) _).setCell (by dsimp only; omega) _).setCell (by dsimp only; omega) _).setCell (by dsimp only; omega) _).setCell (by dsimp only; omega) _).setCell (by dsimp only; omega) _).setCell (by dsimp only; omega) _).setCell (by dsimp only; omega) _)
  have hltx := blk_lt hbxH.out
  have hltr := blk_lt hbrH.out
  have hfr := blk_frozen hbrH.out
  have q0 := blk_cell hbxH.out 0
  have q1 := blk_cell hbxH.out 1
  have q2 := blk_cell hbxH.out 2
  have q3 := blk_cell hbxH.out 3
  have q4 := blk_cell hbxH.out 4
  have q5 := blk_cell hbxH.out 5
  have q6 := blk_cell hbxH.out 6
  have q7 := blk_cell hbxH.out 7
  have q8 := blk_cell hbxH.out 8
  have q9 := blk_cell hbxH.out 9
  have s0 := blk_cell hbrH.out 0
  have s1 := blk_cell hbrH.out 1
  have s2 := blk_cell hbrH.out 2
  have s3 := blk_cell hbrH.out 3
  have s4 := blk_cell hbrH.out 4
  have s5 := blk_cell hbrH.out 5
  have s6 := blk_cell hbrH.out 6
  have s7 := blk_cell hbrH.out 7
  have s8 := blk_cell hbrH.out 8
  have s9 := blk_cell hbrH.out 9
  simp at q0 q1 q2 q3 q4 q5 q6 q7 q8 q9 s0 s1 s2 s3 s4 s5 s6 s7 s8 s9
  clear o1 o2 o3 o4 hI hT cA cB cP cQ hH
  go_wp2_with fail
  exact bodyPost_ret (v := .agg #[.int .i64 o.kd, .int .i64 o.rv, .int .u32 o.rt, .int .i64 o.ro, .int .i64 o.pl, .int .i64 o.mi, .slice A1 r.n c1, .slice B1 r.m d1, .slice P1 r.k e1, .slice Q1 r.l f1]) (by simp [results, Tryz.results36, go_sem, s0, s1, s2, s3, s4, s5, s6, s7, s8, s9]) rfl ⟨⟨A1, r.n, c1, B1, r.m, d1, P1, r.k, e1, Q1, r.l, f1⟩, rfl, hF.out.1, hF.out.2, hGs⟩
end Go.Proofs.YtffnpfponnhddaaGreat
