/- The law's From: a message of the program's as one of the document's. -/
import Derived.Test.YtfhandglpjnonaaGreatDoorN27
import Derived.Test.YtfhandglpjnonaaGreatDoorN25
set_option maxRecDepth 100000
set_option maxHeartbeats 16000000
namespace Go.Proofs.YtfhandglpjnonaaGreatDoor
open Go.RowKit
theorem bfrom_any (a b : Int) (w : World) : Calls Tryz.prog 75 #[.agg #[.int .u32 a, .int .i64 b]] w fun e w' => e = .returned (.agg #[.int .u32 a, .int .i64 b]) ∧ Below w.heap.size w w' := by
 go_enter Tryz.func75, Tryz.ntmps75
 go_wp2
 refine bodyPost_ret (v := .agg #[.int .u32 a, .int .i64 b]) (by simp [results, Tryz.results75, go_sem]) rfl ⟨rfl, ?_⟩
 repeat (with_reducible refine Below.setCell ?_ (by simp) _)
 exact ((Below.refl _ w).alloc (Nat.le_refl _) _).alloc (by simp) _
theorem attrF_any (a : Int) (v : Vm) (w : World) : Calls Tryz.prog 77 #[.agg #[.int .u32 a, .int .u32 v.d0, .int .u32 v.d1, .int .u32 v.d2, .int .u32 v.d3, .int .u32 v.d4, .int .u32 v.d5, .int .u32 v.d6, .int .u32 v.d7]] w fun e w' => e = .returned (.agg #[.int .u32 a, .int .u32 v.d0, .int .u32 v.d1, .int .u32 v.d2, .int .u32 v.d3, .int .u32 v.d4, .int .u32 v.d5, .int .u32 v.d6, .int .u32 v.d7]) ∧ Below w.heap.size w w' := by
 go_enter Tryz.func77, Tryz.ntmps77
 go_wp2
 refine bodyPost_ret (v := .agg #[.int .u32 a, .int .u32 v.d0, .int .u32 v.d1, .int .u32 v.d2, .int .u32 v.d3, .int .u32 v.d4, .int .u32 v.d5, .int .u32 v.d6, .int .u32 v.d7]) (by simp [results, Tryz.results77, go_sem]) rfl ⟨rfl, ?_⟩
 repeat (with_reducible refine Below.setCell ?_ (by simp) _)
 exact ((Below.refl _ w).alloc (Nat.le_refl _) _).alloc (by simp) _
def CmdF (c : Cm) (w : World) (e : Ending) (w' : World) : Prop := ∃ A1 c1, e = .returned (.agg #[.int .i64 c.kd, .int .i64 c.x.1, .int .u32 c.x.2, .int .u32 c.v.d0, .int .u32 c.v.d1, .int .u32 c.v.d2, .int .u32 c.v.d3, .int .u32 c.v.d4, .int .u32 c.v.d5, .int .u32 c.v.d6, .int .u32 c.v.d7, .bool c.t, .slice A1 c.k c1, .int .i64 c.sn, .int .i64 c.wh, .slice c.B c.m c.mc, .int .u32 c.u.d0, .int .u32 c.u.d1, .int .u32 c.u.d2, .int .u32 c.u.d3, .int .u32 c.u.d4, .int .u32 c.u.d5, .int .u32 c.u.d6, .int .u32 c.u.d7]) ∧ Ow w' w.heap.size 138 10 (.slice A1 c.k c1) (c.ps.map Pe.enc) ∧ Below w.heap.size w w'
theorem cmdF_any (c : Cm) (w : World) (hA : c.Ok w w.heap.size) (hk : c.k ≤ 1000) : Calls Tryz.prog 76 #[.agg ↑c] w fun e w' => CmdF c w e w' := by
 obtain ⟨kd, x, v, t, T, k, kc, ps, sn, wh, B, m, mc, ms, u⟩ := c
 have hEd := hA.rdE
 dsimp only at hEd hk
 have cT := jH (fun w' (h : Below w.heap.size w w') => txfrom_any x v t T k kc ps w' ((hEd.below h).more h.size) hk)
 have hb0 : Below w.heap.size w ((w.alloc (.cells #[.int .i64 kd, .int .i64 x.1, .int .u32 x.2, .int .u32 v.d0, .int .u32 v.d1, .int .u32 v.d2, .int .u32 v.d3, .int .u32 v.d4, .int .u32 v.d5, .int .u32 v.d6, .int .u32 v.d7, .bool t, .slice T k kc, .int .i64 sn, .int .i64 wh, .slice B m mc, .int .u32 u.d0, .int .u32 u.d1, .int .u32 u.d2, .int .u32 u.d3, .int .u32 u.d4, .int .u32 u.d5, .int .u32 u.d6, .int .u32 u.d7] 47)).alloc (.cells ↑Zc.mk 34)) := ((Below.refl _ w).alloc (Nat.le_refl _) _).alloc (by simp) _
 have hbA : ((w.alloc (.cells #[.int .i64 kd, .int .i64 x.1, .int .u32 x.2, .int .u32 v.d0, .int .u32 v.d1, .int .u32 v.d2, .int .u32 v.d3, .int .u32 v.d4, .int .u32 v.d5, .int .u32 v.d6, .int .u32 v.d7, .bool t, .slice T k kc, .int .i64 sn, .int .i64 wh, .slice B m mc, .int .u32 u.d0, .int .u32 u.d1, .int .u32 u.d2, .int .u32 u.d3, .int .u32 u.d4, .int .u32 u.d5, .int .u32 u.d6, .int .u32 u.d7] 47)).alloc (.cells ↑Zc.mk 34)).heap[w.heap.size]? = some (.cells #[.int .i64 kd, .int .i64 x.1, .int .u32 x.2, .int .u32 v.d0, .int .u32 v.d1, .int .u32 v.d2, .int .u32 v.d3, .int .u32 v.d4, .int .u32 v.d5, .int .u32 v.d6, .int .u32 v.d7, .bool t, .slice T k kc, .int .i64 sn, .int .i64 wh, .slice B m mc, .int .u32 u.d0, .int .u32 u.d1, .int .u32 u.d2, .int .u32 u.d3, .int .u32 u.d4, .int .u32 u.d5, .int .u32 u.d6, .int .u32 u.d7] 47 (0, 0)) := yE _ (by simp) (jT _ _ rfl)
 have hbK : ((w.alloc (.cells #[.int .i64 kd, .int .i64 x.1, .int .u32 x.2, .int .u32 v.d0, .int .u32 v.d1, .int .u32 v.d2, .int .u32 v.d3, .int .u32 v.d4, .int .u32 v.d5, .int .u32 v.d6, .int .u32 v.d7, .bool t, .slice T k kc, .int .i64 sn, .int .i64 wh, .slice B m mc, .int .u32 u.d0, .int .u32 u.d1, .int .u32 u.d2, .int .u32 u.d3, .int .u32 u.d4, .int .u32 u.d5, .int .u32 u.d6, .int .u32 u.d7] 47)).alloc (.cells ↑Zc.mk 34)).heap[w.heap.size + 1]? = some (.cells ↑Zc.mk 34 (0, 0)) := jT _ _ (by simp)
 generalize hW : ((w.alloc (.cells #[.int .i64 kd, .int .i64 x.1, .int .u32 x.2, .int .u32 v.d0, .int .u32 v.d1, .int .u32 v.d2, .int .u32 v.d3, .int .u32 v.d4, .int .u32 v.d5, .int .u32 v.d6, .int .u32 v.d7, .bool t, .slice T k kc, .int .i64 sn, .int .i64 wh, .slice B m mc, .int .u32 u.d0, .int .u32 u.d1, .int .u32 u.d2, .int .u32 u.d3, .int .u32 u.d4, .int .u32 u.d5, .int .u32 u.d6, .int .u32 u.d7] 47)).alloc (.cells ↑Zc.mk 34)) = W at hb0 hbA hbK
 have hz0 := hb0.size
 have hltA := jB hbA
 have hltK := jB hbK
 have hn1 : w.heap.size + 1 ≤ W.heap.size := by omega
 have hn0 : w.heap.size ≤ w.heap.size + 1 := by omega
 have p0 := jA hbA 0
 have p1 := jA hbA 1
 have p2 := jA hbA 2
 have p3 := jA hbA 3
 have p4 := jA hbA 4
 have p5 := jA hbA 5
 have p6 := jA hbA 6
 have p7 := jA hbA 7
 have p8 := jA hbA 8
 have p9 := jA hbA 9
 have p10 := jA hbA 10
 have p11 := jA hbA 11
 have p12 := jA hbA 12
 have p13 := jA hbA 13
 have p14 := jA hbA 14
 have p15 := jA hbA 15
 have p16 := jA hbA 16
 have p17 := jA hbA 17
 have p18 := jA hbA 18
 have p19 := jA hbA 19
 have p20 := jA hbA 20
 have p21 := jA hbA 21
 have p22 := jA hbA 22
 have p23 := jA hbA 23
 simp at p0 p1 p2 p3 p4 p5 p6 p7 p8 p9 p10 p11 p12 p13 p14 p15 p16 p17 p18 p19 p20 p21 p22 p23
 have hbKH := jH hbK
 have hGr := jH (fun w' (h : Below (w.heap.size + 1) W w') => hb0.trans (h.mono hn0))
 clear hbA hA hEd hbK hb0
 go_enter Tryz.func76, Tryz.ntmps76
 go_upto_region 1 with (fail)
 clear hW
 refine jW (fun w' => KQ (w.heap.size + 1) W w') (fun w' => w'.heap[w.heap.size + 1]? = some (.cells ↑Zc.mk 34 (0, 0))) 14 (by kernel_rfl) (kq (Below.refl _ _).drew) hbKH.out ?_
 intro hcl
 have hC : KQ (w.heap.size + 1) W W.drew := kq (Below.refl _ _).drew
 have hE : W.drew.heap[w.heap.size + 1]? = some (.cells ↑Zc.mk 34 (0, 0)) := hbKH.out
 (refine mT 0 ?_ rfl hcl hC hE ?_ ?_; rotate_left; (· (intro w hSw; (try dsimp only at hSw); go_simp; (try with_reducible rfl))); clear hcl; intro hcl; (try simp only [Act.put, List.getElem_toArray, List.getElem_cons_zero, List.setIfInBounds_toArray, List.set_cons_zero, List.set_cons_succ]))
 (refine mT 1 ?_ rfl hcl hC hE ?_ ?_; rotate_left; (· (intro w hSw; (try dsimp only at hSw); go_simp; (try with_reducible rfl))); clear hcl; intro hcl; (try simp only [Act.put, nA, nB, nC, nD, nE, nF]))
 (refine mT 2 ?_ rfl hcl hC hE ?_ ?_; rotate_left; (· (intro w hSw; (try dsimp only at hSw); go_simp; (try with_reducible rfl))); clear hcl; intro hcl; (try simp only [Act.put, nA, nB, nC, nD, nE, nF]))
 (refine mT 3 ?_ rfl hcl hC hE ?_ ?_; rotate_left; (· (intro w hSw; (try dsimp only at hSw); go_simp; (try with_reducible rfl))); clear hcl; intro hcl; (try simp only [Act.put, nA, nB, nC, nD, nE, nF]))
 (refine mT 5 ?_ rfl hcl hC hE ?_ ?_; rotate_left; (· (intro w hSw; (try dsimp only at hSw); go_simp; (try with_reducible rfl))); clear hcl; intro hcl; (try simp only [Act.put, nA, nB, nC, nD, nE, nF]))
 (refine mT 6 ?_ rfl hcl hC hE ?_ ?_; rotate_left; (· (intro w hSw; (try dsimp only at hSw); go_simp; (try with_reducible rfl))); clear hcl; intro hcl; (try simp only [Act.put, nA, nB, nC, nD, nE, nF]))
 (refine mT 7 ?_ rfl hcl hC hE ?_ ?_; rotate_left; (· (intro w hSw; (try dsimp only at hSw); go_simp; (try with_reducible rfl))); clear hcl; intro hcl; (try simp only [Act.put, nA, nB, nC, nD, nE, nF]))
 (refine mT 8 ?_ rfl hcl hC hE ?_ ?_; rotate_left; (· (intro w hSw; (try dsimp only at hSw); go_simp; (try with_reducible rfl))); clear hcl; intro hcl; (try simp only [Act.put, nA, nB, nC, nD, nE, nF]))
 (refine mT 9 ?_ rfl hcl hC hE ?_ ?_; rotate_left; (· (intro w hSw; (try dsimp only at hSw); go_simp; (try with_reducible rfl))); clear hcl; intro hcl; (try simp only [Act.put, nA, nB, nC, nD, nE, nF]))
 (refine mT 10 ?_ rfl hcl hC hE ?_ ?_; rotate_left; (· (intro w hSw; (try dsimp only at hSw); go_simp; (try with_reducible rfl))); clear hcl; intro hcl; (try simp only [Act.put, nA, nB, nC, nD, nE, nF]))
 (refine mT 11 ?_ rfl hcl hC hE ?_ ?_; rotate_left; (· (intro w hSw; (try dsimp only at hSw); go_simp; (try with_reducible rfl))); clear hcl; intro hcl; (try simp only [Act.put, nA, nB, nC, nD, nE, nF]))
 (refine mT 12 ?_ rfl hcl hC hE ?_ ?_; rotate_left; (· (intro w hSw; (try dsimp only at hSw); go_simp; (try with_reducible rfl))); clear hcl; intro hcl; (try simp only [Act.put, nA, nB, nC, nD, nE, nF]))
 refine jK (i := 4) rfl (by kernel_rfl) hcl (fun K hK => ?_)
 go_simp
 refine (cT.out _ (hGr.out _ hC.1)).mono ?_
 rintro e v1 ⟨A1, c1, rfl, o1, hv1⟩
 have hcs := hC.1.size
 replace o1 := o1.base (show w.heap.size + 2 ≤ _ by omega)
 clear hcs
 have hC' := jP hC hn1 hv1
 have hE' := jD hE hv1
 refine hK.out _ _ hC' hE' ?_
 clear hK K
 clear hcl
 intro hcl
 (try simp only [Act.put, nA, nB, nC, nD, nE, nF])
 clear hC hE
 have hC := hC'
 have hE := hE'
 clear hC' hE'
 refine wpM_take (i := 13) (v := .agg #[.int .i64 kd, .int .i64 x.1, .int .u32 x.2, .int .u32 v.d0, .int .u32 v.d1, .int .u32 v.d2, .int .u32 v.d3, .int .u32 v.d4, .int .u32 v.d5, .int .u32 v.d6, .int .u32 v.d7, .bool t, .slice A1 k c1, .int .i64 sn, .int .i64 wh, .slice B m mc, .int .u32 u.d0, .int .u32 u.d1, .int .u32 u.d2, .int .u32 u.d3, .int .u32 u.d4, .int .u32 u.d5, .int .u32 u.d6, .int .u32 u.d7]) rfl (by kernel_rfl) (by kernel_rfl) (by kernel_rfl) (by decide) (fun _ _ _ h => h) hcl hC (fun _ => hE) (yields_build (by kernel_rfl) _ _ rfl (by kernel_rfl)) ?_
 clear hcl
 intro hcl
 (try simp only [Act.put, nA, nB, nC, nD, nE, nF])
 refine wpM_last (i := 14) rfl (by kernel_rfl) hcl (by kernel_rfl) (fun K hK => ?_)
 rw [if_pos (by kernel_rfl)]
 refine wp_store_mid _ _ _ rfl (w.heap.size + 1) 0 #[.int .i64 kd, .int .i64 x.1, .int .u32 x.2, .int .u32 v.d0, .int .u32 v.d1, .int .u32 v.d2, .int .u32 v.d3, .int .u32 v.d4, .int .u32 v.d5, .int .u32 v.d6, .int .u32 v.d7, .bool t, .slice A1 k c1, .int .i64 sn, .int .i64 wh, .slice B m mc, .int .u32 u.d0, .int .u32 u.d1, .int .u32 u.d2, .int .u32 u.d3, .int .u32 u.d4, .int .u32 u.d5, .int .u32 u.d6, .int .u32 u.d7] rfl rfl (there_all hE _ (by simp)) (by kernel_rfl) (by simp [Value.oneCell']) ?_
 have hR := jH (blk_all hE #[.int .i64 kd, .int .i64 x.1, .int .u32 x.2, .int .u32 v.d0, .int .u32 v.d1, .int .u32 v.d2, .int .u32 v.d3, .int .u32 v.d4, .int .u32 v.d5, .int .u32 v.d6, .int .u32 v.d7, .bool t, .slice A1 k c1, .int .i64 sn, .int .i64 wh, .slice B m mc, .int .u32 u.d0, .int .u32 u.d1, .int .u32 u.d2, .int .u32 u.d3, .int .u32 u.d4, .int .u32 u.d5, .int .u32 u.d6, .int .u32 u.d7] (by simp))
 have hBl := jH (hGr.out _ (jV (Nat.le_refl _) (#[.int .i64 kd, .int .i64 x.1, .int .u32 x.2, .int .u32 v.d0, .int .u32 v.d1, .int .u32 v.d2, .int .u32 v.d3, .int .u32 v.d4, .int .u32 v.d5, .int .u32 v.d6, .int .u32 v.d7, .bool t, .slice A1 k c1, .int .i64 sn, .int .i64 wh, .slice B m mc, .int .u32 u.d0, .int .u32 u.d1, .int .u32 u.d2, .int .u32 u.d3, .int .u32 u.d4, .int .u32 u.d5, .int .u32 u.d6, .int .u32 u.d7] : Array Value).toList 0 _ hC.1))
 have hoE := jH (Ow.setCells (by omega) (#[.int .i64 kd, .int .i64 x.1, .int .u32 x.2, .int .u32 v.d0, .int .u32 v.d1, .int .u32 v.d2, .int .u32 v.d3, .int .u32 v.d4, .int .u32 v.d5, .int .u32 v.d6, .int .u32 v.d7, .bool t, .slice A1 k c1, .int .i64 sn, .int .i64 wh, .slice B m mc, .int .u32 u.d0, .int .u32 u.d1, .int .u32 u.d2, .int .u32 u.d3, .int .u32 u.d4, .int .u32 u.d5, .int .u32 u.d6, .int .u32 u.d7] : Array Value).toList 0 o1 (b := w.heap.size + 1))
 have hKN := kq (jV (Nat.le_refl _) (#[.int .i64 kd, .int .i64 x.1, .int .u32 x.2, .int .u32 v.d0, .int .u32 v.d1, .int .u32 v.d2, .int .u32 v.d3, .int .u32 v.d4, .int .u32 v.d5, .int .u32 v.d6, .int .u32 v.d7, .bool t, .slice A1 k c1, .int .i64 sn, .int .i64 wh, .slice B m mc, .int .u32 u.d0, .int .u32 u.d1, .int .u32 u.d2, .int .u32 u.d3, .int .u32 u.d4, .int .u32 u.d5, .int .u32 u.d6, .int .u32 u.d7] : Array Value).toList 0 _ hC.1)
 generalize hwy : World.setCells v1 (w.heap.size + 1) 0 (#[.int .i64 kd, .int .i64 x.1, .int .u32 x.2, .int .u32 v.d0, .int .u32 v.d1, .int .u32 v.d2, .int .u32 v.d3, .int .u32 v.d4, .int .u32 v.d5, .int .u32 v.d6, .int .u32 v.d7, .bool t, .slice A1 k c1, .int .i64 sn, .int .i64 wh, .slice B m mc, .int .u32 u.d0, .int .u32 u.d1, .int .u32 u.d2, .int .u32 u.d3, .int .u32 u.d4, .int .u32 u.d5, .int .u32 u.d6, .int .u32 u.d7] : Array Value).toList = wy at hR hBl hoE hKN ⊢
 clear hwy
 refine hK.out _ _ hKN ?_
 clear hK K hcl hKN
 intro hcl
 refine wpM_done (by kernel_rfl) ?_
 clear hcl hC hE o1 p0 p1 p2 p3 p4 p5 p6 p7 p8 p9 p10 p11 p12 p13 p14 p15 p16 p17 p18 p19 p20 p21 p22 p23
 (try simp only [Act.put, List.getElem_toArray, List.getElem_cons_zero, List.getElem_cons_succ])
 go_wp2_with fail
 exact bodyPost_ret (v := .agg #[.int .i64 kd, .int .i64 x.1, .int .u32 x.2, .int .u32 v.d0, .int .u32 v.d1, .int .u32 v.d2, .int .u32 v.d3, .int .u32 v.d4, .int .u32 v.d5, .int .u32 v.d6, .int .u32 v.d7, .bool t, .slice A1 k c1, .int .i64 sn, .int .i64 wh, .slice B m mc, .int .u32 u.d0, .int .u32 u.d1, .int .u32 u.d2, .int .u32 u.d3, .int .u32 u.d4, .int .u32 u.d5, .int .u32 u.d6, .int .u32 u.d7]) (results_cellQ 2 34 (by kernel_rfl) (w.heap.size + 1) rfl (run_loadVar_row _ _ _ _ _ _ _ hR.out Tryz.underlying34 rfl (by kernel_rfl))) rfl
  ⟨A1, c1, rfl, hoE.out.base (by omega), hBl.out⟩
def MsgF (m : Mm) (w : World) (e : Ending) (w' : World) : Prop := ∃ n : Mm, e = .returned (.agg ↑n) ∧ n.val = m.val ∧ n.c.Ok w' w'.heap.size ∧ Below w.heap.size w w'
theorem from25_any (m : Mm) (w : World) (hA : m.c.Ok w w.heap.size) (hk : m.c.k ≤ 1000) : Calls Tryz.prog 22 #[.agg ↑m] w fun e w' => MsgF m w e w' := by
 have cT := jH (fun w' (h : Below w.heap.size w w') => cmdF_any m.c w' ((hA.below h).more h.size) hk)
 have hAr := jH (fun w' (h : Below w.heap.size w w') => hA.below h)
 have cB := jH (fun w' => bfrom_any m.b.1 m.b.2 w')
 have cV := jH (fun w' => bfrom_any m.vv.1 m.vv.2 w')
 have cA := jH (fun w' => attrF_any m.an m.av w')
 have hb0 : Below w.heap.size w ((w.alloc (.cells ↑m 50)).alloc (.cells ↑Zm.mk 38)) := ((Below.refl _ w).alloc (Nat.le_refl _) _).alloc (by simp) _
 have hbA : ((w.alloc (.cells ↑m 50)).alloc (.cells ↑Zm.mk 38)).heap[w.heap.size]? = some (.cells ↑m 50 (0, 0)) := yE _ (by simp) (jT _ _ rfl)
 have hbK : ((w.alloc (.cells ↑m 50)).alloc (.cells ↑Zm.mk 38)).heap[w.heap.size + 1]? = some (.cells ↑Zm.mk 38 (0, 0)) := jT _ _ (by simp)
 generalize hW : ((w.alloc (.cells ↑m 50)).alloc (.cells ↑Zm.mk 38)) = W at hb0 hbA hbK
 have hz0 := hb0.size
 have hltA := jB hbA
 have hltK := jB hbK
 have hn1 : w.heap.size + 1 ≤ W.heap.size := by omega
 have hn0 : w.heap.size ≤ w.heap.size + 1 := by omega
 have p0 := jA hbA 0
 have p1 := jA hbA 1
 have p2 := jA hbA 2
 have p3 := jA hbA 3
 have p4 := jA hbA 4
 have p5 := jA hbA 5
 have p6 := jA hbA 6
 have p7 := jA hbA 7
 have p8 := jA hbA 8
 have p9 := jA hbA 9
 have p10 := jA hbA 10
 have p35 := jA hbA 35
 have p36 := jA hbA 36
 have p37 := jA hbA 37
 have p38 := jA hbA 38
 have p39 := jA hbA 39
 have p40 := jA hbA 40
 have p41 := jA hbA 41
 have p42 := jA hbA 42
 have p43 := jA hbA 43
 simp at p0 p1 p2 p3 p4 p5 p6 p7 p8 p9 p10 p35 p36 p37 p38 p39 p40 p41 p42 p43
 have hbKH := jH hbK
 have hmid := jH (fun w' (h : KQ (w.heap.size + 1) W w') => rangeQ ((h.1.block _ (Nat.lt_succ_self _)).trans hbA) 11 ↑m.c rfl)
 have hGr := jH (fun w' (h : Below (w.heap.size + 1) W w') => hb0.trans (h.mono hn0))
 clear hbA hA hbK hb0
 go_enter Tryz.func22, Tryz.ntmps22
 go_upto_region 1 with (fail)
 clear hW
 refine jW (fun w' => KQ (w.heap.size + 1) W w') (fun w' => w'.heap[w.heap.size + 1]? = some (.cells ↑Zm.mk 38 (0, 0))) 25 (by kernel_rfl) (kq (Below.refl _ _).drew) hbKH.out ?_
 intro hcl
 have hC : KQ (w.heap.size + 1) W W.drew := kq (Below.refl _ _).drew
 have hE : W.drew.heap[w.heap.size + 1]? = some (.cells ↑Zm.mk 38 (0, 0)) := hbKH.out
 (refine mT 0 ?_ rfl hcl hC hE ?_ ?_; rotate_left; (· (intro w hSw; (try dsimp only at hSw); go_simp; (try with_reducible rfl))); clear hcl; intro hcl; (try simp only [Act.put, List.getElem_toArray, List.getElem_cons_zero, List.setIfInBounds_toArray, List.set_cons_zero, List.set_cons_succ]))
 (refine mT 1 ?_ rfl hcl hC hE ?_ ?_; rotate_left; (· (intro w hSw; (try dsimp only at hSw); go_simp; (try with_reducible rfl))); clear hcl; intro hcl; (try simp only [Act.put, nA, nB, nC, nD, nE, nF]))
 (refine mT 2 ?_ rfl hcl hC hE ?_ ?_; rotate_left; (· (intro w hSw; (try dsimp only at hSw); go_simp; (try with_reducible rfl))); clear hcl; intro hcl; (try simp only [Act.put, nA, nB, nC, nD, nE, nF]))
 (refine mT 3 ?_ rfl hcl hC hE ?_ ?_; rotate_left; (· (intro w hSw; (try dsimp only at hSw); go_simp; (try with_reducible rfl))); clear hcl; intro hcl; (try simp only [Act.put, nA, nB, nC, nD, nE, nF]))
 (refine mT 4 ?_ rfl hcl hC hE ?_ ?_; rotate_left; (· (intro w hSw; (try dsimp only at hSw); go_simp; (try with_reducible rfl))); clear hcl; intro hcl; (try simp only [Act.put, nA, nB, nC, nD, nE, nF]))
 (refine mT 5 ?_ rfl hcl hC hE ?_ ?_; rotate_left; (· (intro w hSw; (try dsimp only at hSw); go_simp; (try with_reducible rfl))); clear hcl; intro hcl; (try simp only [Act.put, nA, nB, nC, nD, nE, nF]))
 (refine mT 6 ?_ rfl hcl hC hE ?_ ?_; rotate_left; (· (intro w hSw; (try dsimp only at hSw); go_simp; (try with_reducible rfl))); clear hcl; intro hcl; (try simp only [Act.put, nA, nB, nC, nD, nE, nF]))
 (refine mT 7 ?_ rfl hcl hC hE ?_ ?_; rotate_left; (· (intro w hSw; (try dsimp only at hSw); go_simp; (try with_reducible rfl))); clear hcl; intro hcl; (try simp only [Act.put, nA, nB, nC, nD, nE, nF]))
 (refine mT 8 ?_ rfl hcl hC hE ?_ ?_; rotate_left; (· (intro w hSw; (try dsimp only at hSw); go_simp; (try with_reducible rfl))); clear hcl; intro hcl; (try simp only [Act.put, nA, nB, nC, nD, nE, nF]))
 (refine mT 9 ?_ rfl hcl hC hE ?_ ?_; rotate_left; (· (intro w hSw; (try dsimp only at hSw); go_simp; (try with_reducible rfl))); clear hcl; intro hcl; (try simp only [Act.put, nA, nB, nC, nD, nE, nF]))
 (refine mT 10 ?_ rfl hcl hC hE ?_ ?_; rotate_left; (· (intro w hSw; (try dsimp only at hSw); go_simp; (try with_reducible rfl))); clear hcl; intro hcl; (try simp only [Act.put, nA, nB, nC, nD, nE, nF]))
 (refine mT 11 ?_ rfl hcl hC hE ?_ ?_; rotate_left; (· (intro w hSw; (try dsimp only at hSw); go_simp; (try with_reducible rfl))); clear hcl; intro hcl; (try simp only [Act.put, nA, nB, nC, nD, nE, nF]))
 (refine mT 13 ?_ rfl hcl hC hE ?_ ?_; rotate_left; (· (intro w hSw; (try dsimp only at hSw); go_simp; (try with_reducible rfl))); clear hcl; intro hcl; (try simp only [Act.put, nA, nB, nC, nD, nE, nF]))
 (refine mT 14 ?_ rfl hcl hC hE ?_ ?_; rotate_left; (· (intro w hSw; (try dsimp only at hSw); go_simp; (try with_reducible rfl))); clear hcl; intro hcl; (try simp only [Act.put, nA, nB, nC, nD, nE, nF]))
 (refine mT 15 ?_ rfl hcl hC hE ?_ ?_; rotate_left; (· (intro w hSw; (try dsimp only at hSw); go_simp; (try with_reducible rfl))); clear hcl; intro hcl; (try simp only [Act.put, nA, nB, nC, nD, nE, nF]))
 (refine mT 16 ?_ rfl hcl hC hE ?_ ?_; rotate_left; (· (intro w hSw; (try dsimp only at hSw); go_simp; (try with_reducible rfl))); clear hcl; intro hcl; (try simp only [Act.put, nA, nB, nC, nD, nE, nF]))
 (refine mT 18 ?_ rfl hcl hC hE ?_ ?_; rotate_left; (· (intro w hSw; (try dsimp only at hSw); go_simp; (try with_reducible rfl))); clear hcl; intro hcl; (try simp only [Act.put, nA, nB, nC, nD, nE, nF]))
 refine wpM_take (i := 19) (v := .agg (↑m.c : List Value).toArray) rfl (by kernel_rfl) (by kernel_rfl) (by kernel_rfl) (by decide) (fun _ _ _ h => h) hcl hC (fun _ => hE) (yields_mid (by kernel_rfl) rfl (w.heap.size) 11 rfl ↑m.c _ hmid.out Tryz.underlying47 rfl (by kernel_rfl)) ?_
 clear hcl
 intro hcl
 (try simp only [Act.put, nA, nB, nC, nD, nE, nF])
 (refine mT 21 ?_ rfl hcl hC hE ?_ ?_; rotate_left; (· (intro w hSw; (try dsimp only at hSw); go_simp; (try with_reducible rfl))); clear hcl; intro hcl; (try simp only [Act.put, nA, nB, nC, nD, nE, nF]))
 (refine mT 22 ?_ rfl hcl hC hE ?_ ?_; rotate_left; (· (intro w hSw; (try dsimp only at hSw); go_simp; (try with_reducible rfl))); clear hcl; intro hcl; (try simp only [Act.put, nA, nB, nC, nD, nE, nF]))
 refine jK (i := 12) rfl (by kernel_rfl) hcl (fun K hK => ?_)
 go_simp
 refine (cB.out _).mono ?_
 rintro e v1 ⟨rfl, hv1⟩
 have hC' := jP hC hn1 hv1
 have hE' := jD hE hv1
 refine hK.out _ _ hC' hE' ?_
 clear hK K
 clear hcl
 intro hcl
 (try simp only [Act.put, nA, nB, nC, nD, nE, nF])
 clear hC hE
 have hC := hC'
 have hE := hE'
 clear hC' hE'
 refine jK (i := 17) rfl (by kernel_rfl) hcl (fun K hK => ?_)
 go_simp
 refine (cV.out _).mono ?_
 rintro e v2 ⟨rfl, hv2⟩
 have hC' := jP hC hn1 hv2
 have hE' := jD hE hv2
 refine hK.out _ _ hC' hE' ?_
 clear hK K
 clear hcl
 intro hcl
 (try simp only [Act.put, nA, nB, nC, nD, nE, nF])
 clear hC hE
 have hC := hC'
 have hE := hE'
 clear hC' hE'
 refine jK (i := 20) rfl (by kernel_rfl) hcl (fun K hK => ?_)
 go_simp
 refine (cT.out _ (hGr.out _ hC.1)).mono ?_
 rintro e v3 ⟨A1, c1, rfl, o1, hv3⟩
 have hcs := hC.1.size
 replace o1 := o1.base (show w.heap.size + 2 ≤ _ by omega)
 clear hcs
 have hC' := jP hC hn1 hv3
 have hE' := jD hE hv3
 refine hK.out _ _ hC' hE' ?_
 clear hK K
 clear hcl
 intro hcl
 (try simp only [Act.put, nA, nB, nC, nD, nE, nF])
 clear hC hE
 have hC := hC'
 have hE := hE'
 clear hC' hE'
 refine jK (i := 23) rfl (by kernel_rfl) hcl (fun K hK => ?_)
 go_simp
 refine (cA.out _).mono ?_
 rintro e v4 ⟨rfl, hv4⟩
 replace o1 := o1.below hv4
 have hC' := jP hC hn1 hv4
 have hE' := jD hE hv4
 refine hK.out _ _ hC' hE' ?_
 clear hK K
 clear hcl
 intro hcl
 (try simp only [Act.put, nA, nB, nC, nD, nE, nF])
 clear hC hE
 have hC := hC'
 have hE := hE'
 clear hC' hE'
 obtain ⟨d, hd⟩ : ∃ d : Cm, d = ⟨m.c.kd, m.c.x, m.c.v, m.c.t, A1, m.c.k, c1, m.c.ps, m.c.sn, m.c.wh, m.c.B, m.c.m, m.c.mc, m.c.ms, m.c.u⟩ := ⟨_, rfl⟩
 obtain ⟨n, hn⟩ : ∃ n : Mm, n = ⟨m.kd, m.fr, m.dst, m.ep, m.i, m.b, m.st, m.vv, d, m.an, m.av⟩ := ⟨_, rfl⟩
 have hnv : n.val = m.val := by rw [hn, hd]; rfl
 have hnc : n.c = d := by rw [hn]
 have hag : (#[.int .i64 m.kd, .int .i64 m.fr, .int .i64 m.dst, .int .u32 m.ep, .int .i64 m.i.1, .int .u32 m.i.2, .int .u32 m.b.1, .int .i64 m.b.2, .int .i64 m.st, .int .u32 m.vv.1, .int .i64 m.vv.2, .int .i64 m.c.kd, .int .i64 m.c.x.1, .int .u32 m.c.x.2, .int .u32 m.c.v.d0, .int .u32 m.c.v.d1, .int .u32 m.c.v.d2, .int .u32 m.c.v.d3, .int .u32 m.c.v.d4, .int .u32 m.c.v.d5, .int .u32 m.c.v.d6, .int .u32 m.c.v.d7, .bool m.c.t, .slice A1 m.c.k c1, .int .i64 m.c.sn, .int .i64 m.c.wh, .slice m.c.B m.c.m m.c.mc, .int .u32 m.c.u.d0, .int .u32 m.c.u.d1, .int .u32 m.c.u.d2, .int .u32 m.c.u.d3, .int .u32 m.c.u.d4, .int .u32 m.c.u.d5, .int .u32 m.c.u.d6, .int .u32 m.c.u.d7, .int .u32 m.an, .int .u32 m.av.d0, .int .u32 m.av.d1, .int .u32 m.av.d2, .int .u32 m.av.d3, .int .u32 m.av.d4, .int .u32 m.av.d5, .int .u32 m.av.d6, .int .u32 m.av.d7] : Array Value) = ↑n := by rw [hn, hd]
 refine wpM_take (i := 24) (v := .agg #[.int .i64 m.kd, .int .i64 m.fr, .int .i64 m.dst, .int .u32 m.ep, .int .i64 m.i.1, .int .u32 m.i.2, .int .u32 m.b.1, .int .i64 m.b.2, .int .i64 m.st, .int .u32 m.vv.1, .int .i64 m.vv.2, .int .i64 m.c.kd, .int .i64 m.c.x.1, .int .u32 m.c.x.2, .int .u32 m.c.v.d0, .int .u32 m.c.v.d1, .int .u32 m.c.v.d2, .int .u32 m.c.v.d3, .int .u32 m.c.v.d4, .int .u32 m.c.v.d5, .int .u32 m.c.v.d6, .int .u32 m.c.v.d7, .bool m.c.t, .slice A1 m.c.k c1, .int .i64 m.c.sn, .int .i64 m.c.wh, .slice m.c.B m.c.m m.c.mc, .int .u32 m.c.u.d0, .int .u32 m.c.u.d1, .int .u32 m.c.u.d2, .int .u32 m.c.u.d3, .int .u32 m.c.u.d4, .int .u32 m.c.u.d5, .int .u32 m.c.u.d6, .int .u32 m.c.u.d7, .int .u32 m.an, .int .u32 m.av.d0, .int .u32 m.av.d1, .int .u32 m.av.d2, .int .u32 m.av.d3, .int .u32 m.av.d4, .int .u32 m.av.d5, .int .u32 m.av.d6, .int .u32 m.av.d7]) rfl (by kernel_rfl) (by kernel_rfl) (by kernel_rfl) (by decide) (fun _ _ _ h => h) hcl hC (fun _ => hE) (yields_build (by kernel_rfl) _ _ rfl (by kernel_rfl)) ?_
 clear hcl
 intro hcl
 (try simp only [Act.put, nA, nB, nC, nD, nE, nF])
 rw [hag]
 refine wpM_last (i := 25) rfl (by kernel_rfl) hcl (by kernel_rfl) (fun K hK => ?_)
 rw [if_pos (by kernel_rfl)]
 refine wp_store_mid _ _ _ rfl (w.heap.size + 1) 0 ↑n rfl rfl (there_all hE _ (by simp)) (by kernel_rfl) (by simp [Value.oneCell']) ?_
 have hR := jH (blk_all hE ↑n (by simp))
 have hBl := jH (hGr.out _ (jV (Nat.le_refl _) (n : Array Value).toList 0 _ hC.1))
 have hok := jH (Ow.setCells (by omega) (n : Array Value).toList 0 o1 (b := w.heap.size + 1))
 have hKN := kq (jV (Nat.le_refl _) (n : Array Value).toList 0 _ hC.1)
 generalize hwy : World.setCells v4 (w.heap.size + 1) 0 (n : Array Value).toList = wy at hR hBl hok hKN ⊢
 clear hwy
 refine hK.out _ _ hKN ?_
 clear hK K hcl hKN
 intro hcl
 refine wpM_done (by kernel_rfl) ?_
 have hcok : n.c.Ok wy wy.heap.size := by
  have h1 := (hAr.out wy hBl.out).more hBl.out.size
  rw [hnc, hd]
  exact ⟨⟨hok.out.rd.1, h1.rdE.2⟩, h1.rdM, h1.lk, h1.lm, h1.pl⟩
 clear hcl hC hE p0 p1 p2 p3 p4 p5 p6 p7 p8 p9 p10 p35 p36 p37 p38 p39 p40 p41 p42 p43 hag hn hd
 (try simp only [Act.put, List.getElem_toArray, List.getElem_cons_zero, List.getElem_cons_succ])
 go_wp2_with fail
 exact bodyPost_ret (v := .agg ↑n) (results_cellQ 2 38 (by kernel_rfl) (w.heap.size + 1) rfl (run_loadVar_row _ _ _ _ _ _ _ hR.out Tryz.underlying38 rfl (by kernel_rfl))) rfl
  ⟨n, rfl, hnv, hcok, hBl.out⟩
end Go.Proofs.YtfhandglpjnonaaGreatDoor
