/- inst.readCmd: the next command of a reader. -/
import Derived.Test.YtfhandglpjnonaaGreatDoorN37
import Derived.Test.YtfhandglpjnonaaGreatDoorJe
namespace Go.Proofs.YtfhandglpjnonaaGreatDoor
open Go.RowKit
theorem jZ (g : Nat) : ∀ (us : List Value) (i : Nat) (w : World), w.setCells g i us = setsW w g i us
 | [], _, _ => rfl
 | _ :: r, i, _ => jZ g r (i + 1) _
section
variable {t : TypeId} {w : World} {B g : Nat} {S : Rs} {z : Array Value}
theorem AtP.setCells (h1 : t ≠ 129) (h2 : t ≠ 176) : ∀ (l : List Value) (o : Nat) {wx : World} {cs : Array Value}, AtP t w wx B g S z cs → AtP t w (wx.setCells g o l) B g S z (putL cs o l)
 | [], _, _, _, h => h
 | v :: r, o, _, _, h => AtP.setCells h1 h2 r (o + 1) (h.set h1 h2 o v)
end
theorem putL_mid {cs ns : Array Value} {l : List Value} {o : Nat} (hl : o + l.length ≤ cs.size) (he : cs.toList.take o ++ (l ++ cs.toList.drop (o + l.length)) = ns.toList) : putL cs o l = ns := by
 have h := putL_list l o cs.toList (by simpa using hl)
 rw [show cs.toList.toArray = cs from by simp] at h
 rw [h, he]
theorem there_mid {b : Nat} {t : TypeId} {w : World} {cs : Array Value} (h : w.heap[b]? = some (.cells cs t (0, 0))) (o n : Nat) (hn : o + n ≤ cs.size) : w.there b o n := fun j hj => by
 refine ⟨?_, jE h _⟩
 rw [jA h, Array.getElem?_eq_getElem (by omega)]; rfl
structure Cm.OwT (t : TypeId) (w : World) (base : Nat) (c : Cm) : Prop where
 e : OwE t w base c.T c.k c.kc c.ps
 i : Ow w base 3 1 (.slice c.B c.m c.mc) (c.ms.map eZ)
def CmdRP (B : Nat) (S : Rs) (w : World) (r : Ending) (w' : World) : Prop := ∃ c : Cm, r = .returned (.agg ↑c) ∧ c.val = (readCv S).1 ∧ c.OwT 159 w' w.heap.size ∧ RdrP w' B (readCv S).2 ∧ w.grownBy w' (some B)
set_option maxRecDepth 100000 in
set_option maxHeartbeats 16000000 in
theorem prcmd_any (B : Nat) (S : Rs) (w : World) (h : RdrP w B S) (hS : S.wf) (hVM : VarM w) :
 Calls Tryz.prog 63 #[.pointer (some ⟨B, 0, none⟩)] w fun r w' => CmdRP B S w r w' := by
 have hBlt := h.lt
 have hb0 : Below w.heap.size w (w.alloc (.cells ↑Zc.mk 47)) := (Below.refl _ w).alloc (Nat.le_refl _) _
 have hr0 : (w.alloc (.cells ↑Zc.mk 47)).heap[w.heap.size]? = some (.cells ↑Zc.mk 47 (0, 0)) := jT _ _ rfl
 have hR0 := h.below hb0
 generalize hW : w.alloc (.cells ↑Zc.mk 47) = W at hb0 hr0 hR0
 have hw1 := intS_wf 3 hS
 have hk3 := yA 3 S
 have c1 := jH (pint_any 3 B (by omega) S W hR0 hS)
 have hvg := jH (fun w' (hg : w.grownBy w' (some B)) => hVM.grown hg (hVM.neP h))
 obtain ⟨cv, T, hT⟩ : ∃ cv T, readCv S = (cv, T) := ⟨_, _, rfl⟩
 unfold CmdRP
 rw [hT]
 unfold readCv at hT
 dsimp only at hT
 generalize intS 3 S = p at *
 obtain ⟨k, S1⟩ := p
 dsimp only at *
 have hTH := jH hT
 have hw1H := jH hw1
 clear hT hw1 hS h hVM
 go_enter Tryz.func63, Tryz.ntmps63
 go_upto_region 1 with (fail)
 clear hW
 refine wp_region_list ?_
 refine wpList_step (fun K hK => ?_)
 rw [if_pos (by kernel_rfl)]
 go_simp
 refine hK _ _ ?_
 clear hK K
 refine wpList_step (fun K hK => ?_)
 rw [if_pos (by kernel_rfl)]
 go_simp
 refine c1.out.mono ?_
 rintro e w1 ⟨rfl, hR1, hg1⟩
 refine hK _ _ ?_
 clear hK K
 refine wpList_buildK rfl _ _ rfl (cells := #[.int .i64 (k : Int), .int .i64 0, .int .u32 0, .int .u32 0, .int .u32 0, .int .u32 0, .int .u32 0, .int .u32 0, .int .u32 0, .int .u32 0, .int .u32 0, .bool false, .slice none 0 0, .int .i64 0, .int .i64 0, .slice none 0 0, .int .u32 0, .int .u32 0, .int .u32 0, .int .u32 0, .int .u32 0, .int .u32 0, .int .u32 0, .int .u32 0]) (by kernel_rfl) ?_
 refine wpList_plain rfl (fun K hK => ?_)
 go_simp
 refine hK _ _ ?_
 clear hK K
 refine wpList_store_row rfl _ _ _ rfl (w1.heap.size) #[.int .i64 (k : Int), .int .i64 0, .int .u32 0, .int .u32 0, .int .u32 0, .int .u32 0, .int .u32 0, .int .u32 0, .int .u32 0, .int .u32 0, .int .u32 0, .bool false, .slice none 0 0, .int .i64 0, .int .i64 0, .slice none 0 0, .int .u32 0, .int .u32 0, .int .u32 0, .int .u32 0, .int .u32 0, .int .u32 0, .int .u32 0, .int .u32 0] rfl rfl 47 ↑Zc.mk (jT _ _ rfl) (by kernel_rfl) rfl (by simp [Value.oneCell']) ?_
 have hsr := World.setRow_alloc_new w1 ↑Zc.mk #[.int .i64 (k : Int), .int .i64 0, .int .u32 0, .int .u32 0, .int .u32 0, .int .u32 0, .int .u32 0, .int .u32 0, .int .u32 0, .int .u32 0, .int .u32 0, .bool false, .slice none 0 0, .int .i64 0, .int .i64 0, .slice none 0 0, .int .u32 0, .int .u32 0, .int .u32 0, .int .u32 0, .int .u32 0, .int .u32 0, .int .u32 0, .int .u32 0] 47
 rw [hsr]
 clear hsr
 have hr1 : w1.heap[w.heap.size]? = some (.cells ↑Zc.mk 47 (0, 0)) := (hg1.block _ (jB hr0) (by simp; omega)).trans hr0
 have hlr1 := jB hr1
 have hbel : Below w1.heap.size w1 (w1.alloc (.cells #[.int .i64 (k : Int), .int .i64 0, .int .u32 0, .int .u32 0, .int .u32 0, .int .u32 0, .int .u32 0, .int .u32 0, .int .u32 0, .int .u32 0, .int .u32 0, .bool false, .slice none 0 0, .int .i64 0, .int .i64 0, .slice none 0 0, .int .u32 0, .int .u32 0, .int .u32 0, .int .u32 0, .int .u32 0, .int .u32 0, .int .u32 0, .int .u32 0] 47)) := (Below.refl _ w1).alloc (Nat.le_refl _) _
 have hat : AtP 47 w (w1.alloc (.cells #[.int .i64 (k : Int), .int .i64 0, .int .u32 0, .int .u32 0, .int .u32 0, .int .u32 0, .int .u32 0, .int .u32 0, .int .u32 0, .int .u32 0, .int .u32 0, .bool false, .slice none 0 0, .int .i64 0, .int .i64 0, .slice none 0 0, .int .u32 0, .int .u32 0, .int .u32 0, .int .u32 0, .int .u32 0, .int .u32 0, .int .u32 0, .int .u32 0] 47)) B w1.heap.size S1 ↑Zc.mk #[.int .i64 (k : Int), .int .i64 0, .int .u32 0, .int .u32 0, .int .u32 0, .int .u32 0, .int .u32 0, .int .u32 0, .int .u32 0, .int .u32 0, .int .u32 0, .bool false, .slice none 0 0, .int .i64 0, .int .i64 0, .slice none 0 0, .int .u32 0, .int .u32 0, .int .u32 0, .int .u32 0, .int .u32 0, .int .u32 0, .int .u32 0, .int .u32 0] :=
  ⟨jD hr1 hbel, jT _ _ rfl, hR1.below hbel, ((yD hb0 _).trans hg1).trans (yD hbel _), hlr1, hBlt⟩
 generalize (w1.alloc (.cells #[.int .i64 (k : Int), .int .i64 0, .int .u32 0, .int .u32 0, .int .u32 0, .int .u32 0, .int .u32 0, .int .u32 0, .int .u32 0, .int .u32 0, .int .u32 0, .bool false, .slice none 0 0, .int .i64 0, .int .i64 0, .slice none 0 0, .int .u32 0, .int .u32 0, .int .u32 0, .int .u32 0, .int .u32 0, .int .u32 0, .int .u32 0, .int .u32 0] 47)) = y0 at hat ⊢
 generalize w1.heap.size = g at hat ⊢
 (try simp only [Act.put])
 clear hr1 hlr1 hbel hg1 hR1 hr0 hb0 hR0 c1
 have t0 := jA hat.tb 0
 simp at t0
 have hlg := jB hat.tb
 have hfg := jE hat.tb
 have hatH := jH hat
 clear hat
 have hTT := hTH.out
 have hk : k = 0 ∨ k = 1 ∨ k = 2 ∨ k = 3 := by omega
 rcases hk with rfl | rfl | rfl | rfl
 ·
  rw [if_neg (by decide), if_neg (by decide), if_neg (by decide)] at hTT
  obtain ⟨rfl, rfl⟩ := Prod.mk.inj hTT
  obtain ⟨c, hc⟩ : ∃ c : Cm, c = ⟨((0 : Nat) : Int), (0, 0), zeroQ, false, none, 0, 0, [], 0, 0, none, 0, 0, [], zeroQ⟩ := ⟨_, rfl⟩
  have hval : c.val = zeroCv := by rw [hc]; rfl
  have hatE : Hid (AtP 47 w y0 B g S1 ↑Zc.mk ↑c) := jH (by rw [hc]; exact hatH.out)
  have hOE : Hid (OwE 159 y0 (g + 1) c.T c.k c.kc c.ps) := jH (by rw [hc]; exact OwE.nil_)
  have hOI : Hid (Ow y0 (g + 1) 3 1 (.slice c.B c.m c.mc) (c.ms.map eZ)) := jH (by rw [hc]; exact Ow.nil_ _ _ _ _)
  clear hTT hTH hc hvg hw1H hk3
  go_upto_region 15 with (fail)
  refine wp_region_list ?_
  refine wpList_load_row rfl _ _ rfl (g) rfl 47 _ (0, 0) _ hatE.out.tb Tryz.underlying47 rfl (by kernel_rfl) ?_
  refine wpList_store_mid rfl _ _ _ rfl (w.heap.size) 0 ↑c rfl rfl (there_all hatE.out.rb _ (by simp)) (by kernel_rfl) (by simp [Value.oneCell']) ?_
  have hRb := jH (blk_all hatE.out.rb ↑c (by simp))
  have hrd : Hid (RdrP (World.setCells y0 w.heap.size 0 (c : Array Value).toList) B S1) := jH (by rw [jZ]; exact setsW_P (t := 47) (by decide) (by decide) _ 0 hatE.out.rb hatE.out.rd)
  have hgr : Hid (w.grownBy (World.setCells y0 w.heap.size 0 (c : Array Value).toList) (some B)) := jH (by rw [jZ]; exact setsW_gr (Nat.le_refl _) _ 0 hatE.out.gr)
  have hlt9 := hatE.out.lt
  have hEE := jH (OwE.setCells (b := w.heap.size) (by omega) (c : Array Value).toList 0 hOE.out)
  have hII := jH (Ow.setCells (b := w.heap.size) (by omega) (c : Array Value).toList 0 hOI.out)
  generalize World.setCells y0 w.heap.size 0 (c : Array Value).toList = wz at hRb hrd hgr hEE hII ⊢
  (try simp only [Act.put, List.setIfInBounds_toArray, List.set_cons_zero, List.set_cons_succ])
  go_wp2_with fail
  exact bodyPost_ret (v := .agg ↑c) (results_cellQ 2 47 (by kernel_rfl) (w.heap.size) rfl (run_loadVar_row _ _ _ _ _ _ _ hRb.out Tryz.underlying47 rfl (by kernel_rfl))) rfl
   ⟨c, rfl, hval, ⟨hEE.out.base (by omega), hII.out.base (by omega)⟩, hrd.out, hgr.out⟩
 ·
  rw [if_pos rfl] at hTT
  unfold rdDo at hTT
  dsimp only at hTT
  have cx := jH (fun w' h (hg : w.grownBy w' (some B)) => xread_any B S1 w' h hw1H.out (hvg.out w' hg))
  have hx2 := readX_wfI hw1H.out
  generalize readX S1 = p at *
  obtain ⟨⟨x, v, th, ps0⟩, S2⟩ := p
  dsimp only at *
  have cs := jH (fun w' h => pint_any 1048576 B (by omega) S2 w' h hx2.1)
  generalize intS 1048576 S2 = p at *
  obtain ⟨s, S3⟩ := p
  dsimp only at *
  obtain ⟨rfl, rfl⟩ := Prod.mk.inj hTT
  clear hTT hTH hw1H hk3 hx2
  go_upto_region 4 with (fail)
  refine wp_region_list ?_
  refine wpList_step (fun K hK => ?_)
  rw [if_pos (by kernel_rfl)]
  go_simp
  refine hK _ _ ?_
  clear hK K
  refine wpList_step (fun K hK => ?_)
  rw [if_pos (by kernel_rfl)]
  go_simp
  refine (cx.out _ hatH.out.rd hatH.out.gr).mono ?_
  rintro e y1 ⟨A1, n1, k1, qs, rfl, o1, hq1, hR1, hg1⟩
  have hz1 := hg1.size
  refine hK _ _ ?_
  clear hK K t0 hlg hfg
  have hat1 := hatH.out.call hg1 hR1
  have hlg0 := jB hatH.out.tb
  have hlg := jB hat1.tb
  refine wpList_step (fun K hK => ?_)
  rw [if_pos (by kernel_rfl)]
  go_simp
  refine hK _ _ ?_
  clear hK K
  refine wpList_store_mid rfl _ _ _ rfl g 1 #[.int .i64 x.1, .int .u32 x.2, .int .u32 v.d0, .int .u32 v.d1, .int .u32 v.d2, .int .u32 v.d3, .int .u32 v.d4, .int .u32 v.d5, .int .u32 v.d6, .int .u32 v.d7, .bool th, .slice A1 n1 k1] rfl rfl (there_mid hat1.tb 1 12 (by decide)) (by kernel_rfl) (by simp [Value.oneCell']) ?_
  have hat2 := AtP.setCells (by decide) (by decide) (#[.int .i64 x.1, .int .u32 x.2, .int .u32 v.d0, .int .u32 v.d1, .int .u32 v.d2, .int .u32 v.d3, .int .u32 v.d4, .int .u32 v.d5, .int .u32 v.d6, .int .u32 v.d7, .bool th, .slice A1 n1 k1] : Array Value).toList 1 hat1
  have o2 := OwE.setCells (b := g) (by omega) (#[.int .i64 x.1, .int .u32 x.2, .int .u32 v.d0, .int .u32 v.d1, .int .u32 v.d2, .int .u32 v.d3, .int .u32 v.d4, .int .u32 v.d5, .int .u32 v.d6, .int .u32 v.d7, .bool th, .slice A1 n1 k1] : Array Value).toList 1 (o1.base (show g + 1 ≤ y0.heap.size by omega))
  rw [putL_mid (ns := #[.int .i64 1, .int .i64 x.1, .int .u32 x.2, .int .u32 v.d0, .int .u32 v.d1, .int .u32 v.d2, .int .u32 v.d3, .int .u32 v.d4, .int .u32 v.d5, .int .u32 v.d6, .int .u32 v.d7, .bool th, .slice A1 n1 k1, .int .i64 0, .int .i64 0, .slice none 0 0, .int .u32 0, .int .u32 0, .int .u32 0, .int .u32 0, .int .u32 0, .int .u32 0, .int .u32 0, .int .u32 0]) (by simp) rfl] at hat2
  generalize World.setCells y1 g 1 (#[.int .i64 x.1, .int .u32 x.2, .int .u32 v.d0, .int .u32 v.d1, .int .u32 v.d2, .int .u32 v.d3, .int .u32 v.d4, .int .u32 v.d5, .int .u32 v.d6, .int .u32 v.d7, .bool th, .slice A1 n1 k1] : Array Value).toList = y2 at hat2 o2 ⊢
  (try simp only [Act.put])
  have hat2H := jH hat2
  have o2H := jH o2
  clear hat1 hg1 hR1 o1 hat2 o2 hlg hz1 hlg0 cx
  go_wp2_with fail
  refine (cs.out _ hat2H.out.rd).mono ?_
  rintro e y3 ⟨rfl, hR3, hg3⟩
  have hat3 := hat2H.out.call hg3 hR3
  have o3 := o2H.out.keptB hg3 (by have := hat2H.out.nB; have := hat2H.out.lt; omega)
  have t13 := jA hat3.tb 13
  simp at t13
  have hlg := jB hat3.tb
  have hfg := jE hat3.tb
  have hat4 := hat3.set (by decide) (by decide) 13 (.int .i64 (s : Int))
  simp only [List.setIfInBounds_toArray, List.set_cons_zero, List.set_cons_succ] at hat4
  obtain ⟨c, hc⟩ : ∃ c : Cm, c = ⟨1, x, v, th, A1, n1, k1, qs, (s : Int), 0, none, 0, 0, [], zeroQ⟩ := ⟨_, rfl⟩
  have hval : c.val = ⟨1, ⟨x, v, th, ps0⟩, (s : Int), 0, [], zeroQ⟩ := by rw [hc]; unfold Cm.val; dsimp only; rw [hq1]
  have hatE : Hid (AtP 47 w (y3.setCell ⟨g, 13, none⟩ (.int .i64 (s : Int))) B g S3 ↑Zc.mk ↑c) := jH (by rw [hc]; exact hat4)
  have hOE : Hid (OwE 159 (y3.setCell ⟨g, 13, none⟩ (.int .i64 (s : Int))) (g + 1) c.T c.k c.kc c.ps) := jH (by rw [hc]; exact OwE.setCells (b := g) (show g < g + 1 by omega) [.int .i64 (s : Int)] 13 o3)
  have hOI : Hid (Ow (y3.setCell ⟨g, 13, none⟩ (.int .i64 (s : Int))) (g + 1) 3 1 (.slice c.B c.m c.mc) (c.ms.map eZ)) := jH (by rw [hc]; exact Ow.nil_ _ _ _ _)
  clear hc hat3 hat4 o3 hg3 hR3 hvg hatH hat2H o2H
  go_upto_region 15 with (fail)
  refine wp_region_list ?_
  refine wpList_load_row rfl _ _ rfl (g) rfl 47 _ (0, 0) _ hatE.out.tb Tryz.underlying47 rfl (by kernel_rfl) ?_
  refine wpList_store_mid rfl _ _ _ rfl (w.heap.size) 0 ↑c rfl rfl (there_all hatE.out.rb _ (by simp)) (by kernel_rfl) (by simp [Value.oneCell']) ?_
  have hRb := jH (blk_all hatE.out.rb ↑c (by simp))
  have hrd : Hid (RdrP (World.setCells (y3.setCell ⟨g, 13, none⟩ (.int .i64 (s : Int))) w.heap.size 0 (c : Array Value).toList) B S3) := jH (by rw [jZ]; exact setsW_P (t := 47) (by decide) (by decide) _ 0 hatE.out.rb hatE.out.rd)
  have hgr : Hid (w.grownBy (World.setCells (y3.setCell ⟨g, 13, none⟩ (.int .i64 (s : Int))) w.heap.size 0 (c : Array Value).toList) (some B)) := jH (by rw [jZ]; exact setsW_gr (Nat.le_refl _) _ 0 hatE.out.gr)
  have hlt9 := hatE.out.lt
  have hEE := jH (OwE.setCells (b := w.heap.size) (by omega) (c : Array Value).toList 0 hOE.out)
  have hII := jH (Ow.setCells (b := w.heap.size) (by omega) (c : Array Value).toList 0 hOI.out)
  generalize World.setCells (y3.setCell ⟨g, 13, none⟩ (.int .i64 (s : Int))) w.heap.size 0 (c : Array Value).toList = wz at hRb hrd hgr hEE hII ⊢
  (try simp only [Act.put, List.setIfInBounds_toArray, List.set_cons_zero, List.set_cons_succ])
  go_wp2_with fail
  exact bodyPost_ret (v := .agg ↑c) (results_cellQ 2 47 (by kernel_rfl) (w.heap.size) rfl (run_loadVar_row _ _ _ _ _ _ _ hRb.out Tryz.underlying47 rfl (by kernel_rfl))) rfl
   ⟨c, rfl, hval, ⟨hEE.out.base (by omega), hII.out.base (by omega)⟩, hrd.out, hgr.out⟩
 ·
  rw [if_neg (by decide), if_pos rfl] at hTT
  unfold rdLead at hTT
  have cs := jH (fun w' h => pint_any 7 B (by omega) S1 w' h hw1H.out)
  generalize intS 7 S1 = p at *
  obtain ⟨s, S3⟩ := p
  dsimp only at *
  obtain ⟨rfl, rfl⟩ := Prod.mk.inj hTT
  clear hTT hTH hw1H hk3
  go_wp2_with fail
  refine (cs.out _ hatH.out.rd).mono ?_
  rintro e y3 ⟨rfl, hR3, hg3⟩
  have hat3 := hatH.out.call hg3 hR3
  clear t0 hlg hfg
  have t14 := jA hat3.tb 14
  simp at t14
  have hlg := jB hat3.tb
  have hfg := jE hat3.tb
  have hat4 := hat3.set (by decide) (by decide) 14 (.int .i64 (s : Int))
  simp only [List.setIfInBounds_toArray, List.set_cons_zero, List.set_cons_succ] at hat4
  obtain ⟨c, hc⟩ : ∃ c : Cm, c = ⟨2, (0, 0), zeroQ, false, none, 0, 0, [], 0, (s : Int), none, 0, 0, [], zeroQ⟩ := ⟨_, rfl⟩
  have hval : c.val = ⟨2, zeroT, 0, (s : Int), [], zeroQ⟩ := by rw [hc]; rfl
  have hatE : Hid (AtP 47 w (y3.setCell ⟨g, 14, none⟩ (.int .i64 (s : Int))) B g S3 ↑Zc.mk ↑c) := jH (by rw [hc]; exact hat4)
  have hOE : Hid (OwE 159 (y3.setCell ⟨g, 14, none⟩ (.int .i64 (s : Int))) (g + 1) c.T c.k c.kc c.ps) := jH (by rw [hc]; exact OwE.nil_)
  have hOI : Hid (Ow (y3.setCell ⟨g, 14, none⟩ (.int .i64 (s : Int))) (g + 1) 3 1 (.slice c.B c.m c.mc) (c.ms.map eZ)) := jH (by rw [hc]; exact Ow.nil_ _ _ _ _)
  clear hc hat3 hat4 hg3 hR3 hvg hatH
  go_upto_region 15 with (fail)
  refine wp_region_list ?_
  refine wpList_load_row rfl _ _ rfl (g) rfl 47 _ (0, 0) _ hatE.out.tb Tryz.underlying47 rfl (by kernel_rfl) ?_
  refine wpList_store_mid rfl _ _ _ rfl (w.heap.size) 0 ↑c rfl rfl (there_all hatE.out.rb _ (by simp)) (by kernel_rfl) (by simp [Value.oneCell']) ?_
  have hRb := jH (blk_all hatE.out.rb ↑c (by simp))
  have hrd : Hid (RdrP (World.setCells (y3.setCell ⟨g, 14, none⟩ (.int .i64 (s : Int))) w.heap.size 0 (c : Array Value).toList) B S3) := jH (by rw [jZ]; exact setsW_P (t := 47) (by decide) (by decide) _ 0 hatE.out.rb hatE.out.rd)
  have hgr : Hid (w.grownBy (World.setCells (y3.setCell ⟨g, 14, none⟩ (.int .i64 (s : Int))) w.heap.size 0 (c : Array Value).toList) (some B)) := jH (by rw [jZ]; exact setsW_gr (Nat.le_refl _) _ 0 hatE.out.gr)
  have hlt9 := hatE.out.lt
  have hEE := jH (OwE.setCells (b := w.heap.size) (by omega) (c : Array Value).toList 0 hOE.out)
  have hII := jH (Ow.setCells (b := w.heap.size) (by omega) (c : Array Value).toList 0 hOI.out)
  generalize World.setCells (y3.setCell ⟨g, 14, none⟩ (.int .i64 (s : Int))) w.heap.size 0 (c : Array Value).toList = wz at hRb hrd hgr hEE hII ⊢
  (try simp only [Act.put, List.setIfInBounds_toArray, List.set_cons_zero, List.set_cons_succ])
  go_wp2_with fail
  exact bodyPost_ret (v := .agg ↑c) (results_cellQ 2 47 (by kernel_rfl) (w.heap.size) rfl (run_loadVar_row _ _ _ _ _ _ _ hRb.out Tryz.underlying47 rfl (by kernel_rfl))) rfl
   ⟨c, rfl, hval, ⟨hEE.out.base (by omega), hII.out.base (by omega)⟩, hrd.out, hgr.out⟩
 ·
  rw [if_neg (by decide), if_neg (by decide), if_pos rfl] at hTT
  unfold rdSeal at hTT
  dsimp only at hTT
  have cn := jH (fun w' h => pint_any 5 B (by omega) S1 w' h hw1H.out)
  have hw2 := intS_wf 5 hw1H.out
  have hn5 := yA 5 S1
  generalize intS 5 S1 = p at *
  obtain ⟨n, S2⟩ := p
  dsimp only at *
  have hw2H := jH hw2
  have hTH2 := jH hTT
  clear hTT hTH hw1H hk3 hw2
  go_wp2_with fail
  refine (cn.out _ hatH.out.rd).mono ?_
  rintro e y1 ⟨rfl, hR1, hg1⟩
  have hat1 := hatH.out.call hg1 hR1
  have n0 : (0 : Int) ≤ (n : Int) := by omega
  have hlt0 := hatH.out.lt
  have hnB0 := hatH.out.nB
  clear t0 hlg hfg hg1 hR1 cn hatH
  go_wp2_with fail
  go_loopg [26] (n + 1) (fun gg i wr => ∃ (j : Nat) (A' : Option Addr) (c' : Nat), j ≤ n ∧ gg = n + 1 - j ∧ i = .int .i64 (j : Int) ∧ AtP 47 w wr B g (readZs j S2).2 ↑Zc.mk #[.int .i64 3, .int .i64 0, .int .u32 0, .int .u32 0, .int .u32 0, .int .u32 0, .int .u32 0, .int .u32 0, .int .u32 0, .int .u32 0, .int .u32 0, .bool false, .slice none 0 0, .int .i64 0, .int .i64 0, .slice A' j c', .int .u32 0, .int .u32 0, .int .u32 0, .int .u32 0, .int .u32 0, .int .u32 0, .int .u32 0, .int .u32 0] ∧ Ow wr (g + 1) 3 1 (.slice A' j c') ((readZs j S2).1.map eZ))
  case atStart => exact ⟨0, none, 0, Nat.zero_le _, rfl, rfl, hat1, Ow.nil_ _ _ _ _⟩
  case round =>
   clear hat1
   obtain ⟨j, A', c', hj, rfl, rfl, hat, hown⟩ := hrel
   have hlen := readZs_len S2 j
   by_cases hlt : j < n
   ·
    have hlti : (j : Int) < (n : Int) := by omega
    have hwk := readZs_wf hw2H.out j
    have ct := jH (fun w' h => pint_any 7 B (by omega) (readZs j S2).2 w' h hwk)
    have e1 : (readZs (j + 1) S2).1 = (readZs j S2).1 ++ [((intS 7 (readZs j S2).2).1 : Int)] := rfl
    have e2 : (readZs (j + 1) S2).2 = (intS 7 (readZs j S2).2).2 := rfl
    generalize hu : intS 7 (readZs j S2).2 = p at *
    obtain ⟨u, Sa⟩ := p
    dsimp only at *
    generalize (readZs j S2).1 = ls at *
    have e1H := jH e1
    have e2H := jH e2
    have hatH := jH hat
    have hownH := jH hown
    have hlenH := jH hlen
    have s0 := jA hat.tb 15
    simp at s0
    have hlg := jB hat.tb
    have hfg := jE hat.tb
    clear e1 e2 hwk hlen hat hown hu
    go_upto_region 11 with (fail)
    refine jW (fun _ => True) (fun w' => w'.cell? ⟨g, 15, none⟩ = some (.slice A' j c')) 7 (by kernel_rfl) trivial s0 ?_
    intro hcl
    have hC := trivial
    have hE : World.cell? (World.drew _) ⟨g, 15, none⟩ = some (.slice A' j c') := s0
    (refine mT 0 ?_ rfl hcl hC hE ?_ ?_; rotate_left; (· (intro w hSw; (try dsimp only at hSw); go_simp; (try with_reducible rfl))); clear hcl; intro hcl; (try simp only [Act.put, List.getElem_toArray, List.getElem_cons_zero, List.setIfInBounds_toArray, List.set_cons_zero, List.set_cons_succ]))
    (refine wpM_take0c (i := 1) (j := 5) (v := ?_) rfl rfl rfl (by kernel_rfl) (by kernel_rfl) (by kernel_rfl) (by kernel_rfl) (by kernel_rfl) (by decide) (fun _ _ _ h => h) hcl hC (fun _ => hE) (Or.inl ⟨by rfl, ?_⟩) ?_; rotate_left; (· (intro w hSw; (try dsimp only at hSw); go_simp; (try with_reducible rfl))); clear hcl; intro hcl; (try simp only [Act.put, nA, nB, nC, nD, nE, nF]))
    (refine mT 2 ?_ rfl hcl hC hE ?_ ?_; rotate_left; (· (intro w hSw; (try dsimp only at hSw); go_simp; (try with_reducible rfl))); clear hcl; intro hcl; (try simp only [Act.put, nA, nB, nC, nD, nE, nF]))
    refine jK (i := 3) rfl (by kernel_rfl) hcl (fun K hK => ?_)
    go_simp
    refine (ct.out _ (hatH.out.rd.below (Below.refl _ _).drew)).mono ?_
    rintro e'' v1 ⟨rfl, hRv, hgv⟩
    have hatv := (hatH.out.below (Below.refl _ _).drew).call hgv hRv
    have hov := (hownH.out.below (Below.refl _ _).drew).keptB hgv (by omega)
    have hE1 := jA hatv.tb 15
    clear hgv hRv
    refine hK.out _ _ trivial hE1 ?_
    clear hK K
    clear hcl
    intro hcl
    (try simp only [Act.put, nA, nB, nC, nD, nE, nF])
    clear hE
    have hE := hE1
    refine jK (i := 4) rfl (by kernel_rfl) hcl (fun K hK => ?_)
    go_simp
    have hvn : Below v1.heap.size v1 (v1.alloc (.cells #[.int .i64 (u : Int)] 3)) := (Below.refl _ v1).alloc (Nat.le_refl _) _
    have hatn := hatv.below hvn
    have hE2 := jA hatn.tb 15
    refine hK.out _ _ trivial hE2 ?_
    clear hK K
    clear hcl
    intro hcl
    (try simp only [Act.put, nA, nB, nC, nD, nE, nF])
    have hlt1 := jB hatv.tb
    refine jK (i := 5) rfl (by kernel_rfl) hcl (fun K hK => ?_)
    refine step_append_rd _ rfl _ _ _ rfl eIntQ (base := g + 1) (v := .slice A' j c') (xs := ls.map eZ) rfl (hov.below hvn) rfl (Rd.one' [.int .i64 (u : Int)] rfl) (by simp) (by simp [Value.oneCell']) (by rw [List.length_map, hlenH.out]; unfold maxLen; omega) (by rw [List.length_map, hlenH.out]; omega) (by simp; omega) ?_
    intro A5 n5 c5 v5 hn5' hown5 hg5 hat5
    obtain rfl : n5 = j + 1 := by rw [hn5', List.length_map, hlenH.out]
    clear hn5'
    have hbk := jH (hov.block)
    have ht5 := (hg5.block _ (jB hatn.tb) (fun e => by have := (hbk.out _ e.symm).1; omega)).trans hatn.tb
    have hr5 := (hg5.block _ (jB hatn.rb) (fun e => by have := (hbk.out _ e.symm).1; have := hatn.lt; omega)).trans hatn.rb
    have hR5 := hatn.rd.appended (hov.below hvn) hg5 (by decide) (by decide)
    have hgw5 := gr_then hatn.gr hg5 (fun g e => by have := (hbk.out g e).1; have := hatn.lt; omega)
    have hatA : AtP 47 w v5 B g Sa ↑Zc.mk #[.int .i64 3, .int .i64 0, .int .u32 0, .int .u32 0, .int .u32 0, .int .u32 0, .int .u32 0, .int .u32 0, .int .u32 0, .int .u32 0, .int .u32 0, .bool false, .slice none 0 0, .int .i64 0, .int .i64 0, .slice A' j c', .int .u32 0, .int .u32 0, .int .u32 0, .int .u32 0, .int .u32 0, .int .u32 0, .int .u32 0, .int .u32 0] := ⟨hr5, ht5, hR5, hgw5, hatn.lt, hatn.nB⟩
    have of5 := jE ht5
    have hE5 := jA ht5 15
    have hl5 := jB ht5
    have hat6 := hatA.set (by decide) (by decide) 15 (.slice A5 (j + 1) c5)
    simp only [List.setIfInBounds_toArray, List.set_cons_zero, List.set_cons_succ] at hat6
    have ho6 : Hid (Ow (v5.setCell ⟨g, 15, none⟩ (.slice A5 (j + 1) c5)) (g + 1) 3 1 (.slice A5 (j + 1) c5) ((ls ++ [(u : Int)]).map eZ)) := jH (by rw [List.map_append]; exact hown5.setCell (a := ⟨g, 15, none⟩) (by show g < g + 1; omega) _)
    have hat6 := jH hat6
    clear hr5 hown5 hg5 hR5 hgw5 hov hvn hatn hatv hE1 hE2 hE hat5 hatA
    refine hK.out _ _ trivial hE5 ?_
    clear hK K
    clear hcl
    intro hcl
    (try simp only [Act.put, nA, nB, nC, nD, nE, nF])
    have hE := hE5
    (refine mT 6 ?_ rfl hcl hC hE ?_ ?_; rotate_left; (· (intro w hSw; (try dsimp only at hSw); go_simp; (try with_reducible rfl))); clear hcl; intro hcl; (try simp only [Act.put, nA, nB, nC, nD, nE, nF]))
    clear ht5
    refine wpM_last (i := 7) rfl (by kernel_rfl) hcl (by kernel_rfl) (fun K hK => ?_)
    go_simp
    refine hK.out _ _ trivial ?_
    clear hK K hcl
    intro hcl
    refine wpM_done (by kernel_rfl) ?_
    clear hcl hC hE hE5 s0
    try simp only [Act.put, nA, nB, nC, nD, nE, nF]
    go_wp2
    go_roundg (n + 1 - (j + 1))
    case measure => omega
    case rel => exact ⟨j + 1, A5, c5, by omega, rfl, by go_num, by rw [e2H.out]; exact hat6.out, by rw [e1H.out]; exact ho6.out⟩
   ·
    obtain rfl : j = n := by omega
    have hnli : ¬ (j : Int) < (j : Int) := by omega
    have hwk := readZs_wf hw2H.out j
    have hTT := hTH2.out
    generalize readZs j S2 = p at *
    obtain ⟨ls, S3⟩ := p
    dsimp only at *
    have cv := jH (fun w' h => pvread_any B S3 w' h hwk)
    have hwv := (readV_wf hwk).1
    generalize readV S3 = p at *
    obtain ⟨v, S4⟩ := p
    dsimp only at *
    have cs := jH (fun w' h => pint_any 1048576 B (by omega) S4 w' h hwv)
    generalize intS 1048576 S4 = p at *
    obtain ⟨s, S5⟩ := p
    dsimp only at *
    obtain ⟨rfl, rfl⟩ := Prod.mk.inj hTT
    have hatH := jH hat
    have hownH := jH hown
    clear hTT hTH2 hw2H hwk hwv hat hown hlen
    go_upto_region 13 with (fail)
    refine wp_region_list ?_
    refine wpList_step (fun K hK => ?_)
    rw [if_pos (by kernel_rfl)]
    go_simp
    refine hK _ _ ?_
    clear hK K
    refine wpList_step (fun K hK => ?_)
    rw [if_pos (by kernel_rfl)]
    go_simp
    refine (cv.out _ hatH.out.rd).mono ?_
    rintro e y1 ⟨rfl, hR1, hg1⟩
    refine hK _ _ ?_
    clear hK K
    have hat1 := hatH.out.call hg1 hR1
    have o1 := hownH.out.keptB hg1 (by omega)
    have hlg := jB hat1.tb
    refine wpList_step (fun K hK => ?_)
    rw [if_pos (by kernel_rfl)]
    go_simp
    refine hK _ _ ?_
    clear hK K
    refine wpList_store_mid rfl _ _ _ rfl g 16 ↑v rfl rfl (there_mid hat1.tb 16 8 (by simp)) (by kernel_rfl) (by simp [Value.oneCell']) ?_
    have hat2 := AtP.setCells (by decide) (by decide) (v : Array Value).toList 16 hat1
    have o2 := Ow.setCells (b := g) (show g < g + 1 by omega) (v : Array Value).toList 16 o1
    rw [putL_mid (ns := #[.int .i64 3, .int .i64 0, .int .u32 0, .int .u32 0, .int .u32 0, .int .u32 0, .int .u32 0, .int .u32 0, .int .u32 0, .int .u32 0, .int .u32 0, .bool false, .slice none 0 0, .int .i64 0, .int .i64 0, .slice A' j c', .int .u32 v.d0, .int .u32 v.d1, .int .u32 v.d2, .int .u32 v.d3, .int .u32 v.d4, .int .u32 v.d5, .int .u32 v.d6, .int .u32 v.d7]) (by simp) rfl] at hat2
    generalize World.setCells y1 g 16 (v : Array Value).toList = y2 at hat2 o2 ⊢
    (try simp only [Act.put])
    have hat2H := jH hat2
    have o2H := jH o2
    clear hat1 hg1 hR1 o1 hat2 o2 hlg cv
    go_wp2_with fail
    refine (cs.out _ hat2H.out.rd).mono ?_
    rintro e y3 ⟨rfl, hR3, hg3⟩
    have hat3 := hat2H.out.call hg3 hR3
    have o3 := o2H.out.keptB hg3 (by omega)
    have t13 := jA hat3.tb 13
    simp at t13
    have hlg := jB hat3.tb
    have hfg := jE hat3.tb
    have hat4 := hat3.set (by decide) (by decide) 13 (.int .i64 (s : Int))
    simp only [List.setIfInBounds_toArray, List.set_cons_zero, List.set_cons_succ] at hat4
    obtain ⟨c, hc⟩ : ∃ c : Cm, c = ⟨3, (0, 0), zeroQ, false, none, 0, 0, [], (s : Int), 0, A', j, c', ls, v⟩ := ⟨_, rfl⟩
    have hval : c.val = ⟨3, zeroT, (s : Int), 0, ls, v⟩ := by rw [hc]; rfl
    have hatE : Hid (AtP 47 w (y3.setCell ⟨g, 13, none⟩ (.int .i64 (s : Int))) B g S5 ↑Zc.mk ↑c) := jH (by rw [hc]; exact hat4)
    have hOE : Hid (OwE 159 (y3.setCell ⟨g, 13, none⟩ (.int .i64 (s : Int))) (g + 1) c.T c.k c.kc c.ps) := jH (by rw [hc]; exact OwE.nil_)
    have hOI : Hid (Ow (y3.setCell ⟨g, 13, none⟩ (.int .i64 (s : Int))) (g + 1) 3 1 (.slice c.B c.m c.mc) (c.ms.map eZ)) := jH (by rw [hc]; exact o3.setCell (a := ⟨g, 13, none⟩) (by show g < g + 1; omega) _)
    clear hc hat3 hat4 o3 hg3 hR3 hvg hatH hat2H o2H hownH
    go_upto_region 15 with (fail)
    refine wp_region_list ?_
    refine wpList_load_row rfl _ _ rfl (g) rfl 47 _ (0, 0) _ hatE.out.tb Tryz.underlying47 rfl (by kernel_rfl) ?_
    refine wpList_store_mid rfl _ _ _ rfl (w.heap.size) 0 ↑c rfl rfl (there_all hatE.out.rb _ (by simp)) (by kernel_rfl) (by simp [Value.oneCell']) ?_
    have hRb := jH (blk_all hatE.out.rb ↑c (by simp))
    have hrd : Hid (RdrP (World.setCells (y3.setCell ⟨g, 13, none⟩ (.int .i64 (s : Int))) w.heap.size 0 (c : Array Value).toList) B S5) := jH (by rw [jZ]; exact setsW_P (t := 47) (by decide) (by decide) _ 0 hatE.out.rb hatE.out.rd)
    have hgr : Hid (w.grownBy (World.setCells (y3.setCell ⟨g, 13, none⟩ (.int .i64 (s : Int))) w.heap.size 0 (c : Array Value).toList) (some B)) := jH (by rw [jZ]; exact setsW_gr (Nat.le_refl _) _ 0 hatE.out.gr)
    have hlt9 := hatE.out.lt
    have hEE := jH (OwE.setCells (b := w.heap.size) (by omega) (c : Array Value).toList 0 hOE.out)
    have hII := jH (Ow.setCells (b := w.heap.size) (by omega) (c : Array Value).toList 0 hOI.out)
    generalize World.setCells (y3.setCell ⟨g, 13, none⟩ (.int .i64 (s : Int))) w.heap.size 0 (c : Array Value).toList = wz at hRb hrd hgr hEE hII ⊢
    (try simp only [Act.put, List.setIfInBounds_toArray, List.set_cons_zero, List.set_cons_succ])
    go_wp2_with fail
    exact bodyPost_ret (v := .agg ↑c) (results_cellQ 2 47 (by kernel_rfl) (w.heap.size) rfl (run_loadVar_row _ _ _ _ _ _ _ hRb.out Tryz.underlying47 rfl (by kernel_rfl))) rfl
     ⟨c, rfl, hval, ⟨hEE.out.base (by omega), hII.out.base (by omega)⟩, hrd.out, hgr.out⟩
end Go.Proofs.YtfhandglpjnonaaGreatDoor
