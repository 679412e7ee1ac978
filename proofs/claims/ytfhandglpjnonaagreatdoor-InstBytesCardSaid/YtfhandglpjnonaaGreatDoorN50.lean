/- The statement InstBytes, walked. What an argument reads as, opened field by field: structs of structs, arrays, slices of structs. Arguments of the statements on names, opened: a list of names, a vector, a name. Arguments of the statements on cuts, opened. Arguments of the statements: a text. Arguments of the statements on sets of additions, opened. -/
import Derived.Test.YtfhandglpjnonaaGreatDoorN49
import Derived.ProofKit
import Derived.OpenShut
import Derived.Below
import Derived.ChangeSame
import Derived.Deep.Slices
import Derived.Test.YtfhandglpjnonaaGreatDoorN00
import Derived.Test.YtfhandglpjnonaaGreatDoorN04
import Derived.Test.YtfhandglpjnonaaGreatDoorN06
import Derived.Test.YtfhandglpjnonaaGreatDoorN01
import Derived.Test.YtfhandglpjnonaaGreatDoorRows
set_option maxRecDepth 100000
set_option maxHeartbeats 16000000
namespace Go.Proofs.YtfhandglpjnonaaGreatDoor
open Go.RowKit
theorem instbytes_any (m : Mm) (l : List UInt8) (w : World) (hm : m.c.Raw w) (hi : m.i.wf) (hav : m.av.wf) (hN : m.Nn) (hVM : VarM w) (hVO : VarOk w) :
 Calls Tryz.prog 4 #[.agg ↑m, .string (bs l)] w fun e w' => e = .returned (.bool true) ∧ Below w.heap.size w w' := by
 have g1 := jH (fun w' (h : Below w.heap.size w w') => great25_any m.c w' ((hm.ok.below h).more h.size))
 have hb0 : Below w.heap.size w (w.alloc (.cells ↑m 38)) := (Below.refl _ w).alloc (Nat.le_refl _) _
 have hbA : (w.alloc (.cells ↑m 38)).heap[w.heap.size]? = some (.cells ↑m 38 (0, 0)) := jT _ _ rfl
 generalize hW : w.alloc (.cells ↑m 38) = W at hb0 hbA
 have hz0 := hb0.size
 have hltA := jB hbA
 have hAt := jH (fun w' (h : Below W.heap.size W w') => jD hbA h)
 have hmid := jH (fun w' (h : Below W.heap.size W w') => rangeQ (jD hbA h) 11 ↑m.c rfl)
 have hVr := jH (fun w' (h : Below w.heap.size w w') => hVM.below h hVM.lt)
 have hOr := jH (fun w' (h : Below w.heap.size w w') => hVO.below h hVO.lt)
 have hWr := jH (fun w' (h : Below W.heap.size W w') => hb0.trans (h.mono hz0))
 clear hbA hVM hVO
 cases hg1 : grC m.c with
 | true =>
  rw [hg1] at g1
  clear hm hg1
  go_enter Tryz.func4, Tryz.ntmps4
  go_upto_region 1 with (fail)
  clear hW
  refine wp_region_list ?_
  refine wpList_step (fun K hK => ?_)
  rw [if_pos (by kernel_rfl)]
  go_simp
  refine hK _ _ ?_
  clear hK K
  refine wpList_load_midG (by kernel_rfl) _ _ rfl (w.heap.size) 11 rfl ↑m.c _ (hmid.out _ (Below.refl _ _)) Tryz.underlying34 rfl (by kernel_rfl) ?_
  (try simp only [Act.put, List.setIfInBounds_toArray, List.set_cons_zero, List.set_cons_succ])
  go_wp2_with fail
  refine (g1.out _ hb0).mono ?_
  rintro e w1 ⟨rfl, hb1⟩
  have hG := hb0.trans (hb1.mono hz0)
  go_wp2
  go_ret
  exact ⟨rfl, hG⟩
 | false =>
 rw [hg1] at g1
 by_cases hl2 : 3000 < l.length
 ·
  have hd : decide ((3000 : Int) < (((bs l).size : Nat) : Int)) = true := decide_eq_true (by rw [jG]; omega)
  clear hm hg1 hl2
  go_enter Tryz.func4, Tryz.ntmps4
  go_upto_region 1 with (fail)
  clear hW
  refine wp_region_list ?_
  refine wpList_step (fun K hK => ?_)
  rw [if_pos (by kernel_rfl)]
  go_simp
  refine hK _ _ ?_
  clear hK K
  refine wpList_load_midG (by kernel_rfl) _ _ rfl (w.heap.size) 11 rfl ↑m.c _ (hmid.out _ (Below.refl _ _)) Tryz.underlying34 rfl (by kernel_rfl) ?_
  (try simp only [Act.put, List.setIfInBounds_toArray, List.set_cons_zero, List.set_cons_succ])
  go_wp2_with fail
  refine (g1.out _ hb0).mono ?_
  rintro e w1 ⟨rfl, hb1⟩
  have hG := hb0.trans (hb1.mono hz0)
  go_wp2
  go_ret
  exact ⟨rfl, hG⟩
 have hd : decide ((3000 : Int) < (((bs l).size : Nat) : Int)) = false := decide_eq_false (by rw [jG]; omega)
 have hSm : Hid (∀ w', Below w.heap.size w w' → m.Sml w') := jH (fun w' h => ⟨(hm.sml hg1).below h, hi, hav⟩)
 have cTo := jH (fun w' (h : Below w.heap.size w w') => to25_any m w' (hSm.out w' h))
 have cCm := jH (fun w' (h : Below w.heap.size w w') => cmd25_any m.c w' (hSm.out w' h).c)
 obtain ⟨X, hX⟩ : ∃ x, bs (wMsg m) = x := ⟨_, rfl⟩
 obtain ⟨E, hE⟩ : ∃ x, msgErr m = x := ⟨_, rfl⟩
 obtain ⟨Y, hY⟩ : ∃ x, bs (wCmd m.c.val) = x := ⟨_, rfl⟩
 obtain ⟨F, hF⟩ : ∃ x, cmdErr m.c.val = x := ⟨_, rfl⟩
 have cW : Hid (∀ (n : Mm) w', n.Sml w' → n.val = m.val → Below w.heap.size w w' → Calls Tryz.prog 15 #[.agg ↑n] w' fun e w'' => e = .returned (.tuple #[.string X, .int .i64 E]) ∧ Below w'.heap.size w' w'') := jH (fun n w' hn hv h => by
  have h1 := mwrite_any n w' hn (hN.val hv) (hVr.out w' h)
  rw [wMsg_val hv, msgErr_val hv, hX, hE] at h1
  exact h1)
 have dW : Hid (∀ w', Below w.heap.size w w' → Calls Tryz.prog 16 #[.agg ↑m] w' fun e w'' => e = .returned (.tuple #[.string X, .int .i64 E]) ∧ Below w'.heap.size w' w'') := jH (fun w' h => by
  have h1 := rmwrite_any m w' (hSm.out w' h) hN
  rw [hX, hE] at h1
  exact h1)
 have cV : Hid (∀ (c : Cm) w', c.Sml w' → c.val = m.c.val → Below w.heap.size w w' → Calls Tryz.prog 17 #[.agg ↑c] w' fun e w'' => e = .returned (.tuple #[.string Y, .int .i64 F]) ∧ Below w'.heap.size w' w'') := jH (fun c w' hn hv h => by
  have h1 := wcmd_any c w' hn (hVr.out w' h)
  rw [hv, hY, hF] at h1
  exact h1)
 have dV : Hid (∀ w', Below w.heap.size w w' → Calls Tryz.prog 18 #[.agg ↑m.c] w' fun e w'' => e = .returned (.tuple #[.string Y, .int .i64 F]) ∧ Below w'.heap.size w' w'') := jH (fun w' h => by
  have h1 := rwcmd_any m.c w' (hSm.out w' h).c
  rw [hY, hF] at h1
  exact h1)
 have hSw : (⟨l, 0, 0, 0⟩ : Rs).wf := ⟨Nat.zero_le _, by show l.length ≤ _; omega, Int.le_refl _, by show (0 : Int) ≤ _; decide, fun _ => rfl⟩
 obtain ⟨hRw, hRd⟩ := readWM_wf hSw
 have cR := jH (fun w' (h : Below w.heap.size w w') => mread_any l (by omega) w' (hVr.out w' h))
 have dR := jH (fun w' => dmread_any l (by omega) w')
 unfold MsgRP at cR
 unfold MsgRD at dR
 generalize readWM ⟨l, 0, 0, 0⟩ = Z at hRw hRd cR dR
 obtain ⟨v, T⟩ := Z
 dsimp only at hRw hRd cR dR
 have hTH := jH hRw
 have hRdH := jH hRd
 have hSmQ := hSm
 clear hX hE hY hF hSw hRw hRd hm hg1 hl2 hi hav hN hSm
 go_enter Tryz.func4, Tryz.ntmps4
 go_upto_region 1 with (fail)
 clear hW
 refine wp_region_list ?_
 refine wpList_step (fun K hK => ?_)
 rw [if_pos (by kernel_rfl)]
 go_simp
 refine hK _ _ ?_
 clear hK K
 refine wpList_load_midG (by kernel_rfl) _ _ rfl (w.heap.size) 11 rfl ↑m.c _ (hmid.out _ (Below.refl _ _)) Tryz.underlying34 rfl (by kernel_rfl) ?_
 (try simp only [Act.put, List.setIfInBounds_toArray, List.set_cons_zero, List.set_cons_succ])
 go_wp2_with fail
 refine (g1.out _ hb0).mono ?_
 rintro e w1 ⟨rfl, hb1⟩
 go_upto_region 3 with (fail)
 clear g1 hd
 refine wp_region_list ?_
 refine wpList_loadG (by kernel_rfl) _ _ rfl (w.heap.size) rfl 38 ↑m (0, 0) _ (hAt.out _ hb1) Tryz.underlying38 rfl (by kernel_rfl) ?_
 (try simp only [Act.put, List.setIfInBounds_toArray, List.set_cons_zero, List.set_cons_succ])
 go_wp2_with fail
 refine (cTo.out _ (hWr.out _ hb1)).mono ?_
 rintro e w2 hP
 obtain ⟨n, rfl, hnv, hns, hb2⟩ := hP.sml (hSmQ.out _ (hWr.out _ hb1))
 replace hb2 := hb1.trans (hb2.mono hb1.size)
 replace hnv := jH hnv
 replace hns := jH hns
 clear hP hb1 cTo
 go_wp2_with fail
 refine (cW.out n _ hns.out hnv.out (hWr.out _ hb2)).mono ?_
 rintro e w3 ⟨rfl, hb3⟩
 replace hb3 := hb2.trans (hb3.mono hb2.size)
 clear hns hnv hb2 cW
 go_upto_region 4 with (fail)
 refine wp_region_list ?_
 refine wpList_loadG (by kernel_rfl) _ _ rfl (w.heap.size) rfl 38 ↑m (0, 0) _ (hAt.out _ hb3) Tryz.underlying38 rfl (by kernel_rfl) ?_
 (try simp only [Act.put, List.setIfInBounds_toArray, List.set_cons_zero, List.set_cons_succ])
 go_wp2_with fail
 refine (dW.out _ (hWr.out _ hb3)).mono ?_
 rintro e w4 ⟨rfl, hb4⟩
 replace hb4 := hb3.trans (hb4.mono hb3.size)
 clear hb3 dW
 go_upto_region 5 with (fail)
 refine wp_region_list ?_
 refine wpList_step (fun K hK => ?_)
 rw [if_pos (by kernel_rfl)]
 go_simp
 refine hK _ _ ?_
 clear hK K
 refine wpList_load_midG (by kernel_rfl) _ _ rfl (w.heap.size) 11 rfl ↑m.c _ (hmid.out _ hb4) Tryz.underlying34 rfl (by kernel_rfl) ?_
 (try simp only [Act.put, List.setIfInBounds_toArray, List.set_cons_zero, List.set_cons_succ])
 go_wp2_with fail
 refine (cCm.out _ (hWr.out _ hb4)).mono ?_
 rintro e w5 hP
 obtain ⟨c, rfl, hcv, hcs, hb5⟩ := hP.sml (hSmQ.out _ (hWr.out _ hb4)).c.v
 replace hb5 := hb4.trans (hb5.mono hb4.size)
 replace hcv := jH hcv
 replace hcs := jH hcs
 clear hP hb4 cCm
 go_wp2_with fail
 refine (cV.out c _ hcs.out hcv.out (hWr.out _ hb5)).mono ?_
 rintro e w6 ⟨rfl, hb6⟩
 replace hb6 := hb5.trans (hb6.mono hb5.size)
 clear hcs hcv hb5 cV
 go_upto_region 6 with (fail)
 refine wp_region_list ?_
 refine wpList_step (fun K hK => ?_)
 rw [if_pos (by kernel_rfl)]
 go_simp
 refine hK _ _ ?_
 clear hK K
 refine wpList_load_midG (by kernel_rfl) _ _ rfl (w.heap.size) 11 rfl ↑m.c _ (hmid.out _ hb6) Tryz.underlying34 rfl (by kernel_rfl) ?_
 (try simp only [Act.put, List.setIfInBounds_toArray, List.set_cons_zero, List.set_cons_succ])
 go_wp2_with fail
 refine (dV.out _ (hWr.out _ hb6)).mono ?_
 rintro e w7 ⟨rfl, hb7⟩
 replace hb7 := hb6.trans (hb7.mono hb6.size)
 clear hb6 dV hmid hAt hSmQ
 go_upto_region 9 with (fail)
 refine wp_region_list ?_
 refine wpList_step (fun K hK => ?_)
 rw [if_pos (by kernel_rfl)]
 go_simp
 refine hK _ _ ?_
 clear hK K
 refine wpList_step (fun K hK => ?_)
 rw [if_pos (by kernel_rfl)]
 go_simp
 refine (cR.out _ (hWr.out _ hb7)).mono ?_
 rintro e w8 ⟨n1, ev, rfl, hv1, he1, ho1, hb8⟩
 refine hK _ _ ?_
 clear hK K
 replace hb8 := hb7.trans (hb8.mono hb7.size)
 have hk1 := (Mm.sml_of ho1 hv1 hRdH.out).2
 have hok1 := ho1.ok
 replace hv1 := jH hv1
 clear hb7 cR ho1
 refine wpList_step (fun K hK => ?_)
 rw [if_pos (by kernel_rfl)]
 go_simp
 refine hK _ _ ?_
 clear hK K
 refine wpList_step (fun K hK => ?_)
 rw [if_pos (by kernel_rfl)]
 go_simp
 refine hK _ _ ?_
 clear hK K
 refine wpList_step (fun K hK => ?_)
 rw [if_pos (by kernel_rfl)]
 go_simp
 refine hK _ _ ?_
 clear hK K
 refine wpList_step (fun K hK => ?_)
 rw [if_pos (by kernel_rfl)]
 go_simp
 refine hK _ _ ?_
 clear hK K
 refine wpList_store_row rfl _ _ _ rfl (w8.heap.size) ↑n1 rfl rfl 50 ↑Zm.mk (jT _ _ rfl) (by kernel_rfl) rfl (by simp [Value.oneCell']) ?_
 have hsr := World.setRow_alloc_new w8 ↑Zm.mk ↑n1 50
 rw [hsr]
 clear hsr
 have hv9 : Below w8.heap.size w8 (w8.alloc (.cells ↑n1 50)) := (Below.refl _ w8).alloc (Nat.le_refl _) _
 have hq1 : (w8.alloc (.cells ↑n1 50)).heap[w8.heap.size]? = some (.cells ↑n1 50 (0, 0)) := jT _ _ rfl
 generalize (w8.alloc (.cells ↑n1 50)) = w9 at hv9 hq1 ⊢
 have hb9 := hb8.trans (hv9.mono hb8.size)
 replace hok1 := (hok1.below hv9).more hv9.size
 replace he1 := he1.below hv9
 generalize w8.heap.size = p1 at hq1 ⊢
 have hok1r := jH (fun w' (h : Below w9.heap.size w9 w') => (hok1.below h).more h.size)
 have he1r := jH (fun w' (h : Below w9.heap.size w9 w') => he1.below h)
 have hq1r := jH (fun w' (h : Below w9.heap.size w9 w') => jD hq1 h)
 have hb9r := jH (fun w' (h : Below w9.heap.size w9 w') => hWr.out w' (hb9.trans (h.mono hb9.size)))
 clear hb8 hv9 hq1 hok1 he1 hb9
 (try simp only [Act.put])
 go_upto_region 10 with (fail)
 refine wp_region_list ?_
 refine wpList_step (fun K hK => ?_)
 rw [if_pos (by kernel_rfl)]
 go_simp
 refine hK _ _ ?_
 clear hK K
 refine wpList_step (fun K hK => ?_)
 rw [if_pos (by kernel_rfl)]
 go_simp
 refine (dR.out _).mono ?_
 rintro e wa ⟨n2, rfl, hv2, ho2, hba⟩
 refine hK _ _ ?_
 clear hK K
 have hok2 := ho2.ok
 replace hv2 := jH hv2
 clear dR ho2
 refine wpList_step (fun K hK => ?_)
 rw [if_pos (by kernel_rfl)]
 go_simp
 refine hK _ _ ?_
 clear hK K
 refine wpList_step (fun K hK => ?_)
 rw [if_pos (by kernel_rfl)]
 go_simp
 refine hK _ _ ?_
 clear hK K
 refine wpList_step (fun K hK => ?_)
 rw [if_pos (by kernel_rfl)]
 go_simp
 refine hK _ _ ?_
 clear hK K
 refine wpList_step (fun K hK => ?_)
 rw [if_pos (by kernel_rfl)]
 go_simp
 refine hK _ _ ?_
 clear hK K
 refine wpList_step (fun K hK => ?_)
 rw [if_pos (by kernel_rfl)]
 go_simp
 refine hK _ _ ?_
 clear hK K
 have hvb : Below wa.heap.size wa ((wa.alloc (.cells ↑Zm.mk 38)).alloc (.cells #[.int .i64 0, .int .i64 0] 69)) := ((Below.refl _ wa).alloc (Nat.le_refl _) _).alloc (by simp) _
 have hq2 : ((wa.alloc (.cells ↑Zm.mk 38)).alloc (.cells #[.int .i64 0, .int .i64 0] 69)).heap[wa.heap.size]? = some (.cells ↑Zm.mk 38 (0, 0)) := yE _ (by simp) (jT _ _ rfl)
 have hq3 : ((wa.alloc (.cells ↑Zm.mk 38)).alloc (.cells #[.int .i64 0, .int .i64 0] 69)).heap[wa.heap.size + 1]? = some (.cells #[.int .i64 0, .int .i64 0] 69 (0, 0)) := jT _ _ (by simp)
 generalize ((wa.alloc (.cells ↑Zm.mk 38)).alloc (.cells #[.int .i64 0, .int .i64 0] 69)) = wb at hvb hq2 hq3 ⊢
 generalize hp2 : wa.heap.size = p2 at hq2 hq3 ⊢
 refine wpList_store_mid rfl _ _ _ rfl p2 0 ↑n2 rfl rfl (there_all hq2 _ (by simp)) (by kernel_rfl) (by simp [Value.oneCell']) ?_
 have hq2b := blk_all hq2 ↑n2 (by simp)
 have hq3b := jX (b := p2) (by omega) (n2 : Array Value).toList 0 _ hq3
 have hvc := jV (b := p2) (by omega) (n2 : Array Value).toList 0 _ hvb
 generalize World.setCells wb p2 0 (n2 : Array Value).toList = wc at hq2b hq3b hvc ⊢
 clear hq2 hq3 hvb
 refine wpList_store_mid rfl _ _ _ rfl (p2 + 1) 0 #[.int .i64 T.fa, .int .i64 T.fe] rfl rfl (there_all hq3b _ (by simp)) (by kernel_rfl) (by simp [Value.oneCell']) ?_
 have hq3c := blk_all hq3b #[.int .i64 T.fa, .int .i64 T.fe] (by simp)
 have hq2c := jX (b := p2 + 1) (by omega) (#[.int .i64 T.fa, .int .i64 T.fe] : Array Value).toList 0 _ hq2b
 have hvd := jV (b := p2 + 1) (by omega) (#[.int .i64 T.fa, .int .i64 T.fe] : Array Value).toList 0 _ hvc
 generalize World.setCells wc (p2 + 1) 0 (#[.int .i64 T.fa, .int .i64 T.fe] : Array Value).toList = wd at hq2c hq3c hvd ⊢
 clear hq2b hq3b hvc
 have hbd := hba.trans (hvd.mono hba.size)
 have hok2r := jH (fun w' (h : Below wd.heap.size wd w') => (hok2.below (hvd.trans (h.mono hvd.size))).more (hvd.trans (h.mono hvd.size)).size)
 have h9 := jH (fun w' (h : Below wd.heap.size wd w') => hbd.trans (h.mono hbd.size))
 have hr1 := jH (fun w' (h : KQ wd.heap.size wd w') => hq1r.out w' (h9.out w' h.1))
 have hr2 := jH (fun w' (h : KQ wd.heap.size wd w') => jD hq2c h.1)
 have hr3 := jH (fun w' (h : KQ wd.heap.size wd w') => jD hq3c h.1)
 have cF := jH (fun w' (h : Below wd.heap.size wd w') => from25_any n1 w' (hok1r.out w' (h9.out w' h)) (by omega))
 have cS : Hid (∀ (n3 : Mm) w', n3.c.Ok w' w'.heap.size → n3.val = n1.val → Below wd.heap.size wd w' → Calls Tryz.prog 21 #[.agg ↑n3, .agg ↑n2] w' fun e w'' => e = .returned (.bool true) ∧ Below w'.heap.size w' w'') := jH (fun n3 w' hok hv h => by
  have h1 := rsameM_any n3 n2 w' hok (hok2r.out w' h)
  rw [sameAll_val (hv.trans (hv1.out.trans hv2.out.symm))] at h1
  exact h1)
 have cN := jH (fun w' (h : Below wd.heap.size wd w') => seen_any ev T.fa T.fe w' (hOr.out w' (hb9r.out w' (h9.out w' h))) (he1r.out w' (h9.out w' h)) hTH.out.2.2.1 hTH.out.2.2.2.1 hTH.out.2.2.2.2)
 have hFin := jH (fun w' (h : Below wd.heap.size wd w') => hb9r.out w' (h9.out w' h))
 clear hq1r hok1r he1r hb9r hq2c hq3c hvd hbd hba hok2 hok2r h9 hOr hVr hWr hTH hRdH hp2 hb0
 (try simp only [Act.put])
 go_upto_region 11 with (fail)
 refine jW (fun w' => KQ wd.heap.size wd w') (fun _ => True) 99 (by kernel_rfl) (kq (Below.refl _ _).drew) trivial ?_
 intro hcl
 have hC : KQ wd.heap.size wd wd.drew := kq (Below.refl _ _).drew
 have hE := trivial
 refine wpM_take (i := 0) (v := .agg ↑n1) rfl (by kernel_rfl) (by kernel_rfl) (by kernel_rfl) (by decide) (fun _ _ _ h => h) hcl hC (fun _ => hE) (yields_row (by kernel_rfl) rfl (p1) rfl 50 ↑n1 (0, 0) _ hr1.out Tryz.underlying50 rfl (by kernel_rfl)) ?_
 clear hcl
 intro hcl
 (try simp only [Act.put, List.getElem_toArray, List.getElem_cons_zero, List.setIfInBounds_toArray, List.set_cons_zero, List.set_cons_succ])
 refine wpM_take (i := 2) (v := .agg ↑n2) rfl (by kernel_rfl) (by kernel_rfl) (by kernel_rfl) (by decide) (fun _ _ _ h => h) hcl hC (fun _ => hE) (yields_row (by kernel_rfl) rfl (p2) rfl 38 ↑n2 (0, 0) _ hr2.out Tryz.underlying38 rfl (by kernel_rfl)) ?_
 clear hcl
 intro hcl
 (try simp only [Act.put, nA, nB, nC, nD, nE, nF])
 refine jK (i := 1) rfl (by kernel_rfl) hcl (fun K hK => ?_)
 go_simp
 refine (cF.out _ hC.1).mono ?_
 rintro e v1 ⟨n3, rfl, hv3, hok3, hbv1⟩
 have hC' := jP hC (Nat.le_refl _) hbv1
 refine hK.out _ _ hC' trivial ?_
 clear hK K
 clear hcl
 intro hcl
 (try simp only)
 clear hC
 have hC := hC'
 clear hC'
 refine jK (i := 3) rfl (by kernel_rfl) hcl (fun K hK => ?_)
 go_simp
 refine (cS.out n3 _ hok3 hv3 hC.1).mono ?_
 rintro e v2 ⟨rfl, hbv2⟩
 clear hok3 hv3 hbv1
 have hC' := jP hC (Nat.le_refl _) hbv2
 refine hK.out _ _ hC' trivial ?_
 clear hK K
 clear hcl
 intro hcl
 (try simp only [Act.put, nA, nB, nC, nD, nE, nF])
 clear hC
 have hC := hC'
 clear hC'
 (refine mT 4 ?_ rfl hcl hC hE ?_ ?_; rotate_left; (· (intro w hSw; (try dsimp only at hSw); go_simp; (try with_reducible rfl))); clear hcl; intro hcl; (try simp only [Act.put, nA, nB, nC, nD, nE, nF]))
 (refine mT 5 ?_ rfl hcl hC hE ?_ ?_; rotate_left; (· (intro w hSw; (try dsimp only at hSw); go_simp; (try with_reducible rfl))); clear hcl; intro hcl; (try simp only [Act.put, nA, nB, nC, nD, nE, nF]))
 refine wpM_take (i := 7) (v := .agg #[.int .i64 T.fa, .int .i64 T.fe]) rfl (by kernel_rfl) (by kernel_rfl) (by kernel_rfl) (by decide) (fun _ _ _ h => h) hcl hC (fun _ => hE) (yields_row (by kernel_rfl) rfl (p2 + 1) rfl 69 #[.int .i64 T.fa, .int .i64 T.fe] (0, 0) _ hr3.out Tryz.underlying69 rfl (by kernel_rfl)) ?_
 clear hcl
 intro hcl
 (try simp only [Act.put, nA, nB, nC, nD, nE, nF])
 refine jK (i := 6) rfl (by kernel_rfl) hcl (fun K hK => ?_)
 go_simp
 refine (cN.out _ hC.1).mono ?_
 rintro e v3 ⟨rfl, hbv3⟩
 have hC' := jP hC (Nat.le_refl _) hbv3
 refine hK.out _ _ hC' trivial ?_
 clear hK K
 clear hcl
 intro hcl
 (try simp only [Act.put, nA, nB, nC, nD, nE, nF])
 clear hC
 have hC := hC'
 clear hC'
 (refine mT 8 ?_ rfl hcl hC hE ?_ ?_; rotate_left; (· (intro w hSw; (try dsimp only at hSw); go_simp; (try with_reducible rfl))); clear hcl; intro hcl; (try simp only [Act.put, nA, nB, nC, nD, nE, nF]))
 (refine mT 9 ?_ rfl hcl hC hE ?_ ?_; rotate_left; (· (intro w hSw; (try dsimp only at hSw); go_simp; (try with_reducible rfl))); clear hcl; intro hcl; (try simp only [Act.put, nA, nB, nC, nD, nE, nF]))
 (refine mT 10 ?_ rfl hcl hC hE ?_ ?_; rotate_left; (· (intro w hSw; (try dsimp only at hSw); go_simp; (try with_reducible rfl))); clear hcl; intro hcl; (try simp only [Act.put, nA, nB, nC, nD, nE, nF]))
 refine wpM_done (by kernel_rfl) ?_
 clear hcl
 (try simp only [Act.put, nA, nB, nC, nD, nE, nF])
 have hG := hFin.out _ hC.1
 clear hC
 go_wp2
 go_ret
 exact ⟨rfl, hG⟩
end Go.Proofs.YtfhandglpjnonaaGreatDoor
namespace Go.Proofs.YtfhandglpjnonaaGreatDoor
open Go.ChangeShapes Go.WideShapes Go.RowKit Go.Deep
section
variable {H : Type} {enc : TypeId × Value → H} {P : Program} {w : World} {base : Nat} {spare : Nat → Bool} {held : Bool}
def Reads (enc : TypeId × Value → H) (P : Program) (w : World) (base : Nat) (spare : Nat → Bool) (held : Bool) (t : TypeId) (cs : List Value) : Prop := ∃ n x, DataW.trod enc P w base spare held n t cs = some x
theorem reads_of {t : TypeId} {v : Value} {d : DataW H} {p : List MemPlace} (h : DataW.Trod enc P w base spare held t v d p) : Reads enc P w base spare held t v.cells.toList := by
 obtain ⟨n, h⟩ := h; exact ⟨n, _, h⟩
theorem jU {t t' : TypeId} {fs : Array Field} {f : Field} {cs : List Value} (j o k : Nat) (ht : P.underlying t = some (.struct fs)) (hf : fs[j]? = some f) (ho : f.offset = o) (hy : f.type = t') (hk : P.cellsOf t' = k)
 (h : Reads enc P w base spare held t cs) : Reads enc P w base spare held t' ((cs.drop o).take k) := by
 obtain ⟨n, x, h⟩ := h
 obtain ⟨xs, m, _, _, _, hl, hg⟩ := DataW.trod_struct ht h
 have hj : j < xs.length := by have := (Array.getElem?_eq_some_iff.1 hf).1; omega
 have := hg j f hf
 rw [ho, hy, hk, List.getElem?_eq_getElem hj] at this
 exact ⟨_, _, this⟩
theorem reads_elem {t e : TypeId} {m : Nat} {cs : List Value} (i o k : Nat) (ht : P.underlying t = some (.array m e)) (hi : i < m) (hk : P.cellsOf e = k) (ho : i * k = o)
 (h : Reads enc P w base spare held t cs) : Reads enc P w base spare held e ((cs.drop o).take k) := by
 obtain ⟨n, x, h⟩ := h
 obtain ⟨xs, q, _, _, _, hl, hg⟩ := DataW.trod_array ht h
 have hj : i < xs.length := by omega
 have := hg i hi
 rw [hk, ho, List.getElem?_eq_getElem hj] at this
 exact ⟨_, _, this⟩
theorem reads_int {t : TypeId} {k : IntKind} {v : Value} (ht : P.underlying t = some (.int k)) (h : Reads enc P w base spare held t [v]) : ∃ z : Int, v = .int k z := by
 obtain ⟨n, x, h⟩ := h
 obtain ⟨z, hz, _⟩ := DataW.trod_int ht h
 exact ⟨z, by simpa using hz⟩
theorem reads_u32 {t : TypeId} {v : Value} (ht : P.underlying t = some (.int .u32)) (h : Reads enc P w base spare held t [v]) : ∃ z : Int, v = .int .u32 z ∧ 0 ≤ z ∧ z < 4294967296 := by
 obtain ⟨n, x, h⟩ := h
 obtain ⟨z, hz, _, hw⟩ := DataW.trod_int ht h
 refine ⟨z, by simpa using hz, ?_⟩
 have h1 : IntKind.u32.min = 0 := rfl
 have h2 : IntKind.u32.max = 4294967295 := rfl
 simp only [Lit.wf, Bool.and_eq_true, decide_eq_true_eq, h1, h2] at hw
 omega
theorem reads_i64 {t : TypeId} {v : Value} (ht : P.underlying t = some (.int .i64)) (h : Reads enc P w base spare held t [v]) : ∃ z : Int, v = .int .i64 z ∧ -9223372036854775808 ≤ z ∧ z ≤ 9223372036854775807 := by
 obtain ⟨n, x, h⟩ := h
 obtain ⟨z, hz, _, hw⟩ := DataW.trod_int ht h
 refine ⟨z, by simpa using hz, ?_⟩
 have h1 : IntKind.i64.min = -9223372036854775808 := rfl
 have h2 : IntKind.i64.max = 9223372036854775807 := rfl
 simp only [Lit.wf, Bool.and_eq_true, decide_eq_true_eq, h1, h2] at hw
 omega
theorem reads_bool {t : TypeId} {v : Value} (ht : P.underlying t = some .bool) (h : Reads enc P w base spare held t [v]) : ∃ z : Bool, v = .bool z := by
 obtain ⟨n, x, h⟩ := h
 obtain ⟨z, hz, _⟩ := DataW.trod_bool ht h
 exact ⟨z, by simpa using hz⟩
theorem reads_string {t : TypeId} {v : Value} (ht : P.underlying t = some .string) (h : Reads enc P w base spare held t [v]) : ∃ z : ByteArray, v = .string z ∧ z.size ≤ maxLen := by
 obtain ⟨n, x, h⟩ := h
 obtain ⟨z, hz, _, hl⟩ := DataW.trod_string ht h
 exact ⟨z, by simpa using hz, hl⟩
theorem cell_none {w : World} {a : Addr} {v : Value} (h : w.cell? a = some v) : a.spot = none ∧ a.block < w.heap.size := by
 unfold World.cell? at h
 split at h
 ·
  rename_i hb
  refine ⟨?_, (Array.getElem?_eq_some_iff.1 hb).1⟩
  split at h
  ·
   cases h
  ·
   rename_i hs; simpa using hs
 ·
  cases h
theorem reads_slice {α : Type} [Inhabited α] (mk : α → List Value) (Q : α → Prop) {t e : TypeId} {sz : Nat} {v : Value} (ht : P.underlying t = some (.slice e)) (hC : P.cellsOf e = sz) (hz : 0 < sz)
 (hE : ∀ cs, cs.length = sz → Reads enc P w base spare held e cs → ∃ p, cs = mk p ∧ Q p) (h : Reads enc P w base spare held t [v]) :
 ∃ (A : Option Addr) (l c : Nat) (ps : List α), v = .slice A l c ∧ Rd w w.heap.size sz A l (ps.map mk) ∧ (∀ p ∈ ps, Q p) ∧ l ≤ c ∧ c ≤ maxLen := by
 obtain ⟨n, x, h⟩ := h
 rcases open_slice ht h with ⟨hcs, _⟩ | ⟨a, len, cap, m, n, D, Pl, hcs, hb, hl, hm, hmm, hx, hi⟩
 ·
  exact ⟨none, 0, 0, [], by simpa using hcs, Rd.nil_, by simp, Nat.le_refl _, Nat.zero_le _⟩
 ·
  have hle : len ≤ m := by rw [hmm]; split <;> omega
  obtain ⟨f, hf⟩ := choose_lt (n := len) (p := fun i (p : α) => w.cells? base (a.add (i * sz)) sz = some (mk p) ∧ (mk p).length = sz ∧ Q p) (fun i hi' => by
   obtain ⟨cs', h1, h2⟩ := hi i (by omega)
   rw [hC] at h1
   obtain ⟨_, hlen, _⟩ := World.cells?_some h1
   obtain ⟨p, rfl, hq⟩ := hE cs' hlen ⟨_, _, h2⟩
   exact ⟨p, h1, hlen, hq⟩)
  refine ⟨some a, len, cap, (List.range len).map f, by simpa using hcs, ⟨by simp, fun h0 => ?_⟩, ?_, hl, hm⟩
  ·
   have hc0 : ∃ u, w.cell? a = some u := by
    obtain ⟨h1, h2, _⟩ := hf 0 h0
    obtain ⟨_, _, hat⟩ := World.cells?_some h1
    have h3 := hat 0 hz
    rw [List.getElem?_eq_getElem (by omega)] at h3
    exact ⟨_, by simpa [Addr.add] using h3⟩
   obtain ⟨u, hu⟩ := hc0
   obtain ⟨hs, hlt⟩ := cell_none hu
   obtain ⟨b, o, s⟩ := a
   simp only at hs
   subst hs
   refine ⟨b, o, rfl, hlt, fun k x hk j u hj => ?_⟩
   simp only [List.map_map, List.getElem?_map] at hk
   have hkl : k < len := by
    rcases Nat.lt_or_ge k len with h' | h'
    ·
     exact h'
    ·
     simp [List.getElem?_eq_none (show (List.range len).length ≤ k by simpa using h')] at hk
   rw [List.getElem?_eq_getElem (by simpa using hkl)] at hk
   simp only [List.getElem_range, Option.map_some, Function.comp, Option.some.injEq] at hk
   subst hk
   obtain ⟨h1, h2, _⟩ := hf k hkl
   obtain ⟨_, _, hat⟩ := World.cells?_some h1
   have hjl : j < sz := by have := (List.getElem?_eq_some_iff.1 hj).1; omega
   have h3 := hat j hjl
   rw [add_add, hj] at h3
   rw [← h3]
   unfold Addr.add
   by_cases h0' : k * sz + j = 0
   ·
    rw [if_pos h0', Nat.add_assoc, h0', Nat.add_zero]
   ·
    rw [if_neg h0', Nat.add_assoc]
  ·
   intro p hp
   obtain ⟨i, hi', rfl⟩ := List.mem_map.1 hp
   exact (hf i (by simpa using hi')).2.2
end
section
variable {H : Type} {enc : TypeId × Value → H} {P : Program} {w : World} {base : Nat} {spare : Nat → Bool} {held : Bool}
theorem shut_bool {t : TypeId} (ht : P.underlying t = some .bool) {c : Bool} : DataW.Trod enc P w base spare held t (.bool c) (.lit (.bool c)) [] := ⟨1, by simp [DataW.trod, Value.cells, ht]⟩
theorem okWide_bool_mk {t : TypeId} (ht : P.underlying t = some .bool) {c : Bool} {r : Reach} {b0 : Nat} : Value.okWide P w r b0 t (.bool c) := by simp [Value.okWide, ht, Cell.okWide, Cell.ok]
end
theorem list2 {l : List Value} (h : l.length = 2) : ∃ a b, l = [a, b] := by
 match l, h with
 | [a, b], _ => exact ⟨a, b, rfl⟩
theorem list8 {l : List Value} (h : l.length = 8) : ∃ c0 c1 c2 c3 c4 c5 c6 c7, l = [c0, c1, c2, c3, c4, c5, c6, c7] := by
 match l, h with
 | [c0, c1, c2, c3, c4, c5, c6, c7], _ => exact ⟨_, _, _, _, _, _, _, _, rfl⟩
theorem list3 {l : List Value} (h : l.length = 3) : ∃ a b c, l = [a, b, c] := by
 match l, h with
 | [a, b, c], _ => exact ⟨a, b, c, rfl⟩
theorem list10 {l : List Value} (h : l.length = 10) : ∃ c0 c1 c2 c3 c4 c5 c6 c7 c8 c9, l = [c0, c1, c2, c3, c4, c5, c6, c7, c8, c9] := by
 match l, h with
 | [c0, c1, c2, c3, c4, c5, c6, c7, c8, c9], _ => exact ⟨_, _, _, _, _, _, _, _, _, _, rfl⟩
theorem list12 {l : List Value} (h : l.length = 12) : ∃ c0 c1 c2 c3 c4 c5 c6 c7 c8 c9 c10 c11, l = [c0, c1, c2, c3, c4, c5, c6, c7, c8, c9, c10, c11] := by
 match l, h with
 | [c0, c1, c2, c3, c4, c5, c6, c7, c8, c9, c10, c11], _ => exact ⟨_, _, _, _, _, _, _, _, _, _, _, _, rfl⟩
section
variable {H : Type} {enc : TypeId × Value → H} {P : Program}
theorem post_of_below {f : Func} {s : ChangeSpec} {apart fresh handsOn again : Bool} {W W' : World} {args : Array Value} {v : Value} {ds gs : List (DataW H)} {before pa pv : List MemPlace}
 (hW : DataW.Whole enc P f.params.toList s.vars apart W args.toList ds gs before)
 (hres : ∀ (b : Nat) (sp : Nat → Bool) (hd : Bool), DataW.TrodAll enc P W' b sp hd f.resultTypes.toList (v.resultList f.resultTypes.size) (s.fn H (ds ++ gs)).results [])
 (hargs : ∀ sp : Nat → Bool, (∀ p ∈ before, sp p.block = true) → DataW.TrodAll enc P W' 0 sp true f.params.toList args.toList (s.fn H (ds ++ gs)).args pa)
 (hvars : ∀ sp : Nat → Bool, (∀ p ∈ before, sp p.block = true) → DataW.TrodVars enc P W' sp s.vars (s.fn H (ds ++ gs)).vars pv)
 (hps : before = pa ++ pv) (hb : Below W.heap.size W W')
 (hok : ∀ (j : Nat) (t : TypeId) (r : Value), f.resultTypes[j]? = some t → (v.resultList f.resultTypes.size)[j]? = some r → Value.okWide P W' .any 0 t r) :
 s.post enc P f apart fresh handsOn again W args v W' := by
 have hlt : ∀ p ∈ before, p.block < W.heap.size := fun p hp => hW.lt p hp
 have hold : ∀ p ∈ before, (fun b => decide (b < W.heap.size)) p.block = true := fun p hp => by simpa using hlt p hp
 refine ⟨ds, gs, before, [], pa, pv, hW, hres _ _ _, hargs _ hold, hvars _ hold, World.keptBut_mono (fun p hp => ⟨hp, ?_⟩) (hb.frame (· ∈ before)), fun _ => ?_⟩
 ·
  rw [hps, List.mem_append] at hp
  exact Or.inr hp
 ·
  obtain ⟨_, _, _, _, _, hz, hn⟩ := hW
  refine ⟨hok, _, _, ([] ++ pa) ++ pv, ⟨[] ++ pa, pv, trodAll_append (hargs _ (fun _ _ => rfl)) (hres _ _ _), hvars _ (fun _ _ => rfl), rfl, ?_, ?_⟩, ?_⟩
  ·
   intro b off hp
   have hin : MemPlace.cell b off ∈ before := by rw [hps]; simpa using hp
   rw [hb.frozen (hlt _ hin)]
   exact hz b off hin
  ·
   intro ha
   have := hn ha
   rw [hps] at this
   simpa using this
  ·
   intro p hp _
   rw [hps]
   simpa using hp
theorem trodAll_stays {sp : Nat → Bool} {W W' : World} (hl : laidOutB P = true) (hsame : Below W.heap.size W W') :
 ∀ {ts : List TypeId} {vs : List Value} {ds : List (DataW H)} {ps : List MemPlace}, (∀ t ∈ ts, P.readableRec t = true ∧ t < P.types.size) → (∀ p ∈ ps, p.block < W.heap.size) → (∀ p ∈ ps, sp p.block = true) →
  DataW.TrodAll enc P W 0 (fun _ => true) true ts vs ds ps → DataW.TrodAll enc P W' 0 sp true ts vs ds ps
 | [], [], [], _, _, _, _, h => h
 | t :: ts, v :: vs, d :: ds, ps, ht, hlt, hs, h => by
  obtain ⟨p, q, h1, h2, rfl⟩ := h
  refine ⟨p, q, WideElems.Trod_stays hl (ht t (by simp)).1 (ht t (by simp)).2 h1 (fun x hx => hsame.same (hlt x (by simp [hx]))) (fun x hx => hs x (by simp [hx])), ?_, rfl⟩
  exact trodAll_stays hl hsame (fun t' h' => ht t' (by simp [h'])) (fun x hx => hlt x (by simp [hx])) (fun x hx => hs x (by simp [hx])) h2
 | [], [], _ :: _, _, _, _, _, h => h.elim
 | [], _ :: _, _, _, _, _, _, h => h.elim
 | _ :: _, [], _, _, _, _, _, h => h.elim
 | _ :: _, _ :: _, [], _, _, _, _, h => h.elim
end
end Go.Proofs.YtfhandglpjnonaaGreatDoor
namespace Go.Proofs.YtfhandglpjnonaaGreatDoor
open Go.ChangeShapes Go.WideShapes Go.ChangeAt Go.RowKit
theorem own_ok : ownKnob Tryz.prog.godebug = none := by kernel_rfl
theorem laid_ok : laidOutB Tryz.prog = true := by kernel_rfl
section
variable {H : Type} {enc : TypeId × Value → H} {w : World} {base : Nat} {spare : Nat → Bool} {held : Bool}
theorem reads_id {cs : List Value} (hl : cs.length = 2) (h : Reads enc Tryz.prog w base spare held 24 cs) : ∃ x : Im, cs = x.enc ∧ x.wf := by
 obtain ⟨a, b, rfl⟩ := list2 hl
 obtain ⟨x, rfl⟩ := reads_int Tryz.underlying3 (jU 0 0 1 Tryz.underlying24 rfl rfl rfl (by kernel_rfl) h)
 obtain ⟨y, rfl, h0, h1⟩ := reads_u32 Tryz.underlying22 (jU 1 1 1 Tryz.underlying24 rfl rfl rfl (by kernel_rfl) h)
 exact ⟨(x, y), rfl, h0, h1⟩
theorem reads_vec {cs : List Value} (hl : cs.length = 8) (h : Reads enc Tryz.prog w base spare held 28 cs) : ∃ v : Vm, cs = [.int .u32 v.d0, .int .u32 v.d1, .int .u32 v.d2, .int .u32 v.d3, .int .u32 v.d4, .int .u32 v.d5, .int .u32 v.d6, .int .u32 v.d7] ∧ v.wf := by
 obtain ⟨c0, c1, c2, c3, c4, c5, c6, c7, rfl⟩ := list8 hl
 obtain ⟨y0, rfl, h0⟩ := reads_u32 Tryz.underlying22 (reads_elem 0 0 1 Tryz.underlying28 (by decide) (by kernel_rfl) rfl h)
 obtain ⟨y1, rfl, h1⟩ := reads_u32 Tryz.underlying22 (reads_elem 1 1 1 Tryz.underlying28 (by decide) (by kernel_rfl) rfl h)
 obtain ⟨y2, rfl, h2⟩ := reads_u32 Tryz.underlying22 (reads_elem 2 2 1 Tryz.underlying28 (by decide) (by kernel_rfl) rfl h)
 obtain ⟨y3, rfl, h3⟩ := reads_u32 Tryz.underlying22 (reads_elem 3 3 1 Tryz.underlying28 (by decide) (by kernel_rfl) rfl h)
 obtain ⟨y4, rfl, h4⟩ := reads_u32 Tryz.underlying22 (reads_elem 4 4 1 Tryz.underlying28 (by decide) (by kernel_rfl) rfl h)
 obtain ⟨y5, rfl, h5⟩ := reads_u32 Tryz.underlying22 (reads_elem 5 5 1 Tryz.underlying28 (by decide) (by kernel_rfl) rfl h)
 obtain ⟨y6, rfl, h6⟩ := reads_u32 Tryz.underlying22 (reads_elem 6 6 1 Tryz.underlying28 (by decide) (by kernel_rfl) rfl h)
 obtain ⟨y7, rfl, h7⟩ := reads_u32 Tryz.underlying22 (reads_elem 7 7 1 Tryz.underlying28 (by decide) (by kernel_rfl) rfl h)
 exact ⟨⟨y0, y1, y2, y3, y4, y5, y6, y7⟩, rfl, h0, h1, h2, h3, h4, h5, h6, h7⟩
end
section
variable {H : Type} {enc : TypeId × Value → H} {w : World} {base : Nat} {spare : Nat → Bool} {held : Bool}
end
theorem open_str {H : Type} {enc : TypeId × Value → H} {w : World} {base : Nat} {spare : Nat → Bool} {held : Bool} {r : Reach} {b0 : Nat} {v : Value} {d : DataW H} {p : List MemPlace} (hv : Value.okWide Tryz.prog w r b0 9 v) (h : DataW.Trod enc Tryz.prog w base spare held 9 v d p) : ∃ l : List UInt8, v = .string (bs l) ∧ l.length ≤ maxLen := by
 obtain ⟨s, rfl⟩ : ∃ s, v = .string s := by
  unfold Value.okWide at hv
  simp only [Tryz.underlying9] at hv
  cases v <;> simp_all [Cell.okWide, Cell.ok]
 obtain ⟨z, hz, hzl⟩ := reads_string Tryz.underlying9 (by simpa [Value.cells] using reads_of h)
 injection hz with hz
 subst hz
 exact ⟨s.data.toList, by rw [bs_of], by rw [Array.length_toList]; exact hzl⟩
section
variable {H : Type} {enc : TypeId × Value → H} {w : World} {base : Nat} {spare : Nat → Bool} {held : Bool}
theorem reads_tm {cs : List Value} (hl : cs.length = 3) (h : Reads enc Tryz.prog w base spare held 131 cs) : ∃ t : Tm, cs = t.enc ∧ t.wf := by
 obtain ⟨a, b, c, rfl⟩ := list3 hl
 obtain ⟨x, hx, hw⟩ := reads_id (cs := [a, b]) rfl (jU 0 0 2 Tryz.underlying131 rfl rfl rfl (by kernel_rfl) h)
 obtain ⟨z, rfl⟩ := reads_int Tryz.underlying3 (jU 1 2 1 Tryz.underlying131 rfl rfl rfl (by kernel_rfl) h)
 simp only [Im.enc, List.cons.injEq] at hx
 obtain ⟨rfl, rfl, _⟩ := hx
 exact ⟨(x, z), rfl, hw⟩
end
end Go.Proofs.YtfhandglpjnonaaGreatDoor
