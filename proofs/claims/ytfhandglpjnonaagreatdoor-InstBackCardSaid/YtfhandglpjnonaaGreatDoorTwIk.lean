/- The statement InstBack, walked. -/
import Derived.Test.YtfhandglpjnonaaGreatDoorQO
import Derived.Test.YtfhandglpjnonaaGreatDoorTwI
namespace Go.Proofs.YtfhandglpjnonaaGreatDoor
open Go.RowKit
theorem Mm.wri_of {t : TypeId} {w : World} {base : Nat} {n : Mm} {v : MgV} (h : n.c.OwT t w base) (hv : n.val = v) (hr : v.Rd) : n.Wri w := by
 subst hv
 exact ⟨⟨h.ok, h.fit hr.c, ⟨Nat.le_trans hr.c.l (by decide), Nat.le_trans hr.c.m (by decide), fun p hp => ⟨Nat.le_trans (hr.c.g p hp).1 (by decide), trivial⟩, fun p hp => (hr.c.g p hp).2.1, hr.c.x, hr.c.v, hr.c.u⟩⟩, hr.i, hr.av⟩
theorem wM_pos (v : MgV) : 0 < (wM v).length := by
 unfold wM mC mV mS mB mH numB
 simp
theorem cut_facts (cut : Int) (L : Nat) (h0 : 0 < L) (h1 : L ≤ 4000000) : ∃ (z : Int) (k : Nat), IntKind.u64.wrap cut = z ∧ z.tmod (L : Int) = (k : Int) ∧ k < L ∧ IntKind.u64.wrap (L : Int) = (L : Int) ∧ IntKind.i64.wrap (k : Int) = (k : Int) ∧ wrap64 (k : Int) = (k : Int) ∧ ¬ (L : Int) = 0 ∧ ((L : Int) == 0) = false ∧ ¬ (k : Int) < 0 ∧ (k : Int) ≤ (L : Int) ∧ k ≤ L := by
 obtain ⟨z, hz⟩ : ∃ z, IntKind.u64.wrap cut = z := ⟨_, rfl⟩
 have hz1 : 0 ≤ z := by
  rw [← hz]
  unfold IntKind.wrap
  exact Int.emod_nonneg _ (by decide)
 have e1 := Int.tmod_eq_emod_of_nonneg (b := (L : Int)) hz1
 have e2 := Int.emod_nonneg z (b := (L : Int)) (by omega)
 have e3 := Int.emod_lt_of_pos z (b := (L : Int)) (by omega)
 refine ⟨z, (z % L).toNat, hz, by omega, by omega, IntWalk.u64_in _ (by omega), IntWalk.i64_in _ (by omega), IntWalk.wrap64_in _ ⟨by omega, by omega⟩, by omega, ?_, by omega, by omega, by omega⟩
 rw [beq_eq_false_iff_ne]; omega
set_option maxRecDepth 100000 in
set_option maxHeartbeats 16000000 in
theorem instback_any (m : Mm) (cut : Int) (l : List UInt8) (w : World) (hm : m.c.Raw w) (hi : m.i.wf) (hav : m.av.wf) (hN : m.Nn) (hVM : VarM w) (hVO : VarOk w) :
 Calls Tryz.prog 5 #[.agg ↑m, .int .i64 cut, .string (bs l)] w fun e w' => e = .returned (.bool true) ∧ Below w.heap.size w w' := by
 have g1 := jH (fun w' (h : Below w.heap.size w w') => great25_any m.c w' ((hm.ok.below h).more h.size))
 have hb0 : Below w.heap.size w (w.alloc (.cells ↑m 38)) := (Below.refl _ w).alloc (Nat.le_refl _) _
 have hbA : (w.alloc (.cells ↑m 38)).heap[w.heap.size]? = some (.cells ↑m 38 (0, 0)) := jT _ _ rfl
 generalize hW : w.alloc (.cells ↑m 38) = W at hb0 hbA
 have hz0 := hb0.size
 have hltA := jB hbA
 have hAt := jH (fun w' (h : Below W.heap.size W w') => jD hbA h)
 have hmid := jH (fun w' (h : Below W.heap.size W w') => rangeQ (jD hbA h) 11 ↑m.c rfl)
 have hVr := jH (fun w' (h : Below w.heap.size w w') => hVM.below h hVM.lt)
 have hWr := jH (fun w' (h : Below W.heap.size W w') => hb0.trans (h.mono hz0))
 have cK := jH (worksI_any W (hVM.below hb0 hVM.lt) (hVO.below hb0 hVO.lt))
 clear hbA hVM hVO
 cases hg1 : grC m.c with
 | true =>
  rw [hg1] at g1
  clear hm hg1
  go_enter Tryz.func5, Tryz.ntmps5
  go_upto_region 1 with (fail)
  clear hW
  go_wp2_with fail
  refine cK.out.mono ?_
  rintro e w1 ⟨rfl, hb1⟩
  go_upto_region 3 with (fail)
  refine wp_region_list ?_
  refine wpList_step (fun K hK => ?_)
  rw [if_pos (by kernel_rfl)]
  go_simp
  refine hK _ _ ?_
  clear hK K
  refine wpList_load_midG (by kernel_rfl) _ _ rfl (w.heap.size) 11 rfl ↑m.c _ (hmid.out _ hb1) Tryz.underlying34 rfl (by kernel_rfl) ?_
  (try simp only [Act.put, List.setIfInBounds_toArray, List.set_cons_zero, List.set_cons_succ])
  go_wp2_with fail
  refine (g1.out _ (hWr.out _ hb1)).mono ?_
  rintro e w2 ⟨rfl, hb2⟩
  replace hb2 := hb1.trans (hb2.mono hb1.size)
  have hG := hWr.out _ hb2
  go_wp2
  go_ret
  exact ⟨rfl, hG⟩
 | false =>
 rw [hg1] at g1
 by_cases hl2 : 3000 < l.length
 ·
  have hd : decide ((3000 : Int) < (((bs l).size : Nat) : Int)) = true := decide_eq_true (by rw [jG]; omega)
  clear hm hg1 hl2
  go_enter Tryz.func5, Tryz.ntmps5
  go_upto_region 1 with (fail)
  clear hW
  go_wp2_with fail
  refine cK.out.mono ?_
  rintro e w1 ⟨rfl, hb1⟩
  go_upto_region 3 with (fail)
  refine wp_region_list ?_
  refine wpList_step (fun K hK => ?_)
  rw [if_pos (by kernel_rfl)]
  go_simp
  refine hK _ _ ?_
  clear hK K
  refine wpList_load_midG (by kernel_rfl) _ _ rfl (w.heap.size) 11 rfl ↑m.c _ (hmid.out _ hb1) Tryz.underlying34 rfl (by kernel_rfl) ?_
  (try simp only [Act.put, List.setIfInBounds_toArray, List.set_cons_zero, List.set_cons_succ])
  go_wp2_with fail
  refine (g1.out _ (hWr.out _ hb1)).mono ?_
  rintro e w2 ⟨rfl, hb2⟩
  replace hb2 := hb1.trans (hb2.mono hb1.size)
  have hG := hWr.out _ hb2
  go_wp2
  go_ret
  exact ⟨rfl, hG⟩
 have hd : decide ((3000 : Int) < (((bs l).size : Nat) : Int)) = false := decide_eq_false (by rw [jG]; omega)
 have hSm : Hid (∀ w', Below w.heap.size w w' → m.Sml w') := jH (fun w' h => ⟨(hm.sml hg1).below h, hi, hav⟩)
 have hbk : m.val.Bk := Mm.bk hN hav (hm.sml hg1).v
 have hwl : ∀ (h : msgErr m = 0), (wM m.val).length ≤ 3000500 := fun h => wM_len h (hSm.out w (Below.refl _ _)).wri hN
 have cTo := jH (fun w' (h : Below w.heap.size w w') => to25_any m w' (hSm.out w' h))
 have cR := jH (fun w' (h : Below w.heap.size w w') => mread_any l (by omega) w' (hVr.out w' h))
 have hRw := readWM_wf (startS_wf (l := l) (by omega))
 have hfw := fun h => readWM_fw (l := l) (by omega) h
 have hbd := fun h => readWM_bad (S := ⟨l, 0, 0, 0⟩) h
 unfold MsgRP at cR
 generalize readWM ⟨l, 0, 0, 0⟩ = Z at hRw cR hfw hbd
 obtain ⟨v, T⟩ := Z
 dsimp only at hRw cR hfw hbd
 have hRdH := jH hRw.2
 have hZ : Hid (T.fe ≠ 0 → v = zMm.val) := jH (fun h => hbd h)
 have cF : Hid (T.fe = 0 → ∀ (n : Mm) w', n.Wri w' → n.val = v → Below w.heap.size w w' → Calls Tryz.prog 15 #[.agg ↑n] w' fun e w'' => e = .returned (.tuple #[.string (bs l), .int .i64 0]) ∧ Below w'.heap.size w' w'') := jH (fun hf n w' hw hv h => by
  obtain ⟨e1, e2⟩ := hfw hf
  have hnn : n.Nn := by
   have r := hRdH.out
   subst hv
   exact ⟨r.ep, r.b, r.vv, r.an⟩
  have e3 : msgErr n = 0 := by rw [msgErr_eq, hv]; exact e1
  have e4 : wMsg n = l := by unfold wMsg; rw [e3, hv]; exact e2
  have h1 := mwrite_any n w' hw hnn (hVr.out w' h)
  rw [e3, e4] at h1
  exact h1)
 have cW : Hid (∀ (n : Mm) w', n.Sml w' → n.val = m.val → Below w.heap.size w w' → Calls Tryz.prog 15 #[.agg ↑n] w' fun e w'' => e = .returned (.tuple #[.string (bs (wMsg m)), .int .i64 (msgErr m)]) ∧ Below w'.heap.size w' w'') := jH (fun n w' hn hv h => by
  have h1 := mwrite_any n w' hn.wri (hN.val hv) (hVr.out w' h)
  rw [wMsg_val hv, msgErr_val hv] at h1
  exact h1)
 have cFr := jH (fun (n1 : Mm) w' (hok : n1.c.Ok w' w'.heap.size) (hk : n1.c.k ≤ 16) => from25_any n1 w' hok (by omega))
 have cSa : Hid (∀ (n3 : Mm) w', n3.c.Ok w' w'.heap.size → n3.val = m.val → Below w.heap.size w w' → Calls Tryz.prog 21 #[.agg ↑n3, .agg ↑m] w' fun e w'' => e = .returned (.bool true) ∧ Below w'.heap.size w' w'') := jH (fun n3 w' hok hv h => by
  have h1 := rsameM_any n3 m w' hok (hSm.out w' h).c.ok
  rw [sameAll_val hv] at h1
  exact h1)
 by_cases hE : msgErr m = 0
 case neg =>
  have hEb : (msgErr m == 0) = false := by rw [beq_eq_false_iff_ne]; exact hE
  generalize msgErr m = E at *
  generalize bs (wMsg m) = X at *
  clear hm hg1 hl2 hi hav hN hRw hfw hbd hbk hwl hE cFr cSa
  go_enter Tryz.func5, Tryz.ntmps5
  go_upto_region 1 with (fail)
  clear hW
  go_wp2_with fail
  refine cK.out.mono ?_
  rintro e w1 ⟨rfl, hb1⟩
  go_upto_region 3 with (fail)
  refine wp_region_list ?_
  refine wpList_step (fun K hK => ?_)
  rw [if_pos (by kernel_rfl)]
  go_simp
  refine hK _ _ ?_
  clear hK K
  refine wpList_load_midG (by kernel_rfl) _ _ rfl (w.heap.size) 11 rfl ↑m.c _ (hmid.out _ hb1) Tryz.underlying34 rfl (by kernel_rfl) ?_
  (try simp only [Act.put, List.setIfInBounds_toArray, List.set_cons_zero, List.set_cons_succ])
  go_wp2_with fail
  refine (g1.out _ (hWr.out _ hb1)).mono ?_
  rintro e w2 ⟨rfl, hb2⟩
  replace hb2 := hb1.trans (hb2.mono hb1.size)
  go_upto_region 5 with (fail)
  clear hd g1 cK
  refine wp_region_list ?_
  refine wpList_loadG (by kernel_rfl) _ _ rfl (w.heap.size) rfl 38 ↑m (0, 0) _ (hAt.out _ hb2) Tryz.underlying38 rfl (by kernel_rfl) ?_
  (try simp only [Act.put, List.setIfInBounds_toArray, List.set_cons_zero, List.set_cons_succ])
  go_wp2_with fail
  refine (cTo.out _ (hWr.out _ hb2)).mono ?_
  rintro e w3 hP
  obtain ⟨n, rfl, hnv, hns, hb3⟩ := hP.sml (hSm.out _ (hWr.out _ hb2))
  replace hb3 := hb2.trans (hb3.mono hb2.size)
  replace hnv := jH hnv
  replace hns := jH hns
  clear hP hb2 cTo
  go_wp2_with fail
  refine (cW.out n _ hns.out hnv.out (hWr.out _ hb3)).mono ?_
  rintro e w4 ⟨rfl, hb4⟩
  replace hb4 := hb3.trans (hb4.mono hb3.size)
  clear hns hnv hb3 cW
  go_upto_region 13 with (fail)
  refine wp_region_list ?_
  refine wpList_step (fun K hK => ?_)
  rw [if_pos (by kernel_rfl)]
  go_simp
  refine hK _ _ ?_
  clear hK K
  refine wpList_step (fun K hK => ?_)
  rw [if_pos (by kernel_rfl)]
  go_simp
  refine (cR.out _ (hWr.out _ hb4)).mono ?_
  rintro e wp ⟨n, ev, rfl, hv, he, ho, hbp⟩
  refine hK _ _ ?_
  clear hK K
  replace hbp := hb4.trans (hbp.mono hb4.size)
  have hk := (Mm.sml_of ho hv hRdH.out).2
  have hwri : n.Wri wp := Mm.wri_of ho hv hRdH.out
  clear ho
  refine wpList_step (fun K hK => ?_)
  rw [if_pos (by kernel_rfl)]
  go_simp
  refine hK _ _ ?_
  clear hK K
  refine wpList_step (fun K hK => ?_)
  rw [if_pos (by kernel_rfl)]
  go_simp
  refine hK _ _ ?_
  clear hK K
  refine wpList_step (fun K hK => ?_)
  rw [if_pos (by kernel_rfl)]
  go_simp
  refine hK _ _ ?_
  clear hK K
  refine wpList_step (fun K hK => ?_)
  rw [if_pos (by kernel_rfl)]
  go_simp
  refine hK _ _ ?_
  clear hK K
  refine wpList_store_row rfl _ _ _ rfl (wp.heap.size) ↑n rfl rfl 50 ↑Zm.mk (jT _ _ rfl) (by kernel_rfl) rfl (by simp [Value.oneCell']) ?_
  have hsr := World.setRow_alloc_new wp ↑Zm.mk ↑n 50
  rw [hsr]
  clear hsr
  have hvn : Below wp.heap.size wp (wp.alloc (.cells ↑n 50)) := (Below.refl _ wp).alloc (Nat.le_refl _) _
  have qb : (wp.alloc (.cells ↑n 50)).heap[wp.heap.size]? = some (.cells ↑n 50 (0, 0)) := jT _ _ rfl
  generalize (wp.alloc (.cells ↑n 50)) = wq at hvn qb ⊢
  have hbq := hbp.trans (hvn.mono hbp.size)
  replace hwri := hwri.below hvn
  replace he := he.below hvn
  generalize wp.heap.size = q at qb ⊢
  clear hvn hbp
  (try simp only [Act.put])
  by_cases hf : T.fe = 0
  ·
   obtain ⟨_, rfl⟩ := he.resolve_right (fun h9 => h9.1 hf)
   have cY := jH (cF.out hf n wq hwri hv (hWr.out _ hbq))
   have hqbH := jH qb
   clear he qb hwri hv
   go_upto_region 16 with (fail)
   refine wp_region_list ?_
   refine wpList_loadG (by kernel_rfl) _ _ rfl (q) rfl 50 ↑n (0, 0) _ hqbH.out Tryz.underlying50 rfl (by kernel_rfl) ?_
   (try simp only [Act.put, List.setIfInBounds_toArray, List.set_cons_zero, List.set_cons_succ])
   go_wp2_with fail
   refine cY.out.mono ?_
   rintro e wr ⟨rfl, hbr⟩
   have hG := hWr.out _ (hbq.trans (hbr.mono hbq.size))
   go_wp2
   go_ret
   exact ⟨rfl, hG⟩
  ·
   obtain ⟨hne, F, rfl, -⟩ := he.resolve_left (fun h9 => hf h9.1)
   have cY := jH (from25_any n wq hwri.c.ok (by omega))
   have hzv := hv.trans (hZ.out hf)
   have hqbH := jH qb
   clear he qb hwri hv
   go_upto_region 15 with (fail)
   refine wp_region_list ?_
   refine wpList_loadG (by kernel_rfl) _ _ rfl (q) rfl 50 ↑n (0, 0) _ hqbH.out Tryz.underlying50 rfl (by kernel_rfl) ?_
   refine wpList_step (fun K hK => ?_)
   rw [if_pos (by kernel_rfl)]
   go_simp
   refine (cY.out).mono ?_
   rintro e wr ⟨n3, rfl, hv3, hok3, hbr⟩
   refine hK _ _ ?_
   clear hK K
   refine wpList_buildK rfl _ _ rfl (cells := ↑Zm.mk) (by kernel_rfl) ?_
   rw [z_row]
   have cS := rsameM_any n3 zMm wr hok3 (zCm_sml wr).ok
   rw [sameAll_val (hv3.trans hzv)] at cS
   have cSH := jH cS
   have hbs := hbq.trans (hbr.mono hbq.size)
   clear cS hbr cY
   (try simp only [Act.put, List.setIfInBounds_toArray, List.set_cons_zero, List.set_cons_succ])
   go_wp2_with fail
   refine cSH.out.mono ?_
   rintro e wt ⟨rfl, hbt⟩
   have hG := hWr.out _ (hbs.trans (hbt.mono hbs.size))
   go_wp2
   go_ret
   exact ⟨rfl, hG⟩
 have hbn : wMsg m = wM m.val := by unfold wMsg; rw [hE]; rfl
 have hpos := wM_pos m.val
 have hle := hwl hE
 have hev : msgErrV m.val = 0 := by rw [← msgErr_eq]; exact hE
 have hrok := readWM_ok hev hbk
 have cRX := jH (fun w' (h : Below w.heap.size w w') => mread_any (wM m.val) (Nat.le_trans hle (by decide)) w' (hVr.out w' h))
 have hrdX := (readWM_wf (startS_wf (l := wM m.val) (Nat.le_trans hle (by decide)))).2
 unfold MsgRP at cRX
 rw [hrok] at hrdX
 simp only [hrok] at cRX
 dsimp only at cRX hrdX
 have hrdXH := jH hrdX
 have hcutA := jH (fun (k : Nat) (h : k < (wM m.val).length) => readWM_cut hev hbk (Nat.le_trans hle (by decide)) h)
 have hlX : Hid ((wM m.val).length ≤ 4000000) := jH (Nat.le_trans hle (by decide))
 rw [hbn, hE] at cW
 clear hbk hwl hle hm hg1 hl2 hi hav hN hRw hfw hbd hE hbn hrok hev hrdX
 generalize wM m.val = XL at *
 obtain ⟨z, k, hz, hk, hkl, wl2, wk1, wk2, hn0, hn0b, hk0, hk1, hk2⟩ := cut_facts cut XL.length hpos hlX.out
 have wl : IntKind.u64.wrap (((bs XL).size : Nat) : Int) = (XL.length : Int) := by rw [jG]; exact wl2
 have hct : (bs XL).extract 0 k = bs (XL.take k) := by
  have h1 := bs_mid XL 0 k (by omega)
  rw [Nat.zero_add] at h1
  exact h1
 have htl : (XL.take k).length ≤ 4000000 := Nat.le_trans (List.length_take_le _ _) (Nat.le_trans hk2 hlX.out)
 have cRY := jH (fun w' (h : Below w.heap.size w w') => mread_any (XL.take k) htl w' (hVr.out w' h))
 unfold MsgRP at cRY
 have hcutH := jH (hcutA.out k hkl)
 have hbsz : (bs XL).size = XL.length := jG _
 have hXn : ¬ XL = [] := List.length_pos_iff.1 hpos
 clear hpos hkl hcutA htl
 go_enter Tryz.func5, Tryz.ntmps5
 go_upto_region 1 with (fail)
 clear hW
 go_wp2_with fail
 refine cK.out.mono ?_
 rintro e w1 ⟨rfl, hb1⟩
 go_upto_region 3 with (fail)
 refine wp_region_list ?_
 refine wpList_step (fun K hK => ?_)
 rw [if_pos (by kernel_rfl)]
 go_simp
 refine hK _ _ ?_
 clear hK K
 refine wpList_load_midG (by kernel_rfl) _ _ rfl (w.heap.size) 11 rfl ↑m.c _ (hmid.out _ hb1) Tryz.underlying34 rfl (by kernel_rfl) ?_
 (try simp only [Act.put, List.setIfInBounds_toArray, List.set_cons_zero, List.set_cons_succ])
 go_wp2_with fail
 refine (g1.out _ (hWr.out _ hb1)).mono ?_
 rintro e w2 ⟨rfl, hb2⟩
 replace hb2 := hb1.trans (hb2.mono hb1.size)
 go_upto_region 5 with (fail)
 clear hd g1 cK
 refine wp_region_list ?_
 refine wpList_loadG (by kernel_rfl) _ _ rfl (w.heap.size) rfl 38 ↑m (0, 0) _ (hAt.out _ hb2) Tryz.underlying38 rfl (by kernel_rfl) ?_
 (try simp only [Act.put, List.setIfInBounds_toArray, List.set_cons_zero, List.set_cons_succ])
 go_wp2_with fail
 refine (cTo.out _ (hWr.out _ hb2)).mono ?_
 rintro e w3 hP
 obtain ⟨n, rfl, hnv, hns, hb3⟩ := hP.sml (hSm.out _ (hWr.out _ hb2))
 replace hb3 := hb2.trans (hb3.mono hb2.size)
 replace hnv := jH hnv
 replace hns := jH hns
 clear hP hb2 cTo
 go_wp2_with fail
 refine (cW.out n _ hns.out hnv.out (hWr.out _ hb3)).mono ?_
 rintro e w4 ⟨rfl, hb4⟩
 replace hb4 := hb3.trans (hb4.mono hb3.size)
 clear hns hnv hb3 cW
 go_upto_region 9 with (fail)
 refine wp_region_list ?_
 refine wpList_step (fun K hK => ?_)
 rw [if_pos (by kernel_rfl)]
 go_simp
 refine hK _ _ ?_
 clear hK K
 refine wpList_step (fun K hK => ?_)
 rw [if_pos (by kernel_rfl)]
 go_simp
 refine (cRX.out _ (hWr.out _ hb4)).mono ?_
 rintro e w5 ⟨n1, ev1, rfl, hv1, he1, ho1, hb5⟩
 refine hK _ _ ?_
 clear hK K
 obtain ⟨-, rfl⟩ := he1.resolve_right (fun h9 => h9.1 rfl)
 replace hb5 := hb4.trans (hb5.mono hb4.size)
 have hk1' := (Mm.sml_of ho1 hv1 hrdXH.out).2
 have hok1 := ho1.ok
 have hv1H := jH hv1
 clear hb4 cRX ho1 he1 hv1
 refine wpList_step (fun K hK => ?_)
 rw [if_pos (by kernel_rfl)]
 go_simp
 refine hK _ _ ?_
 clear hK K
 refine wpList_step (fun K hK => ?_)
 rw [if_pos (by kernel_rfl)]
 go_simp
 refine hK _ _ ?_
 clear hK K
 refine wpList_step (fun K hK => ?_)
 rw [if_pos (by kernel_rfl)]
 go_simp
 refine hK _ _ ?_
 clear hK K
 refine wpList_step (fun K hK => ?_)
 rw [if_pos (by kernel_rfl)]
 go_simp
 refine hK _ _ ?_
 clear hK K
 refine wpList_store_row rfl _ _ _ rfl (w5.heap.size) ↑n1 rfl rfl 50 ↑Zm.mk (jT _ _ rfl) (by kernel_rfl) rfl (by simp [Value.oneCell']) ?_
 have hsr := World.setRow_alloc_new w5 ↑Zm.mk ↑n1 50
 rw [hsr]
 clear hsr
 have hvn : Below w5.heap.size w5 (w5.alloc (.cells ↑n1 50)) := (Below.refl _ w5).alloc (Nat.le_refl _) _
 have q1b : (w5.alloc (.cells ↑n1 50)).heap[w5.heap.size]? = some (.cells ↑n1 50 (0, 0)) := jT _ _ rfl
 generalize (w5.alloc (.cells ↑n1 50)) = w6 at hvn q1b ⊢
 have hb6 := hb5.trans (hvn.mono hb5.size)
 replace hok1 := (hok1.below hvn).more hvn.size
 generalize w5.heap.size = q1 at q1b ⊢
 have hok1r := jH (fun w' (h : Below w6.heap.size w6 w') => (hok1.below h).more h.size)
 have hq1r := jH (fun w' (h : Below w6.heap.size w6 w') => jD q1b h)
 have hb6r := jH (fun w' (h : Below w6.heap.size w6 w') => hb6.trans (h.mono hb6.size))
 clear hb5 hvn q1b hok1 hb6
 (try simp only [Act.put])
 go_upto_region 10 with (fail)
 refine wp_region_list ?_
 refine wpList_step (fun K hK => ?_)
 rw [if_pos (by kernel_rfl)]
 go_simp
 refine hK _ _ ?_
 clear hK K
 refine wpList_step (fun K hK => ?_)
 rw [if_pos (by kernel_rfl)]
 go_simp
 refine hK _ _ ?_
 clear hK K
 refine wpList_step (fun K hK => ?_)
 rw [if_pos (by kernel_rfl)]
 go_simp
 refine hK _ _ ?_
 clear hK K
 refine wpList_step (fun K hK => ?_)
 rw [if_pos (by kernel_rfl)]
 go_simp
 refine hK _ _ ?_
 clear hK K
 refine wpList_step (fun K hK => ?_)
 rw [if_pos (by kernel_rfl)]
 go_simp
 refine hK _ _ ?_
 clear hK K
 refine wpList_step (fun K hK => ?_)
 rw [if_pos (by kernel_rfl)]
 go_simp
 refine hK _ _ ?_
 clear hK K
 refine wpList_step (fun K hK => ?_)
 rw [if_pos (by kernel_rfl)]
 go_simp
 refine hK _ _ ?_
 clear hK K
 refine wpList_step (fun K hK => ?_)
 rw [if_pos (by kernel_rfl)]
 go_simp
 refine hK _ _ ?_
 clear hK K
 refine wpList_step (fun K hK => ?_)
 rw [if_pos (by kernel_rfl)]
 go_simp
 refine hK _ _ ?_
 clear hK K
 refine wpList_step (fun K hK => ?_)
 rw [if_pos (by kernel_rfl)]
 go_simp
 refine (cRY.out _ (hWr.out _ (hb6r.out _ (Below.refl _ _)))).mono ?_
 rintro e w7 ⟨n2, ev2, rfl, -, he2, -, hb7⟩
 refine hK _ _ ?_
 clear hK K
 obtain ⟨hne2, F2, rfl, hF2⟩ := he2.resolve_left (fun h9 => hcutH.out h9.1)
 clear he2 hne2 hF2 cRY hcutH
 refine wpList_step (fun K hK => ?_)
 rw [if_pos (by kernel_rfl)]
 go_simp
 refine hK _ _ ?_
 clear hK K
 refine wpList_step (fun K hK => ?_)
 rw [if_pos (by kernel_rfl)]
 go_simp
 refine hK _ _ ?_
 clear hK K
 refine wpList_step (fun K hK => ?_)
 rw [if_pos (by kernel_rfl)]
 go_simp
 refine hK _ _ ?_
 clear hK K
 refine wpList_step (fun K hK => ?_)
 rw [if_pos (by kernel_rfl)]
 go_simp
 refine hK _ _ ?_
 clear hK K
 refine wpList_store_row rfl _ _ _ rfl (w7.heap.size) ↑n2 rfl rfl 50 ↑Zm.mk (jT _ _ rfl) (by kernel_rfl) rfl (by simp [Value.oneCell']) ?_
 have hsr := World.setRow_alloc_new w7 ↑Zm.mk ↑n2 50
 rw [hsr]
 clear hsr
 have hvn : Below w7.heap.size w7 (w7.alloc (.cells ↑n2 50)) := (Below.refl _ w7).alloc (Nat.le_refl _) _
 have q2b : (w7.alloc (.cells ↑n2 50)).heap[w7.heap.size]? = some (.cells ↑n2 50 (0, 0)) := jT _ _ rfl
 generalize (w7.alloc (.cells ↑n2 50)) = w8 at hvn q2b ⊢
 have hb8 := hb7.trans (hvn.mono hb7.size)
 clear q2b hvn hb7
 generalize w7.heap.size = q2 at ⊢
 have h6 := jH (fun w' (h : KQ w8.heap.size w8 w') => hb8.trans (h.1.mono hb8.size))
 have hr1 := jH (fun w' (h : KQ w8.heap.size w8 w') => hq1r.out w' (h6.out w' h))
 have hr2 := jH (fun w' (h : KQ w8.heap.size w8 w') => hAt.out w' (hb6r.out w' (h6.out w' h)))
 have hr3 := jH (fun w' (h : KQ w8.heap.size w8 w') => hb6r.out w' (h6.out w' h))
 have hr4 := jH (fun w' (h : KQ w8.heap.size w8 w') => hok1r.out w' (h6.out w' h))
 clear hb8
 (try simp only [Act.put])
 go_upto_region 11 with (fail)
 refine jW (fun w' => KQ w8.heap.size w8 w') (fun _ => True) 99 (by kernel_rfl) (kq (Below.refl _ _).drew) trivial ?_
 intro hcl
 have hC' : KQ w8.heap.size w8 w8.drew := kq (Below.refl _ _).drew
 have hC := hC'
 clear hC'
 have hE := trivial
 (refine mT 0 ?_ rfl hcl hC hE ?_ ?_; rotate_left; (· (intro w hSw; (try dsimp only at hSw); go_simp; (try with_reducible rfl))); clear hcl; intro hcl; (try simp only [Act.put, List.getElem_toArray, List.getElem_cons_zero, List.setIfInBounds_toArray, List.set_cons_zero, List.set_cons_succ]))
 (refine mT 1 ?_ rfl hcl hC hE ?_ ?_; rotate_left; (· (intro w hSw; (try dsimp only at hSw); go_simp; (try with_reducible rfl))); clear hcl; intro hcl; (try simp only [Act.put, nA, nB, nC, nD, nE, nF]))
 (refine mT 2 ?_ rfl hcl hC hE ?_ ?_; rotate_left; (· (intro w hSw; (try dsimp only at hSw); go_simp; (try with_reducible rfl))); clear hcl; intro hcl; (try simp only [Act.put, nA, nB, nC, nD, nE, nF]))
 refine wpM_take (i := 3) (v := .agg ↑n1) rfl (by kernel_rfl) (by kernel_rfl) (by kernel_rfl) (by decide) (fun _ _ _ h => h) hcl hC (fun _ => hE) (yields_row (by kernel_rfl) rfl (q1) rfl 50 ↑n1 (0, 0) _ hr1.out Tryz.underlying50 rfl (by kernel_rfl)) ?_
 clear hcl
 intro hcl
 (try simp only [Act.put, nA, nB, nC, nD, nE, nF])
 refine wpM_take (i := 5) (v := .agg ↑m) rfl (by kernel_rfl) (by kernel_rfl) (by kernel_rfl) (by decide) (fun _ _ _ h => h) hcl hC (fun _ => hE) (yields_row (by kernel_rfl) rfl (w.heap.size) rfl 38 ↑m (0, 0) _ hr2.out Tryz.underlying38 rfl (by kernel_rfl)) ?_
 clear hcl
 intro hcl
 (try simp only [Act.put, nA, nB, nC, nD, nE, nF])
 refine jK (i := 4) rfl (by kernel_rfl) hcl (fun K hK => ?_)
 go_simp
 refine (cFr.out n1 _ (hr4.out _ hC) hk1').mono ?_
 rintro e v1 ⟨n3, rfl, hv3, hok3, hbv1⟩
 have hC' := jP hC (Nat.le_refl _) hbv1
 refine hK.out _ _ hC' trivial ?_
 clear hK K
 clear hcl
 intro hcl
 (try simp only)
 clear hC
 have hC := hC'
 clear hC'
 refine jK (i := 6) rfl (by kernel_rfl) hcl (fun K hK => ?_)
 go_simp
 refine (cSa.out n3 _ hok3 (hv3.trans hv1H.out) (hWr.out _ (hr3.out _ hC))).mono ?_
 rintro e v2 ⟨rfl, hbv2⟩
 clear hok3 hv3 hbv1
 have hC' := jP hC (Nat.le_refl _) hbv2
 refine hK.out _ _ hC' trivial ?_
 clear hK K
 clear hcl
 intro hcl
 (try simp only [Act.put, nA, nB, nC, nD, nE, nF])
 clear hC
 have hC := hC'
 clear hC'
 (refine mT 7 ?_ rfl hcl hC hE ?_ ?_; rotate_left; (· (intro w hSw; (try dsimp only at hSw); go_simp; (try with_reducible rfl))); clear hcl; intro hcl; (try simp only [Act.put, nA, nB, nC, nD, nE, nF]))
 (refine mT 8 ?_ rfl hcl hC hE ?_ ?_; rotate_left; (· (intro w hSw; (try dsimp only at hSw); go_simp; (try with_reducible rfl))); clear hcl; intro hcl; (try simp only [Act.put, nA, nB, nC, nD, nE, nF]))
 (refine mT 9 ?_ rfl hcl hC hE ?_ ?_; rotate_left; (· (intro w hSw; (try dsimp only at hSw); go_simp; (try with_reducible rfl))); clear hcl; intro hcl; (try simp only [Act.put, nA, nB, nC, nD, nE, nF]))
 (refine mT 10 ?_ rfl hcl hC hE ?_ ?_; rotate_left; (· (intro w hSw; (try dsimp only at hSw); go_simp; (try with_reducible rfl))); clear hcl; intro hcl; (try simp only [Act.put, nA, nB, nC, nD, nE, nF]))
 (refine mT 11 ?_ rfl hcl hC hE ?_ ?_; rotate_left; (· (intro w hSw; (try dsimp only at hSw); go_simp; (try with_reducible rfl))); clear hcl; intro hcl; (try simp only [Act.put, nA, nB, nC, nD, nE, nF]))
 (refine mT 12 ?_ rfl hcl hC hE ?_ ?_; rotate_left; (· (intro w hSw; (try dsimp only at hSw); go_simp; (try with_reducible rfl))); clear hcl; intro hcl; (try simp only [Act.put, nA, nB, nC, nD, nE, nF]))
 refine wpM_done (by kernel_rfl) ?_
 clear hcl
 (try simp only [Act.put, nA, nB, nC, nD, nE, nF])
 have hbx := hr3.out _ hC
 clear hC hE hr1 hr2 hr3 hr4 h6 hbv2
 go_upto_region 13 with (fail)
 refine wp_region_list ?_
 refine wpList_step (fun K hK => ?_)
 rw [if_pos (by kernel_rfl)]
 go_simp
 refine hK _ _ ?_
 clear hK K
 refine wpList_step (fun K hK => ?_)
 rw [if_pos (by kernel_rfl)]
 go_simp
 refine (cR.out _ (hWr.out _ hbx)).mono ?_
 rintro e wp ⟨n, ev, rfl, hv, he, ho, hbp⟩
 refine hK _ _ ?_
 clear hK K
 replace hbp := hbx.trans (hbp.mono hbx.size)
 have hk := (Mm.sml_of ho hv hRdH.out).2
 have hwri : n.Wri wp := Mm.wri_of ho hv hRdH.out
 clear ho
 refine wpList_step (fun K hK => ?_)
 rw [if_pos (by kernel_rfl)]
 go_simp
 refine hK _ _ ?_
 clear hK K
 refine wpList_step (fun K hK => ?_)
 rw [if_pos (by kernel_rfl)]
 go_simp
 refine hK _ _ ?_
 clear hK K
 refine wpList_step (fun K hK => ?_)
 rw [if_pos (by kernel_rfl)]
 go_simp
 refine hK _ _ ?_
 clear hK K
 refine wpList_step (fun K hK => ?_)
 rw [if_pos (by kernel_rfl)]
 go_simp
 refine hK _ _ ?_
 clear hK K
 refine wpList_store_row rfl _ _ _ rfl (wp.heap.size) ↑n rfl rfl 50 ↑Zm.mk (jT _ _ rfl) (by kernel_rfl) rfl (by simp [Value.oneCell']) ?_
 have hsr := World.setRow_alloc_new wp ↑Zm.mk ↑n 50
 rw [hsr]
 clear hsr
 have hvn : Below wp.heap.size wp (wp.alloc (.cells ↑n 50)) := (Below.refl _ wp).alloc (Nat.le_refl _) _
 have qb : (wp.alloc (.cells ↑n 50)).heap[wp.heap.size]? = some (.cells ↑n 50 (0, 0)) := jT _ _ rfl
 generalize (wp.alloc (.cells ↑n 50)) = wq at hvn qb ⊢
 have hbq := hbp.trans (hvn.mono hbp.size)
 replace hwri := hwri.below hvn
 replace he := he.below hvn
 generalize wp.heap.size = q at qb ⊢
 clear hvn hbp
 (try simp only [Act.put])
 by_cases hf : T.fe = 0
 ·
  obtain ⟨_, rfl⟩ := he.resolve_right (fun h9 => h9.1 hf)
  have cY := jH (cF.out hf n wq hwri hv (hWr.out _ hbq))
  have hqbH := jH qb
  clear he qb hwri hv
  go_upto_region 16 with (fail)
  refine wp_region_list ?_
  refine wpList_loadG (by kernel_rfl) _ _ rfl (q) rfl 50 ↑n (0, 0) _ hqbH.out Tryz.underlying50 rfl (by kernel_rfl) ?_
  (try simp only [Act.put, List.setIfInBounds_toArray, List.set_cons_zero, List.set_cons_succ])
  go_wp2_with fail
  refine cY.out.mono ?_
  rintro e wr ⟨rfl, hbr⟩
  have hG := hWr.out _ (hbq.trans (hbr.mono hbq.size))
  go_wp2
  go_ret
  exact ⟨rfl, hG⟩
 ·
  obtain ⟨hne, F, rfl, -⟩ := he.resolve_left (fun h9 => hf h9.1)
  have cY := jH (from25_any n wq hwri.c.ok (by omega))
  have hzv := hv.trans (hZ.out hf)
  have hqbH := jH qb
  clear he qb hwri hv
  go_upto_region 15 with (fail)
  refine wp_region_list ?_
  refine wpList_loadG (by kernel_rfl) _ _ rfl (q) rfl 50 ↑n (0, 0) _ hqbH.out Tryz.underlying50 rfl (by kernel_rfl) ?_
  refine wpList_step (fun K hK => ?_)
  rw [if_pos (by kernel_rfl)]
  go_simp
  refine (cY.out).mono ?_
  rintro e wr ⟨n3, rfl, hv3, hok3, hbr⟩
  refine hK _ _ ?_
  clear hK K
  refine wpList_buildK rfl _ _ rfl (cells := ↑Zm.mk) (by kernel_rfl) ?_
  rw [z_row]
  have cS := rsameM_any n3 zMm wr hok3 (zCm_sml wr).ok
  rw [sameAll_val (hv3.trans hzv)] at cS
  have cSH := jH cS
  have hbs := hbq.trans (hbr.mono hbq.size)
  clear cS hbr cY
  (try simp only [Act.put, List.setIfInBounds_toArray, List.set_cons_zero, List.set_cons_succ])
  go_wp2_with fail
  refine cSH.out.mono ?_
  rintro e wt ⟨rfl, hbt⟩
  have hG := hWr.out _ (hbs.trans (hbt.mono hbs.size))
  go_wp2
  go_ret
  exact ⟨rfl, hG⟩
end Go.Proofs.YtfhandglpjnonaaGreatDoor
