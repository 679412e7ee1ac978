/- The law's own trial of the program: works. -/
import Derived.Test.YtfhandglpjnonaaGreatDoorN45
import Derived.Test.YtfhandglpjnonaaGreatDoorAs
import Derived.Test.YtfhandglpjnonaaGreatDoorQf
namespace Go.Proofs.YtfhandglpjnonaaGreatDoor
open Go.RowKit
def m0 : Mm := ⟨6, 1, 2, 0, (1, 1), (1, 2), 0, (0, 0), zCm, 0, zeroQ⟩
def cK (k x y s : Int) : Cm := ⟨k, (x, y), zeroQ, false, none, 0, 0, [], s, 0, none, 0, 0, [], zeroQ⟩
theorem m0_err : msgErr m0 = 0 := by kernel_rfl
theorem zMm_err : msgErr zMm = 5 := by kernel_rfl
theorem c0_err : cmdErr (cK 1 1 1 0).val = 0 := by kernel_rfl
theorem c4_err : cmdErr (cK 4 0 0 0).val = 5 := by kernel_rfl
theorem c01_same : sameCv (cK 1 1 1 0).val (cK 1 1 1 1).val = false := by kernel_rfl
theorem cK_ok (k x y s : Int) (w : World) (B : Nat) : (cK k x y s).Ok w B := ⟨RdE.nil_, Rd.nil_, Nat.zero_le _, Nat.zero_le _, fun _p hp => (nomatch hp)⟩
theorem cK_fit (k s : Int) {x y : Int} (h : Im.wf (x, y)) (w : World) : (cK k x y s).Fit w := ⟨cK_ok _ _ _ _ _ _, fun _p hp => (nomatch hp), h, zeroQ_wf, zeroQ_wf⟩
theorem zCm_sml (w : World) : zCm.Sml w := ⟨⟨RdE.nil_, Rd.nil_, Nat.zero_le _, Nat.zero_le _, fun _p hp => (nomatch hp)⟩, zeroCv_sml⟩
theorem m0_sml (w : World) : m0.Sml w := ⟨zCm_sml w, ⟨by decide, by decide⟩, zeroQ_wf⟩
theorem m0_nn : m0.Nn := ⟨by decide, by decide, by decide, by decide⟩
theorem m0_bk : m0.val.Bk := Mm.bk m0_nn zeroQ_wf zeroCv_sml
theorem zMm_fit (w : World) : zMm.Fit w := ⟨(zCm_sml w).fit, ⟨by decide, by decide⟩, zeroQ_wf⟩
theorem m0_len : (wM m0.val).length ≤ 1000 := of_decide_eq_true (by kernel_rfl)
theorem m0_wm : wMsg m0 = wM m0.val := by unfold wMsg; rw [m0_err]; rfl
theorem m0_row : (#[.int .i64 6, .int .i64 1, .int .i64 2, .int .u32 0, .int .i64 1, .int .u32 1, .int .u32 1, .int .i64 2, .int .i64 0, .int .u32 0, .int .i64 0, .int .i64 0, .int .i64 0, .int .u32 0, .int .u32 0, .int .u32 0, .int .u32 0, .int .u32 0, .int .u32 0, .int .u32 0, .int .u32 0, .int .u32 0, .bool false, .slice none 0 0, .int .i64 0, .int .i64 0, .slice none 0 0, .int .u32 0, .int .u32 0, .int .u32 0, .int .u32 0, .int .u32 0, .int .u32 0, .int .u32 0, .int .u32 0, .int .u32 0, .int .u32 0, .int .u32 0, .int .u32 0, .int .u32 0, .int .u32 0, .int .u32 0, .int .u32 0, .int .u32 0] : Array Value) = ↑m0 := by with_unfolding_all rfl
theorem c0_row : (#[.int .i64 1, .int .i64 1, .int .u32 1, .int .u32 0, .int .u32 0, .int .u32 0, .int .u32 0, .int .u32 0, .int .u32 0, .int .u32 0, .int .u32 0, .bool false, .slice none 0 0, .int .i64 0, .int .i64 0, .slice none 0 0, .int .u32 0, .int .u32 0, .int .u32 0, .int .u32 0, .int .u32 0, .int .u32 0, .int .u32 0, .int .u32 0] : Array Value) = ↑(cK 1 1 1 0) := by with_unfolding_all rfl
theorem c1_row : ((cK 1 1 1 0) : Array Value).setIfInBounds 13 (.int .i64 1) = ↑(cK 1 1 1 1) := by with_unfolding_all rfl
theorem c4_row : (#[.int .i64 4, .int .i64 0, .int .u32 0, .int .u32 0, .int .u32 0, .int .u32 0, .int .u32 0, .int .u32 0, .int .u32 0, .int .u32 0, .int .u32 0, .bool false, .slice none 0 0, .int .i64 0, .int .i64 0, .slice none 0 0, .int .u32 0, .int .u32 0, .int .u32 0, .int .u32 0, .int .u32 0, .int .u32 0, .int .u32 0, .int .u32 0] : Array Value) = ↑(cK 4 0 0 0) := by with_unfolding_all rfl
theorem z_row : (↑Zm.mk : Array Value) = ↑zMm := by with_unfolding_all rfl
set_option maxRecDepth 100000 in
set_option maxHeartbeats 16000000 in
theorem worksI_any (w : World) (hVM : VarM w) (hVO : VarOk w) : Calls Tryz.prog 24 #[] w fun e w' => e = .returned (.bool true) ∧ Below w.heap.size w w' := by
 have hVr := jH (fun w' (h : Below w.heap.size w w') => hVM.below h hVM.lt)
 have hOr := jH (fun w' (h : Below w.heap.size w w') => hVO.below h hVO.lt)
 have hme : msgErrV m0.val = 0 := by rw [← msgErr_eq]; exact m0_err
 have hok := readWM_ok hme m0_bk
 have hmo := readWM_more hme m0_bk 120 []
 have hxl := m0_len
 have cW : Hid (∀ w', Below w.heap.size w w' → Calls Tryz.prog 15 #[.agg ↑m0] w' fun e w'' => e = .returned (.tuple #[.string (bs (wM m0.val)), .int .i64 0]) ∧ Below w'.heap.size w' w'') := jH (fun w' h => by
  have h1 := mwrite_any m0 w' (m0_sml w').wri m0_nn (hVr.out w' h)
  rw [m0_wm, m0_err] at h1
  exact h1)
 have cR := jH (fun w' (h : Below w.heap.size w w') => mread_any (wM m0.val) (by omega) w' (hVr.out w' h))
 have cS := jH (fun w' (h : Below w.heap.size w w') => mread_any (wM m0.val ++ [120]) (by rw [List.length_append]; simp; omega) w' (hVr.out w' h))
 have hrd := (readWM_wf (startS_wf (l := wM m0.val) (by omega))).2
 unfold MsgRP at cR cS
 rw [hok] at hrd
 simp only [hok, hmo] at cR cS
 dsimp only at cR cS hrd
 have hrdH := jH hrd
 have hcat : bs (wM m0.val) ++ ({ data := #[120] } : ByteArray) = bs (wM m0.val ++ [120]) := by rw [show ({ data := #[120] } : ByteArray) = bs [120] from rfl, jM]
 have hbz : (bs (wM m0.val)).size = (wM m0.val).length := jG _
 have hv0 : Hid (∀ n : Mm, n.val = m0.val → n.val = m0.val) := jH (fun _ h => h)
 obtain ⟨XL, hXL⟩ : ∃ x, wM m0.val = x := ⟨_, rfl⟩
 rw [hXL] at cW cR cS hcat hbz hxl
 have hsz : ¬ 9223372036854775807 < XL.length + 1 := by omega
 clear hme hok hmo hXL hVM hVO hrd hv0
 go_enter Tryz.func24, Tryz.ntmps24
 go_upto_region 1 with (fail)
 refine wp_region_list ?_
 refine wpList_step (fun K hK => ?_)
 rw [if_pos (by kernel_rfl)]
 go_simp
 refine hK _ _ ?_
 clear hK K
 refine wpList_step (fun K hK => ?_)
 rw [if_pos (by kernel_rfl)]
 go_simp
 refine hK _ _ ?_
 clear hK K
 refine wpList_buildK rfl _ _ rfl (cells := #[.int .i64 6, .int .i64 1, .int .i64 2, .int .u32 0, .int .i64 1, .int .u32 1, .int .u32 1, .int .i64 2, .int .i64 0, .int .u32 0, .int .i64 0, .int .i64 0, .int .i64 0, .int .u32 0, .int .u32 0, .int .u32 0, .int .u32 0, .int .u32 0, .int .u32 0, .int .u32 0, .int .u32 0, .int .u32 0, .bool false, .slice none 0 0, .int .i64 0, .int .i64 0, .slice none 0 0, .int .u32 0, .int .u32 0, .int .u32 0, .int .u32 0, .int .u32 0, .int .u32 0, .int .u32 0, .int .u32 0, .int .u32 0, .int .u32 0, .int .u32 0, .int .u32 0, .int .u32 0, .int .u32 0, .int .u32 0, .int .u32 0, .int .u32 0]) (by kernel_rfl) ?_
 refine wpList_step (fun K hK => ?_)
 rw [if_pos (by kernel_rfl)]
 go_simp
 refine hK _ _ ?_
 clear hK K
 refine wpList_store_row rfl _ _ _ rfl (w.heap.size) #[.int .i64 6, .int .i64 1, .int .i64 2, .int .u32 0, .int .i64 1, .int .u32 1, .int .u32 1, .int .i64 2, .int .i64 0, .int .u32 0, .int .i64 0, .int .i64 0, .int .i64 0, .int .u32 0, .int .u32 0, .int .u32 0, .int .u32 0, .int .u32 0, .int .u32 0, .int .u32 0, .int .u32 0, .int .u32 0, .bool false, .slice none 0 0, .int .i64 0, .int .i64 0, .slice none 0 0, .int .u32 0, .int .u32 0, .int .u32 0, .int .u32 0, .int .u32 0, .int .u32 0, .int .u32 0, .int .u32 0, .int .u32 0, .int .u32 0, .int .u32 0, .int .u32 0, .int .u32 0, .int .u32 0, .int .u32 0, .int .u32 0, .int .u32 0] rfl rfl 50 ↑Zm.mk (jT _ _ rfl) (by kernel_rfl) rfl (by simp [Value.oneCell']) ?_
 have hsr := World.setRow_alloc_new w ↑Zm.mk #[.int .i64 6, .int .i64 1, .int .i64 2, .int .u32 0, .int .i64 1, .int .u32 1, .int .u32 1, .int .i64 2, .int .i64 0, .int .u32 0, .int .i64 0, .int .i64 0, .int .i64 0, .int .u32 0, .int .u32 0, .int .u32 0, .int .u32 0, .int .u32 0, .int .u32 0, .int .u32 0, .int .u32 0, .int .u32 0, .bool false, .slice none 0 0, .int .i64 0, .int .i64 0, .slice none 0 0, .int .u32 0, .int .u32 0, .int .u32 0, .int .u32 0, .int .u32 0, .int .u32 0, .int .u32 0, .int .u32 0, .int .u32 0, .int .u32 0, .int .u32 0, .int .u32 0, .int .u32 0, .int .u32 0, .int .u32 0, .int .u32 0, .int .u32 0] 50
 rw [hsr]
 clear hsr
 rw [m0_row]
 have hb1 : Below w.heap.size w (w.alloc (.cells ↑m0 50)) := (Below.refl _ w).alloc (Nat.le_refl _) _
 have hp1 : (w.alloc (.cells ↑m0 50)).heap[w.heap.size]? = some (.cells ↑m0 50 (0, 0)) := jT _ _ rfl
 generalize (w.alloc (.cells ↑m0 50)) = w1 at hb1 hp1 ⊢
 have hp1r := jH (fun w' (h : Below w1.heap.size w1 w') => jD hp1 h)
 have hb1r := jH (fun w' (h : Below w1.heap.size w1 w') => hb1.trans (h.mono hb1.size))
 generalize w.heap.size = p1 at hp1r ⊢
 clear hp1 hb1
 (try simp only [Act.put])
 go_upto_region 2 with (fail)
 refine wp_region_list ?_
 refine wpList_loadG (by kernel_rfl) _ _ rfl (p1) rfl 50 ↑m0 (0, 0) _ (hp1r.out _ (Below.refl _ _)) Tryz.underlying50 rfl (by kernel_rfl) ?_
 (try simp only [Act.put, List.setIfInBounds_toArray, List.set_cons_zero, List.set_cons_succ])
 go_wp2_with fail
 refine (cW.out _ (hb1r.out _ (Below.refl _ _))).mono ?_
 rintro e w2 ⟨rfl, hb2⟩
 clear cW
 go_upto_region 3 with (fail)
 refine wp_region_list ?_
 refine wpList_step (fun K hK => ?_)
 rw [if_pos (by kernel_rfl)]
 go_simp
 refine hK _ _ ?_
 clear hK K
 refine wpList_step (fun K hK => ?_)
 rw [if_pos (by kernel_rfl)]
 go_simp
 refine (cR.out _ (hb1r.out _ hb2)).mono ?_
 rintro e w3 ⟨n1, ev, rfl, hv1, he1, ho1, hb3⟩
 obtain ⟨-, rfl⟩ := he1.resolve_right (fun h9 => h9.1 rfl)
 refine hK _ _ ?_
 clear hK K
 replace hb3 := hb2.trans (hb3.mono hb2.size)
 have hk1 := (Mm.sml_of ho1 hv1 hrdH.out).2
 have hok1 := ho1.ok
 have hv1H := jH hv1
 clear hb2 cR ho1 he1 hv1
 refine wpList_step (fun K hK => ?_)
 rw [if_pos (by kernel_rfl)]
 go_simp
 refine hK _ _ ?_
 clear hK K
 refine wpList_step (fun K hK => ?_)
 rw [if_pos (by kernel_rfl)]
 go_simp
 refine hK _ _ ?_
 clear hK K
 refine wpList_step (fun K hK => ?_)
 rw [if_pos (by kernel_rfl)]
 go_simp
 refine hK _ _ ?_
 clear hK K
 refine wpList_step (fun K hK => ?_)
 rw [if_pos (by kernel_rfl)]
 go_simp
 refine hK _ _ ?_
 clear hK K
 refine wpList_store_row rfl _ _ _ rfl (w3.heap.size) ↑n1 rfl rfl 50 ↑Zm.mk (jT _ _ rfl) (by kernel_rfl) rfl (by simp [Value.oneCell']) ?_
 have hsr := World.setRow_alloc_new w3 ↑Zm.mk ↑n1 50
 rw [hsr]
 clear hsr
 have hv4 : Below w3.heap.size w3 (w3.alloc (.cells ↑n1 50)) := (Below.refl _ w3).alloc (Nat.le_refl _) _
 have hq1 : (w3.alloc (.cells ↑n1 50)).heap[w3.heap.size]? = some (.cells ↑n1 50 (0, 0)) := jT _ _ rfl
 generalize (w3.alloc (.cells ↑n1 50)) = w4 at hv4 hq1 ⊢
 have hb4 := hb3.trans (hv4.mono hb3.size)
 replace hok1 := (hok1.below hv4).more hv4.size
 generalize w3.heap.size = q1 at hq1 ⊢
 have hok1r := jH (fun w' (h : Below w4.heap.size w4 w') => (hok1.below h).more h.size)
 have hq1r := jH (fun w' (h : Below w4.heap.size w4 w') => jD hq1 h)
 have hb4r := jH (fun w' (h : Below w4.heap.size w4 w') => hb4.trans (h.mono hb4.size))
 clear hb3 hv4 hq1 hok1 hb4
 (try simp only [Act.put])
 go_upto_region 4 with (fail)
 refine wp_region_list ?_
 refine wpList_step (fun K hK => ?_)
 rw [if_pos (by kernel_rfl)]
 go_simp
 refine hK _ _ ?_
 clear hK K
 refine wpList_step (fun K hK => ?_)
 rw [if_pos (by kernel_rfl)]
 go_simp
 refine hK _ _ ?_
 clear hK K
 refine wpList_step (fun K hK => ?_)
 rw [if_pos (by kernel_rfl)]
 go_simp
 refine (cS.out _ (hb1r.out _ (hb4r.out _ (Below.refl _ _)))).mono ?_
 rintro e w5 ⟨n2, ev2, rfl, -, he2, -, hb5⟩
 refine hK _ _ ?_
 clear hK K cS
 refine wpList_step (fun K hK => ?_)
 rw [if_pos (by kernel_rfl)]
 go_simp
 refine hK _ _ ?_
 clear hK K
 refine wpList_step (fun K hK => ?_)
 rw [if_pos (by kernel_rfl)]
 go_simp
 refine hK _ _ ?_
 clear hK K
 refine wpList_step (fun K hK => ?_)
 rw [if_pos (by kernel_rfl)]
 go_simp
 refine hK _ _ ?_
 clear hK K
 refine wpList_step (fun K hK => ?_)
 rw [if_pos (by kernel_rfl)]
 go_simp
 refine hK _ _ ?_
 clear hK K
 refine wpList_store_row rfl _ _ _ rfl (w5.heap.size) ↑n2 rfl rfl 50 ↑Zm.mk (jT _ _ rfl) (by kernel_rfl) rfl (by simp [Value.oneCell']) ?_
 have hsr := World.setRow_alloc_new w5 ↑Zm.mk ↑n2 50
 rw [hsr]
 clear hsr
 have hv6 : Below w5.heap.size w5 (w5.alloc (.cells ↑n2 50)) := (Below.refl _ w5).alloc (Nat.le_refl _) _
 generalize (w5.alloc (.cells ↑n2 50)) = w6 at hv6 ⊢
 have hb6 := hb5.trans (hv6.mono hb5.size)
 replace he2 := he2.below hv6
 have he2r := jH (fun w' (h : Below w6.heap.size w6 w') => he2.below h)
 generalize w5.heap.size = q2 at ⊢
 clear hb5 hv6 he2
 (try simp only [Act.put])
 go_upto_region 5 with (fail)
 refine wp_region_list ?_
 refine wpList_step (fun K hK => ?_)
 rw [if_pos (by kernel_rfl)]
 go_simp
 refine hK _ _ ?_
 clear hK K
 refine wpList_step (fun K hK => ?_)
 rw [if_pos (by kernel_rfl)]
 go_simp
 refine hK _ _ ?_
 clear hK K
 refine wpList_buildK rfl _ _ rfl (cells := #[.int .i64 1, .int .i64 1, .int .u32 1, .int .u32 0, .int .u32 0, .int .u32 0, .int .u32 0, .int .u32 0, .int .u32 0, .int .u32 0, .int .u32 0, .bool false, .slice none 0 0, .int .i64 0, .int .i64 0, .slice none 0 0, .int .u32 0, .int .u32 0, .int .u32 0, .int .u32 0, .int .u32 0, .int .u32 0, .int .u32 0, .int .u32 0]) (by kernel_rfl) ?_
 refine wpList_step (fun K hK => ?_)
 rw [if_pos (by kernel_rfl)]
 go_simp
 refine hK _ _ ?_
 clear hK K
 refine wpList_store_row rfl _ _ _ rfl (w6.heap.size) #[.int .i64 1, .int .i64 1, .int .u32 1, .int .u32 0, .int .u32 0, .int .u32 0, .int .u32 0, .int .u32 0, .int .u32 0, .int .u32 0, .int .u32 0, .bool false, .slice none 0 0, .int .i64 0, .int .i64 0, .slice none 0 0, .int .u32 0, .int .u32 0, .int .u32 0, .int .u32 0, .int .u32 0, .int .u32 0, .int .u32 0, .int .u32 0] rfl rfl 47 ↑Zc.mk (jT _ _ rfl) (by kernel_rfl) rfl (by simp [Value.oneCell']) ?_
 have hsr := World.setRow_alloc_new w6 ↑Zc.mk #[.int .i64 1, .int .i64 1, .int .u32 1, .int .u32 0, .int .u32 0, .int .u32 0, .int .u32 0, .int .u32 0, .int .u32 0, .int .u32 0, .int .u32 0, .bool false, .slice none 0 0, .int .i64 0, .int .i64 0, .slice none 0 0, .int .u32 0, .int .u32 0, .int .u32 0, .int .u32 0, .int .u32 0, .int .u32 0, .int .u32 0, .int .u32 0] 47
 rw [hsr]
 clear hsr
 rw [c0_row]
 have hv7 : Below w6.heap.size w6 (w6.alloc (.cells ↑(cK 1 1 1 0) 47)) := (Below.refl _ w6).alloc (Nat.le_refl _) _
 have hk0 : (w6.alloc (.cells ↑(cK 1 1 1 0) 47)).heap[w6.heap.size]? = some (.cells ↑(cK 1 1 1 0) 47 (0, 0)) := jT _ _ rfl
 generalize (w6.alloc (.cells ↑(cK 1 1 1 0) 47)) = w7 at hv7 hk0 ⊢
 have hb7 := hb6.trans (hv7.mono hb6.size)
 generalize hp8 : w6.heap.size = p8 at hk0 ⊢
 (try simp only [Act.put])
 go_upto_region 6 with (fail)
 refine wp_region_list ?_
 refine wpList_loadG (by kernel_rfl) _ _ rfl (p8) rfl 47 ↑(cK 1 1 1 0) (0, 0) _ hk0 Tryz.underlying47 rfl (by kernel_rfl) ?_
 refine wpList_step (fun K hK => ?_)
 rw [if_pos (by kernel_rfl)]
 go_simp
 refine hK _ _ ?_
 clear hK K
 refine wpList_store_row rfl _ _ _ rfl (w7.heap.size) ↑(cK 1 1 1 0) rfl rfl 47 ↑Zc.mk (jT _ _ rfl) (by kernel_rfl) rfl (by simp [Value.oneCell']) ?_
 have hsr := World.setRow_alloc_new w7 ↑Zc.mk ↑(cK 1 1 1 0) 47
 rw [hsr]
 clear hsr
 have hv8 : Below w7.heap.size w7 (w7.alloc (.cells ↑(cK 1 1 1 0) 47)) := (Below.refl _ w7).alloc (Nat.le_refl _) _
 have hk1 : (w7.alloc (.cells ↑(cK 1 1 1 0) 47)).heap[w7.heap.size]? = some (.cells ↑(cK 1 1 1 0) 47 (0, 0)) := jT _ _ rfl
 have hk0' := jD hk0 hv8
 generalize (w7.alloc (.cells ↑(cK 1 1 1 0) 47)) = w8 at hv8 hk1 hk0' ⊢
 have hb8 := hb7.trans (hv8.mono hb7.size)
 have hb8x := hv7.trans (hv8.mono hv7.size)
 have hb1e := hb4r.out _ hb8
 have hz7 := hv7.size
 have hz4 := hb7.size
 have hz1 := (hb4r.out _ (Below.refl _ _)).size
 have hp9w := jB hk0
 generalize hp9 : w7.heap.size = p9 at hk1 hp9w ⊢
 (try simp only [Act.put])
 go_upto_region 7 with (fail)
 have t13 := jA hk1 13
 simp at t13
 have hlk := jB hk1
 have hfk := jE hk1
 have hk2 := jO hk1 13 (.int .i64 1)
 rw [c1_row] at hk2
 have hp89 : p9 ≠ p8 := by omega
 have hk3 : (w8.setCell ⟨p9, 13, none⟩ (.int .i64 1)).heap[p8]? = _ := jX hp89 [.int .i64 1] 13 _ hk0'
 have hb9 : Below w6.heap.size w6 (w8.setCell ⟨p9, 13, none⟩ (.int .i64 1)) := hb8x.setCell (by show w6.heap.size ≤ p9; omega) _
 have hp1e : Below w1.heap.size w1 (w8.setCell ⟨p9, 13, none⟩ (.int .i64 1)) := hb1e.setCell (by show w1.heap.size ≤ p9; omega) _
 have hp4e : Below w4.heap.size w4 (w8.setCell ⟨p9, 13, none⟩ (.int .i64 1)) := hb8.setCell (by show w4.heap.size ≤ p9; omega) _
 go_upto_region 8 with (fail)
 generalize (w8.setCell ⟨p9, 13, none⟩ (.int .i64 1)) = wd at hk2 hk3 hb9 hp1e hp4e ⊢
 clear t13 hlk hfk hk1 hk0'
 have h4 := jH (fun w' (h : Below wd.heap.size wd w') => hp4e.trans (h.mono hp4e.size))
 have h1 := jH (fun w' (h : Below wd.heap.size wd w') => hp1e.trans (h.mono hp1e.size))
 have h6 := jH (fun w' (h : Below wd.heap.size wd w') => hb9.trans (h.mono hb9.size))
 have hr1 := jH (fun w' (h : KQ wd.heap.size wd w') => hp1r.out w' (h1.out w' h.1))
 have hr2 := jH (fun w' (h : KQ wd.heap.size wd w') => hq1r.out w' (h4.out w' h.1))
 have hr3 := jH (fun w' (h : KQ wd.heap.size wd w') => jD hk3 h.1)
 have hr4 := jH (fun w' (h : KQ wd.heap.size wd w') => jD hk2 h.1)
 have hF := jH (fun w' (h : Below wd.heap.size wd w') => hb1r.out w' (h1.out w' h))
 have cF := jH (fun w' (h : Below wd.heap.size wd w') => from25_any n1 w' (hok1r.out w' (h4.out w' h)) (by omega))
 have cG := jH (fun w' => from25_any m0 w' (m0_sml w').c.ok (by decide))
 have cH : Hid (∀ (a b : Mm) w', a.c.Ok w' w'.heap.size → b.c.Ok w' w'.heap.size → a.val = n1.val → b.val = m0.val → Calls Tryz.prog 21 #[.agg ↑a, .agg ↑b] w' fun e w'' => e = .returned (.bool true) ∧ Below w'.heap.size w' w'') := jH (fun a b w' ha hb va vb => by
  have g := rsameM_any a b w' ha hb
  rw [sameAll_val (va.trans (hv1H.out.trans vb.symm))] at g
  exact g)
 have cN := jH (fun w' (h : Below wd.heap.size wd w') => seen_any ev2 (XL.length : Int) 6 w' (hOr.out w' (hF.out w' h)) (he2r.out w' (h6.out w' h)) (Int.natCast_nonneg _) (by omega) (fun h => absurd h (by decide)))
 have c0 : Hid (∀ w', Below w.heap.size w w' → Calls Tryz.prog 10 #[.agg ↑(cK 1 1 1 0)] w' fun e w'' => e = .returned (.int .i64 0) ∧ Below w'.heap.size w' w'') := jH (fun w' h => by
  have g := chkcmd_any (cK 1 1 1 0) w' (cK_fit 1 0 ⟨by decide, by decide⟩ w') (hVr.out w' h)
  rw [c0_err] at g
  exact g)
 have c4 : Hid (∀ w', Below w.heap.size w w' → Calls Tryz.prog 10 #[.agg ↑(cK 4 0 0 0)] w' fun e w'' => e = .returned (.int .i64 5) ∧ Below w'.heap.size w' w'') := jH (fun w' h => by
  have g := chkcmd_any (cK 4 0 0 0) w' (cK_fit 4 0 ⟨by decide, by decide⟩ w') (hVr.out w' h)
  rw [c4_err] at g
  exact g)
 have c5 : Hid (∀ w', Below w.heap.size w w' → Calls Tryz.prog 7 #[.agg ↑zMm] w' fun e w'' => e = .returned (.int .i64 5) ∧ Below w'.heap.size w' w'') := jH (fun w' h => by
  have g := imchk_any zMm w' (zMm_fit w') (hVr.out w' h)
  rw [zMm_err] at g
  exact g)
 have c6 : Hid (∀ w', Calls Tryz.prog 13 #[.agg ↑(cK 1 1 1 0), .agg ↑(cK 1 1 1 1)] w' fun e w'' => e = .returned (.bool false) ∧ Below w'.heap.size w' w'') := jH (fun w' => by
  have g := scmdP_any (cK 1 1 1 0) (cK 1 1 1 1) w' (cK_ok _ _ _ _ _ _) (cK_ok _ _ _ _ _ _)
  rw [c01_same] at g
  exact g)
 clear hp1r hq1r hok1r he2r hb1r hb4r hk2 hk3 hb9 hp1e hp4e h4 h1 h6 hOr hVr hb6 hb7 hb8 hv1H hb8x hb1e hrdH hv7 hv8 hk0 hp8 hp9 hp9w hp89 hz7 hz4 hz1
 refine jW (fun w' => KQ wd.heap.size wd w') (fun _ => True) 99 (by kernel_rfl) (kq (Below.refl _ _).drew) trivial ?_
 intro hcl
 have hC : KQ wd.heap.size wd wd.drew := kq (Below.refl _ _).drew
 have hE := trivial
 (refine mT 0 ?_ rfl hcl hC hE ?_ ?_; rotate_left; (· (intro w hSw; (try dsimp only at hSw); go_simp; (try with_reducible rfl))); clear hcl; intro hcl; (try simp only [Act.put, List.getElem_toArray, List.getElem_cons_zero, List.setIfInBounds_toArray, List.set_cons_zero, List.set_cons_succ]))
 (refine mT 1 ?_ rfl hcl hC hE ?_ ?_; rotate_left; (· (intro w hSw; (try dsimp only at hSw); go_simp; (try with_reducible rfl))); clear hcl; intro hcl; (try simp only [Act.put, nA, nB, nC, nD, nE, nF]))
 (refine mT 2 ?_ rfl hcl hC hE ?_ ?_; rotate_left; (· (intro w hSw; (try dsimp only at hSw); go_simp; (try with_reducible rfl))); clear hcl; intro hcl; (try simp only [Act.put, nA, nB, nC, nD, nE, nF]))
 (refine mT 3 ?_ rfl hcl hC hE ?_ ?_; rotate_left; (· (intro w hSw; (try dsimp only at hSw); go_simp; (try with_reducible rfl))); clear hcl; intro hcl; (try simp only [Act.put, nA, nB, nC, nD, nE, nF]))
 (refine mT 4 ?_ rfl hcl hC hE ?_ ?_; rotate_left; (· (intro w hSw; (try dsimp only at hSw); go_simp; (try with_reducible rfl))); clear hcl; intro hcl; (try simp only [Act.put, nA, nB, nC, nD, nE, nF]))
 (refine mT 5 ?_ rfl hcl hC hE ?_ ?_; rotate_left; (· (intro w hSw; (try dsimp only at hSw); go_simp; (try with_reducible rfl))); clear hcl; intro hcl; (try simp only [Act.put, nA, nB, nC, nD, nE, nF]))
 (refine mT 6 ?_ rfl hcl hC hE ?_ ?_; rotate_left; (· (intro w hSw; (try dsimp only at hSw); go_simp; (try with_reducible rfl))); clear hcl; intro hcl; (try simp only [Act.put, nA, nB, nC, nD, nE, nF]))
 refine wpM_take (i := 7) (v := .agg ↑n1) rfl (by kernel_rfl) (by kernel_rfl) (by kernel_rfl) (by decide) (fun _ _ _ h => h) hcl hC (fun _ => hE) (yields_row (by kernel_rfl) rfl (q1) rfl 50 ↑n1 (0, 0) _ hr2.out Tryz.underlying50 rfl (by kernel_rfl)) ?_
 clear hcl
 intro hcl
 (try simp only [Act.put, nA, nB, nC, nD, nE, nF])
 refine wpM_take (i := 9) (v := .agg ↑m0) rfl (by kernel_rfl) (by kernel_rfl) (by kernel_rfl) (by decide) (fun _ _ _ h => h) hcl hC (fun _ => hE) (yields_row (by kernel_rfl) rfl (p1) rfl 50 ↑m0 (0, 0) _ hr1.out Tryz.underlying50 rfl (by kernel_rfl)) ?_
 clear hcl
 intro hcl
 (try simp only [Act.put, nA, nB, nC, nD, nE, nF])
 refine jK (i := 8) rfl (by kernel_rfl) hcl (fun K hK => ?_)
 go_simp
 refine (cF.out _ hC.1).mono ?_
 rintro e v1 ⟨n3, rfl, hv3, hok3, hbv1⟩
 have hC' := jP hC (Nat.le_refl _) hbv1
 refine hK.out _ _ hC' trivial ?_
 clear hK K
 clear hcl
 intro hcl
 (try simp only)
 clear hC
 have hC := hC'
 clear hC'
 refine jK (i := 10) rfl (by kernel_rfl) hcl (fun K hK => ?_)
 go_simp
 refine (cG.out _).mono ?_
 rintro e v2 ⟨n4, rfl, hv4, hok4, hbv2⟩
 replace hok3 := (hok3.below hbv2).more hbv2.size
 have hC' := jP hC (Nat.le_refl _) hbv2
 refine hK.out _ _ hC' trivial ?_
 clear hK K
 clear hcl
 intro hcl
 (try simp only)
 clear hC
 have hC := hC'
 clear hC'
 refine jK (i := 11) rfl (by kernel_rfl) hcl (fun K hK => ?_)
 go_simp
 refine (cH.out n3 n4 _ hok3 hok4 hv3 hv4).mono ?_
 rintro e v3 ⟨rfl, hbv3⟩
 have hC' := jP hC (Nat.le_refl _) hbv3
 refine hK.out _ _ hC' trivial ?_
 clear hK K
 clear hcl
 intro hcl
 (try simp only [Act.put, nA, nB, nC, nD, nE, nF])
 clear hC
 have hC := hC'
 clear hC'
 (refine mT 12 ?_ rfl hcl hC hE ?_ ?_; rotate_left; (· (intro w hSw; (try dsimp only at hSw); go_simp; (try with_reducible rfl))); clear hcl; intro hcl; (try simp only [Act.put, nA, nB, nC, nD, nE, nF]))
 (refine mT 13 ?_ rfl hcl hC hE ?_ ?_; rotate_left; (· (intro w hSw; (try dsimp only at hSw); go_simp; (try with_reducible rfl))); clear hcl; intro hcl; (try simp only [Act.put, nA, nB, nC, nD, nE, nF]))
 (refine mT 14 ?_ rfl hcl hC hE ?_ ?_; rotate_left; (· (intro w hSw; (try dsimp only at hSw); go_simp; (try with_reducible rfl))); clear hcl; intro hcl; (try simp only [Act.put, nA, nB, nC, nD, nE, nF]))
 (refine mT 16 ?_ rfl hcl hC hE ?_ ?_; rotate_left; (· (intro w hSw; (try dsimp only at hSw); go_simp; (try with_reducible rfl))); clear hcl; intro hcl; (try simp only [Act.put, nA, nB, nC, nD, nE, nF]))
 (refine mT 17 ?_ rfl hcl hC hE ?_ ?_; rotate_left; (· (intro w hSw; (try dsimp only at hSw); go_simp; (try with_reducible rfl))); clear hcl; intro hcl; (try simp only [Act.put, nA, nB, nC, nD, nE, nF]))
 (refine mT 18 ?_ rfl hcl hC hE ?_ ?_; rotate_left; (· (intro w hSw; (try dsimp only at hSw); go_simp; (try with_reducible rfl))); clear hcl; intro hcl; (try simp only [Act.put, nA, nB, nC, nD, nE, nF]))
 refine jK (i := 15) rfl (by kernel_rfl) hcl (fun K hK => ?_)
 go_simp
 refine (cN.out _ hC.1).mono ?_
 rintro e v4 ⟨rfl, hbv4⟩
 have hC' := jP hC (Nat.le_refl _) hbv4
 refine hK.out _ _ hC' trivial ?_
 clear hK K
 clear hcl
 intro hcl
 (try simp only [Act.put, nA, nB, nC, nD, nE, nF])
 clear hC
 have hC := hC'
 clear hC'
 (refine mT 19 ?_ rfl hcl hC hE ?_ ?_; rotate_left; (· (intro w hSw; (try dsimp only at hSw); go_simp; (try with_reducible rfl))); clear hcl; intro hcl; (try simp only [Act.put, nA, nB, nC, nD, nE, nF]))
 (refine mT 20 ?_ rfl hcl hC hE ?_ ?_; rotate_left; (· (intro w hSw; (try dsimp only at hSw); go_simp; (try with_reducible rfl))); clear hcl; intro hcl; (try simp only [Act.put, nA, nB, nC, nD, nE, nF]))
 (refine mT 21 ?_ rfl hcl hC hE ?_ ?_; rotate_left; (· (intro w hSw; (try dsimp only at hSw); go_simp; (try with_reducible rfl))); clear hcl; intro hcl; (try simp only [Act.put, nA, nB, nC, nD, nE, nF]))
 refine wpM_take (i := 22) (v := .agg ↑(cK 1 1 1 0)) rfl (by kernel_rfl) (by kernel_rfl) (by kernel_rfl) (by decide) (fun _ _ _ h => h) hcl hC (fun _ => hE) (yields_row (by kernel_rfl) rfl (p8) rfl 47 ↑(cK 1 1 1 0) (0, 0) _ hr3.out Tryz.underlying47 rfl (by kernel_rfl)) ?_
 clear hcl
 intro hcl
 (try simp only [Act.put, nA, nB, nC, nD, nE, nF])
 refine jK (i := 23) rfl (by kernel_rfl) hcl (fun K hK => ?_)
 go_simp
 refine (c0.out _ (hF.out _ hC.1)).mono ?_
 rintro e v5 ⟨rfl, hbv5⟩
 have hC' := jP hC (Nat.le_refl _) hbv5
 refine hK.out _ _ hC' trivial ?_
 clear hK K
 clear hcl
 intro hcl
 (try simp only [Act.put, nA, nB, nC, nD, nE, nF])
 clear hC
 have hC := hC'
 clear hC'
 (refine mT 24 ?_ rfl hcl hC hE ?_ ?_; rotate_left; (· (intro w hSw; (try dsimp only at hSw); go_simp; (try with_reducible rfl))); clear hcl; intro hcl; (try simp only [Act.put, nA, nB, nC, nD, nE, nF]))
 (refine mT 25 ?_ rfl hcl hC hE ?_ ?_; rotate_left; (· (intro w hSw; (try dsimp only at hSw); go_simp; (try with_reducible rfl))); clear hcl; intro hcl; (try simp only [Act.put, nA, nB, nC, nD, nE, nF]))
 (refine mT 26 ?_ rfl hcl hC hE ?_ ?_; rotate_left; (· (intro w hSw; (try dsimp only at hSw); go_simp; (try with_reducible rfl))); clear hcl; intro hcl; (try simp only [Act.put, nA, nB, nC, nD, nE, nF]))
 refine wpM_take (i := 27) (v := .agg ↑(cK 1 1 1 0)) rfl (by kernel_rfl) (by kernel_rfl) (by kernel_rfl) (by decide) (fun _ _ _ h => h) hcl hC (fun _ => hE) (yields_row (by kernel_rfl) rfl (p8) rfl 47 ↑(cK 1 1 1 0) (0, 0) _ hr3.out Tryz.underlying47 rfl (by kernel_rfl)) ?_
 clear hcl
 intro hcl
 (try simp only [Act.put, nA, nB, nC, nD, nE, nF])
 refine wpM_take (i := 28) (v := .agg ↑(cK 1 1 1 1)) rfl (by kernel_rfl) (by kernel_rfl) (by kernel_rfl) (by decide) (fun _ _ _ h => h) hcl hC (fun _ => hE) (yields_row (by kernel_rfl) rfl (p9) rfl 47 ↑(cK 1 1 1 1) (0, 0) _ hr4.out Tryz.underlying47 rfl (by kernel_rfl)) ?_
 clear hcl
 intro hcl
 (try simp only [Act.put, nA, nB, nC, nD, nE, nF])
 refine jK (i := 29) rfl (by kernel_rfl) hcl (fun K hK => ?_)
 go_simp
 refine (c6.out _).mono ?_
 rintro e v6 ⟨rfl, hbv6⟩
 have hC' := jP hC (Nat.le_refl _) hbv6
 refine hK.out _ _ hC' trivial ?_
 clear hK K
 clear hcl
 intro hcl
 (try simp only [Act.put, nA, nB, nC, nD, nE, nF])
 clear hC
 have hC := hC'
 clear hC'
 (refine mT 30 ?_ rfl hcl hC hE ?_ ?_; rotate_left; (· (intro w hSw; (try dsimp only at hSw); go_simp; (try with_reducible rfl))); clear hcl; intro hcl; (try simp only [Act.put, nA, nB, nC, nD, nE, nF]))
 (refine mT 31 ?_ rfl hcl hC hE ?_ ?_; rotate_left; (· (intro w hSw; (try dsimp only at hSw); go_simp; (try with_reducible rfl))); clear hcl; intro hcl; (try simp only [Act.put, nA, nB, nC, nD, nE, nF]))
 (refine mT 32 ?_ rfl hcl hC hE ?_ ?_; rotate_left; (· (intro w hSw; (try dsimp only at hSw); go_simp; (try with_reducible rfl))); clear hcl; intro hcl; (try simp only [Act.put, nA, nB, nC, nD, nE, nF]))
 refine wpM_take (i := 33) (v := .agg #[.int .i64 4, .int .i64 0, .int .u32 0, .int .u32 0, .int .u32 0, .int .u32 0, .int .u32 0, .int .u32 0, .int .u32 0, .int .u32 0, .int .u32 0, .bool false, .slice none 0 0, .int .i64 0, .int .i64 0, .slice none 0 0, .int .u32 0, .int .u32 0, .int .u32 0, .int .u32 0, .int .u32 0, .int .u32 0, .int .u32 0, .int .u32 0]) rfl (by kernel_rfl) (by kernel_rfl) (by kernel_rfl) (by decide) (fun _ _ _ h => h) hcl hC (fun _ => hE) (yields_build (by kernel_rfl) _ _ rfl (by kernel_rfl)) ?_
 clear hcl
 intro hcl
 (try simp only [Act.put, nA, nB, nC, nD, nE, nF])
 rw [c4_row]
 refine jK (i := 34) rfl (by kernel_rfl) hcl (fun K hK => ?_)
 go_simp
 refine (c4.out _ (hF.out _ hC.1)).mono ?_
 rintro e v7 ⟨rfl, hbv7⟩
 have hC' := jP hC (Nat.le_refl _) hbv7
 refine hK.out _ _ hC' trivial ?_
 clear hK K
 clear hcl
 intro hcl
 (try simp only [Act.put, nA, nB, nC, nD, nE, nF])
 clear hC
 have hC := hC'
 clear hC'
 (refine mT 35 ?_ rfl hcl hC hE ?_ ?_; rotate_left; (· (intro w hSw; (try dsimp only at hSw); go_simp; (try with_reducible rfl))); clear hcl; intro hcl; (try simp only [Act.put, nA, nB, nC, nD, nE, nF]))
 (refine mT 36 ?_ rfl hcl hC hE ?_ ?_; rotate_left; (· (intro w hSw; (try dsimp only at hSw); go_simp; (try with_reducible rfl))); clear hcl; intro hcl; (try simp only [Act.put, nA, nB, nC, nD, nE, nF]))
 (refine mT 37 ?_ rfl hcl hC hE ?_ ?_; rotate_left; (· (intro w hSw; (try dsimp only at hSw); go_simp; (try with_reducible rfl))); clear hcl; intro hcl; (try simp only [Act.put, nA, nB, nC, nD, nE, nF]))
 refine wpM_take (i := 38) (v := .agg ↑Zm.mk) rfl (by kernel_rfl) (by kernel_rfl) (by kernel_rfl) (by decide) (fun _ _ _ h => h) hcl hC (fun _ => hE) (yields_build (by kernel_rfl) _ _ rfl (by kernel_rfl)) ?_
 clear hcl
 intro hcl
 (try simp only [Act.put, nA, nB, nC, nD, nE, nF])
 rw [z_row]
 refine jK (i := 39) rfl (by kernel_rfl) hcl (fun K hK => ?_)
 go_simp
 refine (c5.out _ (hF.out _ hC.1)).mono ?_
 rintro e v8 ⟨rfl, hbv8⟩
 have hC' := jP hC (Nat.le_refl _) hbv8
 refine hK.out _ _ hC' trivial ?_
 clear hK K
 clear hcl
 intro hcl
 (try simp only [Act.put, nA, nB, nC, nD, nE, nF])
 clear hC
 have hC := hC'
 clear hC'
 (refine mT 40 ?_ rfl hcl hC hE ?_ ?_; rotate_left; (· (intro w hSw; (try dsimp only at hSw); go_simp; (try with_reducible rfl))); clear hcl; intro hcl; (try simp only [Act.put, nA, nB, nC, nD, nE, nF]))
 (refine mT 41 ?_ rfl hcl hC hE ?_ ?_; rotate_left; (· (intro w hSw; (try dsimp only at hSw); go_simp; (try with_reducible rfl))); clear hcl; intro hcl; (try simp only [Act.put, nA, nB, nC, nD, nE, nF]))
 (refine mT 42 ?_ rfl hcl hC hE ?_ ?_; rotate_left; (· (intro w hSw; (try dsimp only at hSw); go_simp; (try with_reducible rfl))); clear hcl; intro hcl; (try simp only [Act.put, List.getElem_toArray, List.getElem_cons_zero, List.getElem_cons_succ, List.setIfInBounds_toArray, List.set_cons_zero]))
 refine wpM_done (by kernel_rfl) ?_
 clear hcl
 (try simp only [Act.put, nA, nB, nC, nD, nE, nF])
 have hG := hF.out _ hC.1
 clear hC
 go_wp2
 go_ret
 exact ⟨rfl, hG⟩
end Go.Proofs.YtfhandglpjnonaaGreatDoor
