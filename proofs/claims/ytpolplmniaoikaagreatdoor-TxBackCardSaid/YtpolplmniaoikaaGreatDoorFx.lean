/- Effects' bytes: obj.Write. -/
import Derived.Test.YtpolplmniaoikaaGreatDoorN33
import Derived.Test.YtpolplmniaoikaaGreatDoorM47
import Derived.Test.YtpolplmniaoikaaGreatDoorN40
namespace Go.Proofs.YtpolplmniaoikaaGreatDoor
open Go.RowKit

set_option maxRecDepth 100000 in
set_option maxHeartbeats 4000000 in
theorem owrite_any (e : Ef) (A : Option Addr) (n c : Nat) (w : World) (hA : RdT w w.heap.size A n e.tags) (hn : n ≤ 100000) (hw : e.wf) (hl : e.name.length ≤ maxLen) :
    Calls Tryz.prog 37 #[.agg #[.int .i64 e.act, .string (bs e.name), .int .i64 e.val, .int .i64 e.tag.1.1, .int .u32 e.tag.1.2, .int .i64 e.tag.2, .int .u32 e.st.1, .int .i64 e.st.2, .slice A n c]] w fun r w' => r = .returned (.tuple #[.string (bs (writeE e)), .int .i64 (errE e)]) ∧ Below w.heap.size w w' := by
  have hb0 : Below w.heap.size w (w.alloc (.cells #[.int .i64 e.act, .string (bs e.name), .int .i64 e.val, .int .i64 e.tag.1.1, .int .u32 e.tag.1.2, .int .i64 e.tag.2, .int .u32 e.st.1, .int .i64 e.st.2, .slice A n c] 99)) := (Below.refl _ w).alloc (Nat.le_refl _) _
  have hbx : (w.alloc (.cells #[.int .i64 e.act, .string (bs e.name), .int .i64 e.val, .int .i64 e.tag.1.1, .int .u32 e.tag.1.2, .int .i64 e.tag.2, .int .u32 e.st.1, .int .i64 e.st.2, .slice A n c] 99)).heap[w.heap.size]? = some (.cells #[.int .i64 e.act, .string (bs e.name), .int .i64 e.val, .int .i64 e.tag.1.1, .int .u32 e.tag.1.2, .int .i64 e.tag.2, .int .u32 e.st.1, .int .i64 e.st.2, .slice A n c] 99 (0, 0)) := heap_at _ _ rfl
  generalize hW : w.alloc (.cells #[.int .i64 e.act, .string (bs e.name), .int .i64 e.val, .int .i64 e.tag.1.1, .int .u32 e.tag.1.2, .int .i64 e.tag.2, .int .u32 e.st.1, .int .i64 e.st.2, .slice A n c] 99) = W at hb0 hbx
  have hz0 := hb0.size
  have hck := Lib.hid (ocheck_e_any e A n c W ((hA.below hb0).more hb0.size) hn hw hl)
  have hbxH := Lib.hid hbx
  have hnl := Lib.hid hA.len
  have hAr := Lib.hid (fun w' (h : Below w.heap.size w w') => hA.below h)
  have hltx := blk_lt hbx
  generalize hr : writeE e = out
  unfold writeE at hr
  have hwH := Lib.hid hw
  by_cases hp : errE e = 0
  case neg =>
    rw [if_pos hp] at hr
    subst hr
    generalize errE e = p at *
    have hpn : (p != 0) = true := by simpa using hp
    have q0 := blk_cell hbx 0
    have q1 := blk_cell hbx 1
    have q2 := blk_cell hbx 2
    have q3 := blk_cell hbx 3
    have q4 := blk_cell hbx 4
    have q5 := blk_cell hbx 5
    have q6 := blk_cell hbx 6
    have q7 := blk_cell hbx 7
    have q8 := blk_cell hbx 8
    simp at q0 q1 q2 q3 q4 q5 q6 q7 q8
    clear hp hbx hA hw hl
    go_enter Tryz.func37, Tryz.ntmps37
    go_wp2_with fail
    refine hck.out.mono ?_
    rintro r w1 ⟨rfl, hv1⟩
    have hG := hb0.trans (hv1.mono hb0.size)
    go_wp2
    refine bodyPost_ret (v := .tuple #[.string (bs []), .int .i64 p]) (by simp [results, Tryz.results37, go_sem, bs_nil]) rfl ⟨rfl, hG⟩
  rw [if_neg (by simp [hp])] at hr
  rw [hp] at hck ⊢
  obtain ⟨ha1, ha6, hn12, ht4⟩ := errE_zero hp
  have hhl := headE_len hp hw
  have hH : Hid (bs (numB e.act.toNat) ++ bs (textB e.name) ++ bs (writeZ e.val) ++ bs (writeT e.tag) = bs (headE e)) := Lib.hid (by rw [bs_append, bs_append, bs_append]; rfl)
  have a1 := numB_len e.act.toNat (by omega)
  have a2 := textB_len (e := e.name) (by omega)
  have a3 : (writeZ e.val).length ≤ 9 := numB_len (zig e.val) (zig_lt hw.2.2.1.1 hw.2.2.1.2)
  have a4 := writeT_len e.tag
  have hs1 : ¬ 9223372036854775807 < (bs (numB e.act.toNat)).size + (bs (textB e.name)).size := by rw [bs_size, bs_size]; omega
  have hs2 : ¬ 9223372036854775807 < (bs (numB e.act.toNat)).size + (bs (textB e.name)).size + (bs (writeZ e.val)).size := by rw [bs_size, bs_size, bs_size]; omega
  have hs3 : ¬ 9223372036854775807 < (bs (numB e.act.toNat)).size + (bs (textB e.name)).size + (bs (writeZ e.val)).size + (bs (writeT e.tag)).size := by rw [bs_size, bs_size, bs_size, bs_size]; omega
  have wk : IntKind.u64.wrap e.act = ((e.act.toNat : Nat) : Int) := by rw [IntWalk.u64_in _ (by omega)]; omega
  have cN := Lib.hid (fun w => num_any e.act.toNat (by omega) w)
  have cT := Lib.hid (fun w => pwtext_any e.name (by omega) w)
  have cS := Lib.hid (fun w => psg_any e.val hw.2.2.1.1 hw.2.2.1.2 w)
  have cG := Lib.hid (fun w => pwtag_any e.tag hw.1 w)
  have hrH := Lib.hid hr
  rw [hnl.out] at ht4
  have q0 := blk_cell hbx 0
  have q1 := blk_cell hbx 1
  have q2 := blk_cell hbx 2
  have q3 := blk_cell hbx 3
  have q4 := blk_cell hbx 4
  have q5 := blk_cell hbx 5
  have q6 := blk_cell hbx 6
  have q7 := blk_cell hbx 7
  have q8 := blk_cell hbx 8
  simp at q0 q1 q2 q3 q4 q5 q6 q7 q8
  clear a1 a2 a3 a4 hn12 hp hbx hA hw hl hr
  generalize e.act.toNat = k at hH hs1 hs2 hs3 wk cN
  have cF := Lib.hid (oform_any e.act)
  have cL := Lib.hid (fun w => plw_any e.st hwH.out.2.1 w)
  go_enter Tryz.func37, Tryz.ntmps37
  go_wp2_with fail
  refine hck.out.mono ?_
  rintro r w1 ⟨rfl, hb1⟩
  have hbx1 := blk_below hbxH.out hb1
  clear hltx hck q0 q1 q2 q3 q4 q5 q6 q7 q8
  have hltx := blk_lt hbx1
  have q0 := blk_cell hbx1 0
  have q1 := blk_cell hbx1 1
  have q2 := blk_cell hbx1 2
  have q3 := blk_cell hbx1 3
  have q4 := blk_cell hbx1 4
  have q5 := blk_cell hbx1 5
  have q6 := blk_cell hbx1 6
  have q7 := blk_cell hbx1 7
  have q8 := blk_cell hbx1 8
  simp at q0 q1 q2 q3 q4 q5 q6 q7 q8
  go_upto_region 4 with (fail)
  refine wp_region_M (fun w' => KQ w1.heap.size w1 w') (fun _ => True) 99 (by kernel_rfl) (kq (Below.refl _ _).drew) trivial ?_
  intro hcl
  have hC : KQ w1.heap.size w1 w1.drew := kq (Below.refl _ _).drew
  have hE := trivial
  (refine wpM_take (i := 0) (v := ?_) rfl (by kernel_rfl) (by kernel_rfl) (by kernel_rfl) (by decide) (fun _ _ _ h => h) hcl hC (fun _ => hE) (Or.inl ⟨by rfl, ?_⟩) ?_; rotate_left; (· (intro w hSw; (try dsimp only at hSw); go_simp; (try with_reducible rfl))); clear hcl; intro hcl; (try simp only [Act.put, List.getElem_toArray, List.getElem_cons_zero, List.setIfInBounds_toArray, List.set_cons_zero, List.set_cons_succ]))
  (refine wpM_take (i := 1) (v := ?_) rfl (by kernel_rfl) (by kernel_rfl) (by kernel_rfl) (by decide) (fun _ _ _ h => h) hcl hC (fun _ => hE) (Or.inl ⟨by rfl, ?_⟩) ?_; rotate_left; (· (intro w hSw; (try dsimp only at hSw); go_simp; (try with_reducible rfl))); clear hcl; intro hcl; (try simp only [Act.put, List.getElem_toArray, List.getElem_cons_zero, List.getElem_cons_succ, List.setIfInBounds_toArray, List.set_cons_zero, List.set_cons_succ]))
  (refine wpM_take (i := 2) (v := ?_) rfl (by kernel_rfl) (by kernel_rfl) (by kernel_rfl) (by decide) (fun _ _ _ h => h) hcl hC (fun _ => hE) (Or.inl ⟨by rfl, ?_⟩) ?_; rotate_left; (· (intro w hSw; (try dsimp only at hSw); go_simp; (try with_reducible rfl))); clear hcl; intro hcl; (try simp only [Act.put, List.getElem_toArray, List.getElem_cons_zero, List.getElem_cons_succ, List.setIfInBounds_toArray, List.set_cons_zero, List.set_cons_succ]))
  (refine wpM_take (i := 4) (v := ?_) rfl (by kernel_rfl) (by kernel_rfl) (by kernel_rfl) (by decide) (fun _ _ _ h => h) hcl hC (fun _ => hE) (Or.inl ⟨by rfl, ?_⟩) ?_; rotate_left; (· (intro w hSw; (try dsimp only at hSw); go_simp; (try with_reducible rfl))); clear hcl; intro hcl; (try simp only [Act.put, List.getElem_toArray, List.getElem_cons_zero, List.getElem_cons_succ, List.setIfInBounds_toArray, List.set_cons_zero, List.set_cons_succ]))
  (refine wpM_take (i := 5) (v := ?_) rfl (by kernel_rfl) (by kernel_rfl) (by kernel_rfl) (by decide) (fun _ _ _ h => h) hcl hC (fun _ => hE) (Or.inl ⟨by rfl, ?_⟩) ?_; rotate_left; (· (intro w hSw; (try dsimp only at hSw); go_simp; (try with_reducible rfl))); clear hcl; intro hcl; (try simp only [Act.put, List.getElem_toArray, List.getElem_cons_zero, List.getElem_cons_succ, List.setIfInBounds_toArray, List.set_cons_zero, List.set_cons_succ]))
  (refine wpM_take (i := 8) (v := ?_) rfl (by kernel_rfl) (by kernel_rfl) (by kernel_rfl) (by decide) (fun _ _ _ h => h) hcl hC (fun _ => hE) (Or.inl ⟨by rfl, ?_⟩) ?_; rotate_left; (· (intro w hSw; (try dsimp only at hSw); go_simp; (try with_reducible rfl))); clear hcl; intro hcl; (try simp only [Act.put, List.getElem_toArray, List.getElem_cons_zero, List.getElem_cons_succ, List.setIfInBounds_toArray, List.set_cons_zero, List.set_cons_succ]))
  (refine wpM_take (i := 9) (v := ?_) rfl (by kernel_rfl) (by kernel_rfl) (by kernel_rfl) (by decide) (fun _ _ _ h => h) hcl hC (fun _ => hE) (Or.inl ⟨by rfl, ?_⟩) ?_; rotate_left; (· (intro w hSw; (try dsimp only at hSw); go_simp; (try with_reducible rfl))); clear hcl; intro hcl; (try simp only [Act.put, List.getElem_toArray, List.getElem_cons_zero, List.getElem_cons_succ, List.setIfInBounds_toArray, List.set_cons_zero, List.set_cons_succ]))
  (refine wpM_take (i := 12) (v := ?_) rfl (by kernel_rfl) (by kernel_rfl) (by kernel_rfl) (by decide) (fun _ _ _ h => h) hcl hC (fun _ => hE) (Or.inl ⟨by rfl, ?_⟩) ?_; rotate_left; (· (intro w hSw; (try dsimp only at hSw); go_simp; (try with_reducible rfl))); clear hcl; intro hcl; (try simp only [Act.put, List.getElem_toArray, List.getElem_cons_zero, List.getElem_cons_succ, List.setIfInBounds_toArray, List.set_cons_zero, List.set_cons_succ]))
  (refine wpM_take (i := 13) (v := ?_) rfl (by kernel_rfl) (by kernel_rfl) (by kernel_rfl) (by decide) (fun _ _ _ h => h) hcl hC (fun _ => hE) (Or.inl ⟨by rfl, ?_⟩) ?_; rotate_left; (· (intro w hSw; (try dsimp only at hSw); go_simp; (try with_reducible rfl))); clear hcl; intro hcl; (try simp only [Act.put, List.getElem_toArray, List.getElem_cons_zero, List.getElem_cons_succ, List.setIfInBounds_toArray, List.set_cons_zero, List.set_cons_succ]))
  refine wpM_only (i := 3) rfl (by kernel_rfl) hcl (fun K hK => ?_)
  go_simp
  refine (cN.out _).mono ?_
  rintro r v1 ⟨rfl, hv1⟩
  have hC' := kq_call hC (Nat.le_refl _) hv1
  refine hK.out _ _ hC' trivial ?_
  clear hK K
  clear hcl
  intro hcl
  (try simp only [Act.put, List.getElem_toArray, List.getElem_cons_zero, List.getElem_cons_succ, List.setIfInBounds_toArray, List.set_cons_zero, List.set_cons_succ])
  clear hC
  have hC := hC'
  clear hC'
  refine wpM_only (i := 6) rfl (by kernel_rfl) hcl (fun K hK => ?_)
  go_simp
  refine (cT.out _).mono ?_
  rintro r v2 ⟨rfl, hv2⟩
  have hC' := kq_call hC (Nat.le_refl _) hv2
  refine hK.out _ _ hC' trivial ?_
  clear hK K
  clear hcl
  intro hcl
  (try simp only [Act.put, List.getElem_toArray, List.getElem_cons_zero, List.getElem_cons_succ, List.setIfInBounds_toArray, List.set_cons_zero, List.set_cons_succ])
  clear hC
  have hC := hC'
  clear hC'
  (refine wpM_take (i := 7) (v := ?_) rfl (by kernel_rfl) (by kernel_rfl) (by kernel_rfl) (by decide) (fun _ _ _ h => h) hcl hC (fun _ => hE) (Or.inl ⟨by rfl, ?_⟩) ?_; rotate_left; (· (intro w hSw; (try dsimp only at hSw); go_simp; (try with_reducible rfl))); clear hcl; intro hcl; (try simp only [Act.put, List.getElem_toArray, List.getElem_cons_zero, List.getElem_cons_succ, List.setIfInBounds_toArray, List.set_cons_zero, List.set_cons_succ]))
  refine wpM_only (i := 10) rfl (by kernel_rfl) hcl (fun K hK => ?_)
  go_simp
  refine (cS.out _).mono ?_
  rintro r v3 ⟨rfl, hv3⟩
  have hC' := kq_call hC (Nat.le_refl _) hv3
  refine hK.out _ _ hC' trivial ?_
  clear hK K
  clear hcl
  intro hcl
  (try simp only [Act.put, List.getElem_toArray, List.getElem_cons_zero, List.getElem_cons_succ, List.setIfInBounds_toArray, List.set_cons_zero, List.set_cons_succ])
  clear hC
  have hC := hC'
  clear hC'
  (refine wpM_take (i := 11) (v := ?_) rfl (by kernel_rfl) (by kernel_rfl) (by kernel_rfl) (by decide) (fun _ _ _ h => h) hcl hC (fun _ => hE) (Or.inl ⟨by rfl, ?_⟩) ?_; rotate_left; (· (intro w hSw; (try dsimp only at hSw); go_simp; (try with_reducible rfl))); clear hcl; intro hcl; (try simp only [Act.put, List.getElem_toArray, List.getElem_cons_zero, List.getElem_cons_succ, List.setIfInBounds_toArray, List.set_cons_zero, List.set_cons_succ]))
  refine wpM_only (i := 14) rfl (by kernel_rfl) hcl (fun K hK => ?_)
  go_simp
  refine (cG.out _).mono ?_
  rintro r v4 ⟨rfl, hv4⟩
  have hC' := kq_call hC (Nat.le_refl _) hv4
  refine hK.out _ _ hC' trivial ?_
  clear hK K
  clear hcl
  intro hcl
  (try simp only [Act.put, List.getElem_toArray, List.getElem_cons_zero, List.getElem_cons_succ, List.setIfInBounds_toArray, List.set_cons_zero, List.set_cons_succ])
  clear hC
  have hC := hC'
  clear hC'
  (refine wpM_take (i := 15) (v := ?_) rfl (by kernel_rfl) (by kernel_rfl) (by kernel_rfl) (by decide) (fun _ _ _ h => h) hcl hC (fun _ => hE) (Or.inl ⟨by rfl, ?_⟩) ?_; rotate_left; (· (intro w hSw; (try dsimp only at hSw); go_simp; (try with_reducible rfl))); clear hcl; intro hcl; (try simp only [Act.put, List.getElem_toArray, List.getElem_cons_zero, List.getElem_cons_succ, List.setIfInBounds_toArray, List.set_cons_zero, List.set_cons_succ]))
  (refine wpM_take (i := 16) (v := ?_) rfl (by kernel_rfl) (by kernel_rfl) (by kernel_rfl) (by decide) (fun _ _ _ h => h) hcl hC (fun _ => hE) (Or.inl ⟨by rfl, ?_⟩) ?_; rotate_left; (· (intro w hSw; (try dsimp only at hSw); go_simp; (try with_reducible rfl))); clear hcl; intro hcl; (try simp only [Act.put, List.getElem_toArray, List.getElem_cons_zero, List.getElem_cons_succ, List.setIfInBounds_toArray, List.set_cons_zero, List.set_cons_succ]))
  refine wpM_done (by kernel_rfl) ?_
  clear hcl
  try simp only [List.getElem_toArray, List.getElem_cons_zero, List.getElem_cons_succ, List.setIfInBounds_toArray, List.set_cons_zero, List.set_cons_succ]
  rw [hH.out]
  have hb4 : Below w1.heap.size w1 v4 := hC.1
  clear hC hE hv1 hv2 hv3 hv4
  have hbx4 := blk_below hbx1 hb4
  have hG4 := hb0.trans ((hb1.trans (hb4.mono hb1.size)).mono hz0)
  clear hltx q0 q1 q2 q3 q4 q5 q6 q7 q8 hs1 hs2 hs3 wk cN cT cS cG hb1 hbx1 hb4
  have hltx := blk_lt hbx4
  have q0 := blk_cell hbx4 0
  have q1 := blk_cell hbx4 1
  have q2 := blk_cell hbx4 2
  have q3 := blk_cell hbx4 3
  have q4 := blk_cell hbx4 4
  have q5 := blk_cell hbx4 5
  have q6 := blk_cell hbx4 6
  have q7 := blk_cell hbx4 7
  have q8 := blk_cell hbx4 8
  simp at q0 q1 q2 q3 q4 q5 q6 q7 q8
  go_wp2_with fail
  refine (cF.out _).mono ?_
  rintro r w5 ⟨rfl, hb5⟩
  have hbx5 := blk_below hbx4 hb5
  have hG5 := hG4.trans (hb5.mono hG4.size)
  have hba : Below w5.heap.size w5 (w5.alloc (.cells #[.bool (fNm e.act), .bool (fVl e.act), .bool (fAt e.act), .bool (fTg e.act)] 156)) := (Below.refl _ w5).alloc (Nat.le_refl _) _
  have hbF : (w5.alloc (.cells #[.bool (fNm e.act), .bool (fVl e.act), .bool (fAt e.act), .bool (fTg e.act)] 156)).heap[w5.heap.size]? = some (.cells #[.bool (fNm e.act), .bool (fVl e.act), .bool (fAt e.act), .bool (fTg e.act)] 156 (0, 0)) := heap_at _ _ rfl
  have hbx6 := blk_below hbx5 hba
  have hG6 := hG5.trans (hba.mono hG5.size)
  clear hltx q0 q1 q2 q3 q4 q5 q6 q7 q8 hG4 hG5 hbx4 hb5 hbx5
  go_upto_region 6 with (fail)
  generalize (w5.alloc (.cells #[.bool (fNm e.act), .bool (fVl e.act), .bool (fAt e.act), .bool (fTg e.act)] 156)) = X at *
  have hltx := blk_lt hbx6
  have q0 := blk_cell hbx6 0
  have q1 := blk_cell hbx6 1
  have q2 := blk_cell hbx6 2
  have q3 := blk_cell hbx6 3
  have q4 := blk_cell hbx6 4
  have q5 := blk_cell hbx6 5
  have q6 := blk_cell hbx6 6
  have q7 := blk_cell hbx6 7
  have q8 := blk_cell hbx6 8
  simp at q0 q1 q2 q3 q4 q5 q6 q7 q8
  have hltf := blk_lt hbF
  have f0 := blk_cell hbF 0
  have f1 := blk_cell hbF 1
  have f2 := blk_cell hbF 2
  have f3 := blk_cell hbF 3
  simp at f0 f1 f2 f3
  clear hba
  have hrr := hrH.out
  cases hat : fAt e.act with
  | true =>
    have htg := fAt_fTg hat
    rw [if_pos hat] at hrr
    rw [hat, htg] at hbF
    rw [hat] at f2
    rw [htg] at f3
    have hO : Hid (bs (headE e) ++ bs (writeS e.st) = bs out) := Lib.hid (by rw [bs_append, hrr])
    have hsl := writeS_len e.st hwH.out.2.1
    have hs4 : ¬ 9223372036854775807 < (bs (headE e)).size + (bs (writeS e.st)).size := by rw [bs_size, bs_size]; omega
    clear hrr hrH hsl ha1 ha6 ht4 hhl
    go_wp2_with fail
    refine (cL.out _).mono ?_
    rintro r w7 ⟨rfl, hb7⟩
    have hbF7 := blk_below hbF hb7
    have hltf7 := blk_lt hbF7
    have f3 := blk_cell hbF7 3
    simp at f3
    have hG7 := hG6.trans (hb7.mono hG6.size)
    clear q0 q1 q2 q3 q4 q5 q6 q7 q8 f0 f1 f2
    go_wp2
    refine bodyPost_ret (v := .tuple #[.string (bs out), .int .i64 0]) (by simp [results, Tryz.results37, go_sem, hO.out]) rfl ⟨rfl, hG7⟩
  | false =>
    rw [if_neg (by simp [hat])] at hrr
    rw [hat] at f2
    cases htg : fTg e.act with
    | false =>
      rw [if_neg (by simp [htg])] at hrr
      rw [htg] at f3
      have hO : Hid (bs (headE e) = bs out) := Lib.hid (by rw [hrr])
      clear hrr hrH hhl
      go_wp2
      refine bodyPost_ret (v := .tuple #[.string (bs out), .int .i64 0]) (by simp [results, Tryz.results37, go_sem, hO.out]) rfl ⟨rfl, hG6⟩
    | true =>
      rw [if_pos htg] at hrr
      rw [htg] at f3
      have hb0g := numB_len n (by omega)
      have hs4 : ¬ 9223372036854775807 < (bs (headE e)).size + (bs (numB n)).size := by rw [bs_size, bs_size]; omega
      have hO : Hid (bs (headE e) ++ bs (numB n) = bs (partG (headE e) e.tags 0)) := Lib.hid (by rw [bs_append]; simp [partG, hnl.out])
      have hPL := Lib.hid (fun k => partG_len (headE e) e.tags k (by rw [hnl.out]; exact ht4))
      have cM := Lib.hid (fun w => num_any n (by omega) w)
      have wn : IntKind.u64.wrap (n : Int) = n := IntWalk.u64_in _ (by omega)
      have cW := Lib.hid (fun t (ht : Tm.wf t) w => pwtag_any t ht w)
      have hgH := Lib.hid hwH.out.2.2.2.1
      clear hb0g hrr
      go_wp2_with fail
      refine (cM.out _).mono ?_
      rintro r w7 ⟨rfl, hb7⟩
      have hbx7 := blk_below hbx6 hb7
      have hltx7 := blk_lt hbx7
      have q8 := blk_cell hbx7 8
      simp at q8
      have hG7 := hG6.trans (hb7.mono hG6.size)
      clear q0 q1 q2 q3 q4 q5 q6 q7 f0 f1 f2 f3 hltf hltx
      have hcc := Lib.hid hO.out
      clear hO hltx7
      have hltx := blk_lt hbx7
      go_wp2_with fail
      rw [hcc.out]
      go_loopg [5, 52] (n + 1) (fun g o i wr => ∃ k : Nat, k ≤ n ∧ g = n + 1 - k ∧ i = .int .i64 (k : Int) ∧ o = .string (bs (partG (headE e) e.tags k)) ∧ Below w.heap.size w wr)
      case atStart => exact ⟨0, Nat.zero_le _, rfl, rfl, rfl, hG7⟩
      case round =>
        clear hG7 hbx7 q8 hltx
        obtain ⟨k, hk, rfl, rfl, rfl, hbr⟩ := hrel
        have hpl := hPL.out k
        by_cases hlt : k < n
        · obtain ⟨bA, oA, u, rfl, hbA, hq, hcp⟩ := (hAr.out wr hbr).at_ hlt
          have p0 := hcp 0 _ rfl
          have p1 := hcp 1 _ rfl
          have p2 := hcp 2 _ rfl
          rw [Nat.add_zero] at p0
          clear hcp
          have hlti : (k : Int) < (n : Int) := by omega
          have hzr := hbr.size
          have hbA2 : bA < wr.heap.size := by omega
          have huw := hgH.out u (List.mem_of_getElem? hq)
          have hst := Lib.hid (show bs (partG (headE e) e.tags k) ++ bs (writeT u) = bs (partG (headE e) e.tags (k + 1)) by rw [bs_append, partG_succ _ hq])
          have hwl := writeT_len u
          have hs5 : ¬ 9223372036854775807 < (bs (partG (headE e) e.tags k)).size + (bs (writeT u)).size := by rw [bs_size, bs_size]; omega
          have c1 := Lib.hid (cW.out u huw)
          clear hq huw hpl hwl
          go_wp2_with fail
          refine (c1.out _).mono ?_
          rintro r v1 ⟨rfl, hv1⟩
          have hG1 : Below w.heap.size w v1 := hbr.trans (((Below.refl _ wr).alloc (Nat.le_refl _) _).trans (hv1.mono (by simp)) |>.mono hzr)
          go_wp2
          go_roundg (n + 1 - (k + 1))
          case measure => omega
          case rel => exact ⟨k + 1, by omega, rfl, by go_num, congrArg Value.string hst.out, hG1⟩
        · obtain rfl : k = n := by omega
          have hnli : ¬ (k : Int) < (k : Int) := by omega
          have hT : Hid (bs (partG (headE e) e.tags k) = bs out) := Lib.hid (by have h := hrH.out; rw [if_neg (by simp [hat]), if_pos htg, hnl.out] at h; rw [h])
          go_wp2
          refine bodyPost_ret (v := .tuple #[.string (bs out), .int .i64 0]) (by simp [results, Tryz.results37, go_sem, hT.out]) rfl ⟨rfl, hbr⟩
end Go.Proofs.YtpolplmniaoikaaGreatDoor
