/- Effects' bytes: the document's Write. -/
import Derived.Test.YtfhandglpjnonaaGreatDoorN28
import Derived.Test.YtfhandglpjnonaaGreatDoorM47
import Derived.Test.YtfhandglpjnonaaGreatDoorN29
namespace Go.Proofs.YtfhandglpjnonaaGreatDoor
open Go.RowKit
set_option maxRecDepth 100000 in
set_option maxHeartbeats 4000000 in
theorem rowrite_any (e : Ef) (A : Option Addr) (n c : Nat) (w : World) (hA : RdT w w.heap.size A n e.tags) (hn : n ≤ 100000) (hw : e.wf) (hl : e.name.length ≤ maxLen) :
 Calls Tryz.prog 99 #[.agg #[.int .i64 e.act, .string (bs e.name), .int .i64 e.val, .int .i64 e.tag.1.1, .int .u32 e.tag.1.2, .int .i64 e.tag.2, .int .u32 e.st.1, .int .i64 e.st.2, .slice A n c]] w fun r w' => r = .returned (.tuple #[.string (bs (writeE e)), .int .i64 (errE e)]) ∧ Below w.heap.size w w' := by
 have hb0 : Below w.heap.size w (w.alloc (.cells #[.int .i64 e.act, .string (bs e.name), .int .i64 e.val, .int .i64 e.tag.1.1, .int .u32 e.tag.1.2, .int .i64 e.tag.2, .int .u32 e.st.1, .int .i64 e.st.2, .slice A n c] 136)) := (Below.refl _ w).alloc (Nat.le_refl _) _
 have hbx : (w.alloc (.cells #[.int .i64 e.act, .string (bs e.name), .int .i64 e.val, .int .i64 e.tag.1.1, .int .u32 e.tag.1.2, .int .i64 e.tag.2, .int .u32 e.st.1, .int .i64 e.st.2, .slice A n c] 136)).heap[w.heap.size]? = some (.cells #[.int .i64 e.act, .string (bs e.name), .int .i64 e.val, .int .i64 e.tag.1.1, .int .u32 e.tag.1.2, .int .i64 e.tag.2, .int .u32 e.st.1, .int .i64 e.st.2, .slice A n c] 136 (0, 0)) := jT _ _ rfl
 generalize hW : w.alloc (.cells #[.int .i64 e.act, .string (bs e.name), .int .i64 e.val, .int .i64 e.tag.1.1, .int .u32 e.tag.1.2, .int .i64 e.tag.2, .int .u32 e.st.1, .int .i64 e.st.2, .slice A n c] 136) = W at hb0 hbx
 have hz0 := hb0.size
 have hck := jH (rcheck_e_any e A n c W ((hA.below hb0).more hb0.size) hn hw hl)
 have hbxH := jH hbx
 have hnl := jH hA.len
 have hAr := jH (fun w' (h : Below w.heap.size w w') => hA.below h)
 have hltx := jB hbx
 generalize hr : writeE e = out
 unfold writeE at hr
 have hwH := jH hw
 by_cases hp : errE e = 0
 case neg =>
  rw [if_pos hp] at hr
  subst hr
  generalize errE e = p at *
  have hpn : (p != 0) = true := by simpa using hp
  have q0 := jA hbx 0
  have q1 := jA hbx 1
  have q2 := jA hbx 2
  have q3 := jA hbx 3
  have q4 := jA hbx 4
  have q5 := jA hbx 5
  have q6 := jA hbx 6
  have q7 := jA hbx 7
  have q8 := jA hbx 8
  simp at q0 q1 q2 q3 q4 q5 q6 q7 q8
  clear hp hbx hA hw hl
  go_enter Tryz.func99, Tryz.ntmps99
  go_wp2_with fail
  refine hck.out.mono ?_
  rintro r w1 ⟨rfl, hv1⟩
  have hG := hb0.trans (hv1.mono hb0.size)
  go_wp2
  refine bodyPost_ret (v := .tuple #[.string (bs []), .int .i64 p]) (by simp [results, Tryz.results99, go_sem, bs_nil]) rfl ⟨rfl, hG⟩
 rw [if_neg (by simp [hp])] at hr
 rw [hp] at hck ⊢
 obtain ⟨ha1, ha6, hn12, ht4⟩ := errE_zero hp
 have hhl := headE_len hp hw
 have hH : Hid (bs (numB e.act.toNat) ++ bs (textB e.name) ++ bs (writeZ e.val) ++ bs (writeT e.tag) = bs (headE e)) := jH (by rw [jM, jM, jM]; rfl)
 have a1 := jN e.act.toNat (by omega)
 have a2 := textB_len (e := e.name) (by omega)
 have a3 : (writeZ e.val).length ≤ 9 := jN (zig e.val) (zig_lt hw.2.2.1.1 hw.2.2.1.2)
 have a4 := writeT_len e.tag
 have hs1 : ¬ 9223372036854775807 < (bs (numB e.act.toNat)).size + (bs (textB e.name)).size := by rw [jG, jG]; omega
 have hs2 : ¬ 9223372036854775807 < (bs (numB e.act.toNat)).size + (bs (textB e.name)).size + (bs (writeZ e.val)).size := by rw [jG, jG, jG]; omega
 have hs3 : ¬ 9223372036854775807 < (bs (numB e.act.toNat)).size + (bs (textB e.name)).size + (bs (writeZ e.val)).size + (bs (writeT e.tag)).size := by rw [jG, jG, jG, jG]; omega
 have wk : IntKind.u64.wrap e.act = ((e.act.toNat : Nat) : Int) := by rw [IntWalk.u64_in _ (by omega)]; omega
 have cN := jH (fun w => rnum_any e.act.toNat (by omega) w)
 have cT := jH (fun w => rwtext_any e.name (by omega) w)
 have cS := jH (fun w => rsg_any e.val hw.2.2.1.1 hw.2.2.1.2 w)
 have cG := jH (fun w => rwtag_any e.tag hw.1 w)
 have hrH := jH hr
 rw [hnl.out] at ht4
 have q0 := jA hbx 0
 have q1 := jA hbx 1
 have q2 := jA hbx 2
 have q3 := jA hbx 3
 have q4 := jA hbx 4
 have q5 := jA hbx 5
 have q6 := jA hbx 6
 have q7 := jA hbx 7
 have q8 := jA hbx 8
 simp at q0 q1 q2 q3 q4 q5 q6 q7 q8
 clear a1 a2 a3 a4 hn12 hp hbx hA hw hl hr
 generalize e.act.toNat = k at hH hs1 hs2 hs3 wk cN
 have cF := jH (rtimed_any e.act)
 have cK := jH (rtakes_any e.act)
 have cL := jH (fun w => rlw_any e.st hwH.out.2.1 w)
 go_enter Tryz.func99, Tryz.ntmps99
 go_wp2_with fail
 refine hck.out.mono ?_
 rintro r w1 ⟨rfl, hb1⟩
 have hbx1 := jD hbxH.out hb1
 clear hltx hck q0 q1 q2 q3 q4 q5 q6 q7 q8
 have hltx := jB hbx1
 have q0 := jA hbx1 0
 have q1 := jA hbx1 1
 have q2 := jA hbx1 2
 have q3 := jA hbx1 3
 have q4 := jA hbx1 4
 have q5 := jA hbx1 5
 have q6 := jA hbx1 6
 have q7 := jA hbx1 7
 have q8 := jA hbx1 8
 simp at q0 q1 q2 q3 q4 q5 q6 q7 q8
 go_upto_region 4 with (fail)
 refine jW (fun w' => KQ w1.heap.size w1 w') (fun _ => True) 99 (by kernel_rfl) (kq (Below.refl _ _).drew) trivial ?_
 intro hcl
 have hC : KQ w1.heap.size w1 w1.drew := kq (Below.refl _ _).drew
 have hE := trivial
 (refine mT 0 ?_ rfl hcl hC hE ?_ ?_; rotate_left; (· (intro w hSw; (try dsimp only at hSw); go_simp; (try with_reducible rfl))); clear hcl; intro hcl; (try simp only [Act.put, List.getElem_toArray, List.getElem_cons_zero, List.setIfInBounds_toArray, List.set_cons_zero, List.set_cons_succ]))
 (refine mT 1 ?_ rfl hcl hC hE ?_ ?_; rotate_left; (· (intro w hSw; (try dsimp only at hSw); go_simp; (try with_reducible rfl))); clear hcl; intro hcl; (try simp only [Act.put, nA, nB, nC, nD, nE, nF]))
 (refine mT 2 ?_ rfl hcl hC hE ?_ ?_; rotate_left; (· (intro w hSw; (try dsimp only at hSw); go_simp; (try with_reducible rfl))); clear hcl; intro hcl; (try simp only [Act.put, nA, nB, nC, nD, nE, nF]))
 (refine mT 4 ?_ rfl hcl hC hE ?_ ?_; rotate_left; (· (intro w hSw; (try dsimp only at hSw); go_simp; (try with_reducible rfl))); clear hcl; intro hcl; (try simp only [Act.put, nA, nB, nC, nD, nE, nF]))
 (refine mT 5 ?_ rfl hcl hC hE ?_ ?_; rotate_left; (· (intro w hSw; (try dsimp only at hSw); go_simp; (try with_reducible rfl))); clear hcl; intro hcl; (try simp only [Act.put, nA, nB, nC, nD, nE, nF]))
 (refine mT 8 ?_ rfl hcl hC hE ?_ ?_; rotate_left; (· (intro w hSw; (try dsimp only at hSw); go_simp; (try with_reducible rfl))); clear hcl; intro hcl; (try simp only [Act.put, nA, nB, nC, nD, nE, nF]))
 (refine mT 9 ?_ rfl hcl hC hE ?_ ?_; rotate_left; (· (intro w hSw; (try dsimp only at hSw); go_simp; (try with_reducible rfl))); clear hcl; intro hcl; (try simp only [Act.put, nA, nB, nC, nD, nE, nF]))
 (refine mT 12 ?_ rfl hcl hC hE ?_ ?_; rotate_left; (· (intro w hSw; (try dsimp only at hSw); go_simp; (try with_reducible rfl))); clear hcl; intro hcl; (try simp only [Act.put, nA, nB, nC, nD, nE, nF]))
 (refine mT 13 ?_ rfl hcl hC hE ?_ ?_; rotate_left; (· (intro w hSw; (try dsimp only at hSw); go_simp; (try with_reducible rfl))); clear hcl; intro hcl; (try simp only [Act.put, nA, nB, nC, nD, nE, nF]))
 refine jK (i := 3) rfl (by kernel_rfl) hcl (fun K hK => ?_)
 go_simp
 refine (cN.out _).mono ?_
 rintro r v1 ⟨rfl, hv1⟩
 have hC' := jP hC (Nat.le_refl _) hv1
 refine hK.out _ _ hC' trivial ?_
 clear hK K
 clear hcl
 intro hcl
 (try simp only [Act.put, nA, nB, nC, nD, nE, nF])
 clear hC
 have hC := hC'
 clear hC'
 refine jK (i := 6) rfl (by kernel_rfl) hcl (fun K hK => ?_)
 go_simp
 refine (cT.out _).mono ?_
 rintro r v2 ⟨rfl, hv2⟩
 have hC' := jP hC (Nat.le_refl _) hv2
 refine hK.out _ _ hC' trivial ?_
 clear hK K
 clear hcl
 intro hcl
 (try simp only [Act.put, nA, nB, nC, nD, nE, nF])
 clear hC
 have hC := hC'
 clear hC'
 (refine mT 7 ?_ rfl hcl hC hE ?_ ?_; rotate_left; (· (intro w hSw; (try dsimp only at hSw); go_simp; (try with_reducible rfl))); clear hcl; intro hcl; (try simp only [Act.put, nA, nB, nC, nD, nE, nF]))
 refine jK (i := 10) rfl (by kernel_rfl) hcl (fun K hK => ?_)
 go_simp
 refine (cS.out _).mono ?_
 rintro r v3 ⟨rfl, hv3⟩
 have hC' := jP hC (Nat.le_refl _) hv3
 refine hK.out _ _ hC' trivial ?_
 clear hK K
 clear hcl
 intro hcl
 (try simp only [Act.put, nA, nB, nC, nD, nE, nF])
 clear hC
 have hC := hC'
 clear hC'
 (refine mT 11 ?_ rfl hcl hC hE ?_ ?_; rotate_left; (· (intro w hSw; (try dsimp only at hSw); go_simp; (try with_reducible rfl))); clear hcl; intro hcl; (try simp only [Act.put, nA, nB, nC, nD, nE, nF]))
 refine jK (i := 14) rfl (by kernel_rfl) hcl (fun K hK => ?_)
 go_simp
 refine (cG.out _).mono ?_
 rintro r v4 ⟨rfl, hv4⟩
 have hC' := jP hC (Nat.le_refl _) hv4
 refine hK.out _ _ hC' trivial ?_
 clear hK K
 clear hcl
 intro hcl
 (try simp only [Act.put, nA, nB, nC, nD, nE, nF])
 clear hC
 have hC := hC'
 clear hC'
 (refine mT 15 ?_ rfl hcl hC hE ?_ ?_; rotate_left; (· (intro w hSw; (try dsimp only at hSw); go_simp; (try with_reducible rfl))); clear hcl; intro hcl; (try simp only [Act.put, nA, nB, nC, nD, nE, nF]))
 (refine mT 16 ?_ rfl hcl hC hE ?_ ?_; rotate_left; (· (intro w hSw; (try dsimp only at hSw); go_simp; (try with_reducible rfl))); clear hcl; intro hcl; (try simp only [Act.put, nA, nB, nC, nD, nE, nF]))
 refine wpM_done (by kernel_rfl) ?_
 clear hcl
 try simp only [List.getElem_toArray, List.getElem_cons_zero, List.getElem_cons_succ, List.setIfInBounds_toArray, List.set_cons_zero, List.set_cons_succ]
 rw [hH.out]
 have hb4 : Below w1.heap.size w1 v4 := hC.1
 clear hC hE hv1 hv2 hv3 hv4
 have hbx6 := jD hbx1 hb4
 have hG6 := hb0.trans ((hb1.trans (hb4.mono hb1.size)).mono hz0)
 clear hltx q0 q1 q2 q3 q4 q5 q6 q7 q8 hs1 hs2 hs3 wk cN cT cS cG hb1 hbx1 hb4
 have hltx := jB hbx6
 have q0 := jA hbx6 0
 have q1 := jA hbx6 1
 have q2 := jA hbx6 2
 have q3 := jA hbx6 3
 have q4 := jA hbx6 4
 have q5 := jA hbx6 5
 have q6 := jA hbx6 6
 have q7 := jA hbx6 7
 have q8 := jA hbx6 8
 simp at q0 q1 q2 q3 q4 q5 q6 q7 q8
 go_wp2_with fail
 refine (cF.out _).mono ?_
 rintro r w5 ⟨rfl, rfl⟩
 have hrr := hrH.out
 cases hat : fAt e.act with
 | true =>
  have htg := fAt_fTg hat
  rw [if_pos hat] at hrr
  have hO : Hid (bs (headE e) ++ bs (writeS e.st) = bs out) := jH (by rw [jM, hrr])
  have hsl := writeS_len e.st hwH.out.2.1
  have hs4 : ¬ 9223372036854775807 < (bs (headE e)).size + (bs (writeS e.st)).size := by rw [jG, jG]; omega
  clear hrr hrH hsl ha1 ha6 ht4 hhl
  go_wp2_with fail
  refine (cL.out _).mono ?_
  rintro r w7 ⟨rfl, hb7⟩
  have hbx7 := jD hbx6 hb7
  have hG7 := hG6.trans (hb7.mono hG6.size)
  clear q0 q1 q2 q3 q4 q5 q6 q7 q8 hltx
  have hltx := jB hbx7
  have q0 := jA hbx7 0
  have q1 := jA hbx7 1
  have q2 := jA hbx7 2
  have q3 := jA hbx7 3
  have q4 := jA hbx7 4
  have q5 := jA hbx7 5
  have q6 := jA hbx7 6
  have q7 := jA hbx7 7
  have q8 := jA hbx7 8
  simp at q0 q1 q2 q3 q4 q5 q6 q7 q8
  go_wp2_with fail
  refine (cK.out _).mono ?_
  rintro r w8 ⟨rfl, rfl⟩
  rw [htg]
  go_wp2
  refine bodyPost_ret (v := .tuple #[.string (bs out), .int .i64 0]) (by simp [results, Tryz.results99, go_sem, hO.out]) rfl ⟨rfl, hG7⟩
 | false =>
  rw [if_neg (by simp [hat])] at hrr
  go_wp2_with fail
  refine (cK.out _).mono ?_
  rintro r w8 ⟨rfl, rfl⟩
  cases htg : fTg e.act with
  | false =>
   rw [if_neg (by simp [htg])] at hrr
   have hO : Hid (bs (headE e) = bs out) := jH (by rw [hrr])
   clear hrr hrH hhl
   go_wp2
   refine bodyPost_ret (v := .tuple #[.string (bs out), .int .i64 0]) (by simp [results, Tryz.results99, go_sem, hO.out]) rfl ⟨rfl, hG6⟩
  | true =>
   rw [if_pos htg] at hrr
   have hb0g := jN n (by omega)
   have hs4 : ¬ 9223372036854775807 < (bs (headE e)).size + (bs (numB n)).size := by rw [jG, jG]; omega
   have hO : Hid (bs (headE e) ++ bs (numB n) = bs (partG (headE e) e.tags 0)) := jH (by rw [jM]; simp [partG, hnl.out])
   have hPL := jH (fun k => partG_len (headE e) e.tags k (by rw [hnl.out]; exact ht4))
   have cM := jH (fun w => rnum_any n (by omega) w)
   have wn : IntKind.u64.wrap (n : Int) = n := IntWalk.u64_in _ (by omega)
   have cW := jH (fun t (ht : Tm.wf t) w => rwtag_any t ht w)
   have hgH := jH hwH.out.2.2.2.1
   clear hb0g hrr
   go_wp2_with fail
   refine (cM.out _).mono ?_
   rintro r w7 ⟨rfl, hb7⟩
   have hbx7 := jD hbx6 hb7
   have hG7 := hG6.trans (hb7.mono hG6.size)
   clear q0 q1 q2 q3 q4 q5 q6 q7 hltx
   go_wp2_with fail
   rw [hO.out]
   clear q8
   go_loopg [5, 6] (n + 1) (fun g o i wr => ∃ k : Nat, k ≤ n ∧ g = n + 1 - k ∧ i = .int .i64 (k : Int) ∧ o = .string (bs (partG (headE e) e.tags k)) ∧ Below w.heap.size w wr ∧ wr.heap[w.heap.size]? = some (.cells #[.int .i64 e.act, .string (bs e.name), .int .i64 e.val, .int .i64 e.tag.1.1, .int .u32 e.tag.1.2, .int .i64 e.tag.2, .int .u32 e.st.1, .int .i64 e.st.2, .slice A n c] 136 (0, 0)))
   case atStart => exact ⟨0, Nat.zero_le _, rfl, rfl, rfl, hG7, hbx7⟩
   case round =>
    clear hG7 hbx7
    obtain ⟨k, hk, rfl, rfl, rfl, hbr, hbx⟩ := hrel
    have hpl := hPL.out k
    have hltx := jB hbx
    have q8 := jA hbx 8
    simp at q8
    by_cases hlt : k < n
    ·
     obtain ⟨bA, oA, u, rfl, hbA, hq, hcp⟩ := (hAr.out wr hbr).at_ hlt
     have p0 := hcp 0 _ rfl
     have p1 := hcp 1 _ rfl
     have p2 := hcp 2 _ rfl
     rw [Nat.add_zero] at p0
     clear hcp
     have hlti : (k : Int) < (n : Int) := by omega
     have hzr := hbr.size
     have hbA2 : bA < wr.heap.size := by omega
     have huw := hgH.out u (List.mem_of_getElem? hq)
     have hst := jH (show bs (partG (headE e) e.tags k) ++ bs (writeT u) = bs (partG (headE e) e.tags (k + 1)) by rw [jM, partG_succ _ hq])
     have hwl := writeT_len u
     have hs5 : ¬ 9223372036854775807 < (bs (partG (headE e) e.tags k)).size + (bs (writeT u)).size := by rw [jG, jG]; omega
     have c1 := jH (cW.out u huw)
     clear hq huw hpl hwl
     go_wp2_with fail
     refine (c1.out _).mono ?_
     rintro r v1 ⟨rfl, hv1⟩
     have hG1 : Below w.heap.size w v1 := hbr.trans (hv1.mono hzr)
     have hbx1 := jD hbx hv1
     go_wp2
     go_roundg (n + 1 - (k + 1))
     case measure => omega
     case rel => exact ⟨k + 1, by omega, rfl, by go_num, congrArg Value.string hst.out, hG1, hbx1⟩
    ·
     obtain rfl : k = n := by omega
     have hnli : ¬ (k : Int) < (k : Int) := by omega
     have hT : Hid (bs (partG (headE e) e.tags k) = bs out) := jH (by have h := hrH.out; rw [if_neg (by simp [hat]), if_pos htg, hnl.out] at h; rw [h])
     go_wp2
     refine bodyPost_ret (v := .tuple #[.string (bs out), .int .i64 0]) (by simp [results, Tryz.results99, go_sem, hT.out]) rfl ⟨rfl, hbr⟩
end Go.Proofs.YtfhandglpjnonaaGreatDoor
