/- Transactions' bytes: tx.Write. -/
import Derived.Test.YtfhandglpjnonaaGreatDoorN30
set_option maxRecDepth 100000
set_option maxHeartbeats 16000000
namespace Go.Proofs.YtfhandglpjnonaaGreatDoor
open Go.RowKit
theorem xwriteT_any (x : Im) (v : Vm) (A : Option Addr) (n c : Nat) (ps : List Pe) (w : World) (hA : RdE w w.heap.size A n ps) (hn : n ≤ 100000) (hf : ∀ p ∈ ps, p.Fit w) (hkl : ∀ p ∈ ps, p.key.length ≤ 1000) (hx : x.wf) (hvw : v.wf) (hv : VarM w) :
 Calls Tryz.prog 57 #[.agg #[.int .i64 x.1, .int .u32 x.2, .int .u32 v.d0, .int .u32 v.d1, .int .u32 v.d2, .int .u32 v.d3, .int .u32 v.d4, .int .u32 v.d5, .int .u32 v.d6, .int .u32 v.d7, .bool true, .slice A n c]] w fun r w' => r = .returned (.tuple #[.string (bs (writeX x v true (ps.map Pe.core))), .int .i64 (txErr x v (ps.map Pe.core))]) ∧ Below w.heap.size w w' := by
 have hb0 : Below w.heap.size w (w.alloc (.cells #[.int .i64 x.1, .int .u32 x.2, .int .u32 v.d0, .int .u32 v.d1, .int .u32 v.d2, .int .u32 v.d3, .int .u32 v.d4, .int .u32 v.d5, .int .u32 v.d6, .int .u32 v.d7, .bool true, .slice A n c] 45)) := (Below.refl _ w).alloc (Nat.le_refl _) _
 have hbx : (w.alloc (.cells #[.int .i64 x.1, .int .u32 x.2, .int .u32 v.d0, .int .u32 v.d1, .int .u32 v.d2, .int .u32 v.d3, .int .u32 v.d4, .int .u32 v.d5, .int .u32 v.d6, .int .u32 v.d7, .bool true, .slice A n c] 45)).heap[w.heap.size]? = some (.cells #[.int .i64 x.1, .int .u32 x.2, .int .u32 v.d0, .int .u32 v.d1, .int .u32 v.d2, .int .u32 v.d3, .int .u32 v.d4, .int .u32 v.d5, .int .u32 v.d6, .int .u32 v.d7, .bool true, .slice A n c] 45 (0, 0)) := jT _ _ rfl
 generalize hW : w.alloc (.cells #[.int .i64 x.1, .int .u32 x.2, .int .u32 v.d0, .int .u32 v.d1, .int .u32 v.d2, .int .u32 v.d3, .int .u32 v.d4, .int .u32 v.d5, .int .u32 v.d6, .int .u32 v.d7, .bool true, .slice A n c] 45) = W at hb0 hbx
 have hz0 := hb0.size
 have hck := jH (txcheck_any x v true A n c ps W ((hA.below hb0).more hb0.size) (by simp [maxLen]; omega) (fun p hp => (hf p hp).below hb0) hx hvw (hv.below hb0 hv.lt))
 have hbxH := jH hbx
 have hnl := jH hA.len
 have hAr := jH (fun w' (h : Below w.heap.size w w') => hA.below h)
 have hltx := jB hbx
 generalize hr : writeX x v true (ps.map Pe.core) = out
 unfold writeX at hr
 have hwH := jH (fun p hp => (hf p hp).wf)
 have hnH := jH (fun p hp => (hf p hp).name)
 have hlH := jH (fun p hp => (hf p hp).l)
 have hkH := jH hkl
 have q0 := jA hbx 0
 have q1 := jA hbx 1
 have q2 := jA hbx 2
 have q3 := jA hbx 3
 have q4 := jA hbx 4
 have q5 := jA hbx 5
 have q6 := jA hbx 6
 have q7 := jA hbx 7
 have q8 := jA hbx 8
 have q9 := jA hbx 9
 have q10 := jA hbx 10
 have q11 := jA hbx 11
 simp at q0 q1 q2 q3 q4 q5 q6 q7 q8 q9 q10 q11
 by_cases hp : txErr x v (ps.map Pe.core) = 0
 case neg =>
  rw [if_pos hp] at hr
  subst hr
  generalize txErr x v (ps.map Pe.core) = p at *
  have hpn : (p != 0) = true := by simpa using hp
  clear hp hbx hA hf hkl
  go_enter Tryz.func57, Tryz.ntmps57
  go_wp2_with fail
  refine hck.out.mono ?_
  rintro r w1 ⟨rfl, hv1⟩
  have hG := hb0.trans (hv1.mono hb0.size)
  go_wp2
  refine bodyPost_ret (v := .tuple #[.string (bs []), .int .i64 p]) (by simp [results, Tryz.results57, go_sem, bs_nil]) rfl ⟨rfl, hG⟩
 rw [if_neg (by simp [hp])] at hr
 rw [hp] at hck ⊢
 have hn16 : n ≤ 16 := by have := (txErr_zero hp).1; rw [List.length_map, hnl.out] at this; exact this
 have hhl := headX_len x hvw true n hn16
 have hH : Hid (bs (writeI x) ++ bs (writeV v) ++ bs (numB 1) ++ bs (numB n) = bs (headX x v true n)) := jH (by rw [jM, jM, jM]; rfl)
 have a1 := writeI_len x
 have a2 : (writeV v).length ≤ 9 + 9 * 8 := Nat.le_trans (partV_len hvw (longV v)) (by have := longV_le v; omega)
 have a3 := jN 1 (by decide)
 have a4 := jN n (by omega)
 have hs1 : ¬ 9223372036854775807 < (bs (writeI x)).size + (bs (writeV v)).size := by rw [jG, jG]; omega
 have hs2 : ¬ 9223372036854775807 < (bs (writeI x)).size + (bs (writeV v)).size + (bs (numB 1)).size := by rw [jG, jG, jG]; omega
 have hs3 : ¬ 9223372036854775807 < (bs (writeI x)).size + (bs (writeV v)).size + (bs (numB 1)).size + (bs (numB n)).size := by rw [jG, jG, jG, jG]; omega
 have wn : IntKind.u64.wrap (n : Int) = n := IntWalk.u64_in _ (by omega)
 have cI := jH (fun w => idw_any x hx w)
 have cV := jH (fun w => vwrite_any v hvw w)
 have cU := jH (fun w => show Calls Tryz.prog 93 #[.int .u64 1] w fun e w' => e = .returned (.string (bs (numB 1))) ∧ Below w.heap.size w w' from num_any 1 (by decide) w)
 have cN := jH (fun w => num_any n (by omega) w)
 have cT := jH (fun s (hs : s.length ≤ 1000) w => pwtext_any s (by omega) w)
 have cE := jH (fun p (hp : p ∈ ps) w' (h : Below w.heap.size w w') => owrite_any p.e p.A p.l p.c w' (((hAr.out w' h).2 p hp).more h.size) (hlH.out p hp) (hwH.out p hp) (hnH.out p hp))
 have hPL := jH (fun k => partX_len (headX x v true n) (ps.map Pe.core) k (by rw [List.length_map, hnl.out]; exact hn16) (fun q hq => by obtain ⟨p, hp, rfl⟩ := List.mem_map.1 hq; exact hkl p hp) (fun q hq => by obtain ⟨p, hp, rfl⟩ := List.mem_map.1 hq; exact (hf p hp).wf))
 have hrH : Hid (partX (headX x v true n) (ps.map Pe.core) n = out) := jH (by rw [List.length_map, hnl.out] at hr; exact hr)
 have h00 : Hid (headX x v true n = partX (headX x v true n) (ps.map Pe.core) 0) := jH (by simp [partX])
 clear a1 a2 a3 a4 hp hbx hA hf hr hkl
 go_enter Tryz.func57, Tryz.ntmps57
 go_wp2_with fail
 refine hck.out.mono ?_
 rintro r w1 ⟨rfl, hb1⟩
 have hbx1 := jD hbxH.out hb1
 clear hltx hck q0 q1 q2 q3 q4 q5 q6 q7 q8 q9 q10 q11
 have hltx := jB hbx1
 have q0 := jA hbx1 0
 have q1 := jA hbx1 1
 have q2 := jA hbx1 2
 have q3 := jA hbx1 3
 have q4 := jA hbx1 4
 have q5 := jA hbx1 5
 have q6 := jA hbx1 6
 have q7 := jA hbx1 7
 have q8 := jA hbx1 8
 have q9 := jA hbx1 9
 have q10 := jA hbx1 10
 have q11 := jA hbx1 11
 simp at q0 q1 q2 q3 q4 q5 q6 q7 q8 q9 q10 q11
 go_upto_region 7 with (fail)
 refine jW (fun w' => KQ w1.heap.size w1 w') (fun _ => True) 99 (by kernel_rfl) (kq (Below.refl _ _).drew) trivial ?_
 intro hcl
 have hC : KQ w1.heap.size w1 w1.drew := kq (Below.refl _ _).drew
 have hE := trivial
 (refine mT 0 ?_ rfl hcl hC hE ?_ ?_; rotate_left; (· (intro w hSw; (try dsimp only at hSw); go_simp; (try with_reducible rfl))); clear hcl; intro hcl; (try simp only [Act.put, List.getElem_toArray, List.getElem_cons_zero, List.setIfInBounds_toArray, List.set_cons_zero, List.set_cons_succ]))
 (refine mT 1 ?_ rfl hcl hC hE ?_ ?_; rotate_left; (· (intro w hSw; (try dsimp only at hSw); go_simp; (try with_reducible rfl))); clear hcl; intro hcl; (try simp only [Act.put, nA, nB, nC, nD, nE, nF]))
 (refine mT 3 ?_ rfl hcl hC hE ?_ ?_; rotate_left; (· (intro w hSw; (try dsimp only at hSw); go_simp; (try with_reducible rfl))); clear hcl; intro hcl; (try simp only [Act.put, nA, nB, nC, nD, nE, nF]))
 (refine mT 4 ?_ rfl hcl hC hE ?_ ?_; rotate_left; (· (intro w hSw; (try dsimp only at hSw); go_simp; (try with_reducible rfl))); clear hcl; intro hcl; (try simp only [Act.put, nA, nB, nC, nD, nE, nF]))
 (refine mT 7 ?_ rfl hcl hC hE ?_ ?_; rotate_left; (· (intro w hSw; (try dsimp only at hSw); go_simp; (try with_reducible rfl))); clear hcl; intro hcl; (try simp only [Act.put, nA, nB, nC, nD, nE, nF]))
 (refine mT 10 ?_ rfl hcl hC hE ?_ ?_; rotate_left; (· (intro w hSw; (try dsimp only at hSw); go_simp; (try with_reducible rfl))); clear hcl; intro hcl; (try simp only [Act.put, nA, nB, nC, nD, nE, nF]))
 (refine mT 11 ?_ rfl hcl hC hE ?_ ?_; rotate_left; (· (intro w hSw; (try dsimp only at hSw); go_simp; (try with_reducible rfl))); clear hcl; intro hcl; (try simp only [Act.put, nA, nB, nC, nD, nE, nF]))
 (refine mT 12 ?_ rfl hcl hC hE ?_ ?_; rotate_left; (· (intro w hSw; (try dsimp only at hSw); go_simp; (try with_reducible rfl))); clear hcl; intro hcl; (try simp only [Act.put, nA, nB, nC, nD, nE, nF]))
 (refine mT 13 ?_ rfl hcl hC hE ?_ ?_; rotate_left; (· (intro w hSw; (try dsimp only at hSw); go_simp; (try with_reducible rfl))); clear hcl; intro hcl; (try simp only [Act.put, nA, nB, nC, nD, nE, nF]))
 refine jK (i := 2) rfl (by kernel_rfl) hcl (fun K hK => ?_)
 go_simp
 refine (cI.out _).mono ?_
 rintro r v1 ⟨rfl, hv1⟩
 have hC' := jP hC (Nat.le_refl _) hv1
 refine hK.out _ _ hC' trivial ?_
 clear hK K
 clear hcl
 intro hcl
 (try simp only [Act.put, nA, nB, nC, nD, nE, nF])
 clear hC
 have hC := hC'
 clear hC'
 refine jK (i := 5) rfl (by kernel_rfl) hcl (fun K hK => ?_)
 go_simp
 refine (cV.out _).mono ?_
 rintro r v2 ⟨rfl, hv2⟩
 have hC' := jP hC (Nat.le_refl _) hv2
 refine hK.out _ _ hC' trivial ?_
 clear hK K
 clear hcl
 intro hcl
 (try simp only [Act.put, nA, nB, nC, nD, nE, nF])
 clear hC
 have hC := hC'
 clear hC'
 (refine mT 6 ?_ rfl hcl hC hE ?_ ?_; rotate_left; (· (intro w hSw; (try dsimp only at hSw); go_simp; (try with_reducible rfl))); clear hcl; intro hcl; (try simp only [Act.put, nA, nB, nC, nD, nE, nF]))
 refine jK (i := 8) rfl (by kernel_rfl) hcl (fun K hK => ?_)
 go_simp
 refine (cU.out _).mono ?_
 rintro r v3 ⟨rfl, hv3⟩
 have hC' := jP hC (Nat.le_refl _) hv3
 refine hK.out _ _ hC' trivial ?_
 clear hK K
 clear hcl
 intro hcl
 (try simp only [Act.put, nA, nB, nC, nD, nE, nF])
 clear hC
 have hC := hC'
 clear hC'
 (refine mT 9 ?_ rfl hcl hC hE ?_ ?_; rotate_left; (· (intro w hSw; (try dsimp only at hSw); go_simp; (try with_reducible rfl))); clear hcl; intro hcl; (try simp only [Act.put, nA, nB, nC, nD, nE, nF]))
 refine jK (i := 14) rfl (by kernel_rfl) hcl (fun K hK => ?_)
 go_simp
 refine (cN.out _).mono ?_
 rintro r v4 ⟨rfl, hv4⟩
 have hC' := jP hC (Nat.le_refl _) hv4
 refine hK.out _ _ hC' trivial ?_
 clear hK K
 clear hcl
 intro hcl
 (try simp only [Act.put, nA, nB, nC, nD, nE, nF])
 clear hC
 have hC := hC'
 clear hC'
 (refine mT 15 ?_ rfl hcl hC hE ?_ ?_; rotate_left; (· (intro w hSw; (try dsimp only at hSw); go_simp; (try with_reducible rfl))); clear hcl; intro hcl; (try simp only [Act.put, nA, nB, nC, nD, nE, nF]))
 (refine mT 16 ?_ rfl hcl hC hE ?_ ?_; rotate_left; (· (intro w hSw; (try dsimp only at hSw); go_simp; (try with_reducible rfl))); clear hcl; intro hcl; (try simp only [Act.put, nA, nB, nC, nD, nE, nF]))
 refine wpM_done (by kernel_rfl) ?_
 clear hcl
 try simp only [List.getElem_toArray, List.getElem_cons_zero, List.getElem_cons_succ, List.setIfInBounds_toArray, List.set_cons_zero, List.set_cons_succ]
 rw [hH.out]
 have hb4 : Below w1.heap.size w1 v4 := hC.1
 clear hC hE hv1 hv2 hv3 hv4
 have hbx4 := jD hbx1 hb4
 have hG4 := hb0.trans ((hb1.trans (hb4.mono hb1.size)).mono hz0)
 clear hltx q0 q1 q2 q3 q4 q5 q6 q7 q8 q9 q10 q11 hs1 hs2 hs3 wn cI cV cU cN hb1 hbx1 hb4
 have hltx := jB hbx4
 have q11 := jA hbx4 11
 simp at q11
 go_wp2_with fail
 rw [h00.out]
 go_loopg [6, 37] (n + 1) (fun g o i wr => ∃ k : Nat, k ≤ n ∧ g = n + 1 - k ∧ i = .int .i64 (k : Int) ∧ o = .string (bs (partX (headX x v true n) (ps.map Pe.core) k)) ∧ Below w.heap.size w wr)
 case atStart => exact ⟨0, Nat.zero_le _, rfl, rfl, rfl, hG4⟩
 case round =>
  clear hG4 hbx4 q11 hltx
  obtain ⟨k, hk, rfl, rfl, rfl, hbr⟩ := hrel
  have hpl := hPL.out k
  by_cases hlt : k < n
  ·
   obtain ⟨bA, oA, p, rfl, hbA, hq, hcp⟩ := (hAr.out wr hbr).1.at_ hlt
   have hpm := List.mem_of_getElem? hq
   have p0 := hcp 0 _ rfl
   have p1 := hcp 1 _ rfl
   have p2 := hcp 2 _ rfl
   have p3 := hcp 3 _ rfl
   have p4 := hcp 4 _ rfl
   have p5 := hcp 5 _ rfl
   have p6 := hcp 6 _ rfl
   have p7 := hcp 7 _ rfl
   have p8 := hcp 8 _ rfl
   have p9 := hcp 9 _ rfl
   rw [Nat.add_zero] at p0
   clear hcp
   have hlti : (k : Int) < (n : Int) := by omega
   have hzr := hbr.size
   have hbA2 : bA < wr.heap.size := by omega
   have hst := jH (show bs (partX (headX x v true n) (ps.map Pe.core) k) ++ (bs (textB p.key) ++ bs (writeE p.e)) = bs (partX (headX x v true n) (ps.map Pe.core) (k + 1)) by
    have h := partX_succ (headX x v true n) (ps := ps.map Pe.core) (k := k) (p := p.core) (by rw [List.getElem?_map, hq]; rfl)
    rw [jM, jM]; exact congrArg bs h)
   have htl := textB_len (e := p.key) (by have := hkH.out p hpm; omega)
   have hkl2 := hkH.out p hpm
   have hel := writeE_len p.e (hwH.out p hpm)
   have hs5 : ¬ 9223372036854775807 < (bs (textB p.key)).size + (bs (writeE p.e)).size := by rw [jG, jG]; omega
   have hs6 : ¬ 9223372036854775807 < (bs (partX (headX x v true n) (ps.map Pe.core) k)).size + ((bs (textB p.key)).size + (bs (writeE p.e)).size) := by rw [jG, jG, jG]; omega
   have c1 := jH (cE.out p hpm)
   have c2 := jH (cT.out p.key hkl2)
   clear hq hpm hpl htl hkl2 hel
   go_upto_region 11 with (fail)
   obtain ⟨wb, hwb⟩ : ∃ wb, wr.alloc (.cells #[.string (bs p.key), .int .i64 p.e.act, .string (bs p.e.name), .int .i64 p.e.val, .int .i64 p.e.tag.1.1, .int .u32 p.e.tag.1.2, .int .i64 p.e.tag.2, .int .u32 p.e.st.1, .int .i64 p.e.st.2, .slice p.A p.l p.c] 159) = wb := ⟨_, rfl⟩
   have hbb : wb.heap[wr.heap.size]? = some (.cells #[.string (bs p.key), .int .i64 p.e.act, .string (bs p.e.name), .int .i64 p.e.val, .int .i64 p.e.tag.1.1, .int .u32 p.e.tag.1.2, .int .i64 p.e.tag.2, .int .u32 p.e.st.1, .int .i64 p.e.st.2, .slice p.A p.l p.c] 159 (0, 0)) := by rw [← hwb]; exact jT _ _ rfl
   have hvb : Below wr.heap.size wr wb := by rw [← hwb]; exact (Below.refl _ wr).alloc (Nat.le_refl _) _
   rw [hwb]
   clear hwb p0 p1 p2 p3 p4 p5 p6 p7 p8 p9 hbA2
   have hGb := hbr.trans (hvb.mono hzr)
   have hlb := jB hbb
   have r0 := jA hbb 0
   have r1 := jA hbb 1
   have r2 := jA hbb 2
   have r3 := jA hbb 3
   have r4 := jA hbb 4
   have r5 := jA hbb 5
   have r6 := jA hbb 6
   have r7 := jA hbb 7
   have r8 := jA hbb 8
   have r9 := jA hbb 9
   simp at r0 r1 r2 r3 r4 r5 r6 r7 r8 r9
   clear hbr hvb
   go_wp2_with fail
   refine (c1.out wb hGb).mono ?_
   rintro r v1 ⟨rfl, hv1⟩
   have hb1 := jD hbb hv1
   have hG1 := hGb.trans (hv1.mono hGb.size)
   clear hlb r0 r1 r2 r3 r4 r5 r6 r7 r8 r9
   have hlb := jB hb1
   have r0 := jA hb1 0
   simp at r0
   go_wp2_with fail
   refine (c2.out _).mono ?_
   rintro r v2 ⟨rfl, hv2⟩
   have hG2 := hG1.trans (hv2.mono hG1.size)
   clear hlb r0 hb1 hbb hv1 hv2 hG1 hGb
   go_wp2
   go_roundg (n + 1 - (k + 1))
   case measure => omega
   case rel => exact ⟨k + 1, by omega, rfl, by go_num, congrArg Value.string hst.out, hG2⟩
  ·
   obtain rfl : k = n := by omega
   have hnli : ¬ (k : Int) < (k : Int) := by omega
   have hT : Hid (bs (partX (headX x v true k) (ps.map Pe.core) k) = bs out) := jH (by rw [hrH.out])
   go_wp2
   refine bodyPost_ret (v := .tuple #[.string (bs out), .int .i64 0]) (by simp [results, Tryz.results57, go_sem, hT.out]) rfl ⟨rfl, hbr⟩
theorem xwriteF_any (x : Im) (v : Vm) (A : Option Addr) (n c : Nat) (ps : List Pe) (w : World) (hA : RdE w w.heap.size A n ps) (hn : n ≤ 100000) (hf : ∀ p ∈ ps, p.Fit w) (hkl : ∀ p ∈ ps, p.key.length ≤ 1000) (hx : x.wf) (hvw : v.wf) (hv : VarM w) :
 Calls Tryz.prog 57 #[.agg #[.int .i64 x.1, .int .u32 x.2, .int .u32 v.d0, .int .u32 v.d1, .int .u32 v.d2, .int .u32 v.d3, .int .u32 v.d4, .int .u32 v.d5, .int .u32 v.d6, .int .u32 v.d7, .bool false, .slice A n c]] w fun r w' => r = .returned (.tuple #[.string (bs (writeX x v false (ps.map Pe.core))), .int .i64 (txErr x v (ps.map Pe.core))]) ∧ Below w.heap.size w w' := by
 have hb0 : Below w.heap.size w (w.alloc (.cells #[.int .i64 x.1, .int .u32 x.2, .int .u32 v.d0, .int .u32 v.d1, .int .u32 v.d2, .int .u32 v.d3, .int .u32 v.d4, .int .u32 v.d5, .int .u32 v.d6, .int .u32 v.d7, .bool false, .slice A n c] 45)) := (Below.refl _ w).alloc (Nat.le_refl _) _
 have hbx : (w.alloc (.cells #[.int .i64 x.1, .int .u32 x.2, .int .u32 v.d0, .int .u32 v.d1, .int .u32 v.d2, .int .u32 v.d3, .int .u32 v.d4, .int .u32 v.d5, .int .u32 v.d6, .int .u32 v.d7, .bool false, .slice A n c] 45)).heap[w.heap.size]? = some (.cells #[.int .i64 x.1, .int .u32 x.2, .int .u32 v.d0, .int .u32 v.d1, .int .u32 v.d2, .int .u32 v.d3, .int .u32 v.d4, .int .u32 v.d5, .int .u32 v.d6, .int .u32 v.d7, .bool false, .slice A n c] 45 (0, 0)) := jT _ _ rfl
 generalize hW : w.alloc (.cells #[.int .i64 x.1, .int .u32 x.2, .int .u32 v.d0, .int .u32 v.d1, .int .u32 v.d2, .int .u32 v.d3, .int .u32 v.d4, .int .u32 v.d5, .int .u32 v.d6, .int .u32 v.d7, .bool false, .slice A n c] 45) = W at hb0 hbx
 have hz0 := hb0.size
 have hck := jH (txcheck_any x v false A n c ps W ((hA.below hb0).more hb0.size) (by simp [maxLen]; omega) (fun p hp => (hf p hp).below hb0) hx hvw (hv.below hb0 hv.lt))
 have hbxH := jH hbx
 have hnl := jH hA.len
 have hAr := jH (fun w' (h : Below w.heap.size w w') => hA.below h)
 have hltx := jB hbx
 generalize hr : writeX x v false (ps.map Pe.core) = out
 unfold writeX at hr
 have hwH := jH (fun p hp => (hf p hp).wf)
 have hnH := jH (fun p hp => (hf p hp).name)
 have hlH := jH (fun p hp => (hf p hp).l)
 have hkH := jH hkl
 have q0 := jA hbx 0
 have q1 := jA hbx 1
 have q2 := jA hbx 2
 have q3 := jA hbx 3
 have q4 := jA hbx 4
 have q5 := jA hbx 5
 have q6 := jA hbx 6
 have q7 := jA hbx 7
 have q8 := jA hbx 8
 have q9 := jA hbx 9
 have q10 := jA hbx 10
 have q11 := jA hbx 11
 simp at q0 q1 q2 q3 q4 q5 q6 q7 q8 q9 q10 q11
 by_cases hp : txErr x v (ps.map Pe.core) = 0
 case neg =>
  rw [if_pos hp] at hr
  subst hr
  generalize txErr x v (ps.map Pe.core) = p at *
  have hpn : (p != 0) = true := by simpa using hp
  clear hp hbx hA hf hkl
  go_enter Tryz.func57, Tryz.ntmps57
  go_wp2_with fail
  refine hck.out.mono ?_
  rintro r w1 ⟨rfl, hv1⟩
  have hG := hb0.trans (hv1.mono hb0.size)
  go_wp2
  refine bodyPost_ret (v := .tuple #[.string (bs []), .int .i64 p]) (by simp [results, Tryz.results57, go_sem, bs_nil]) rfl ⟨rfl, hG⟩
 rw [if_neg (by simp [hp])] at hr
 rw [hp] at hck ⊢
 have hn16 : n ≤ 16 := by have := (txErr_zero hp).1; rw [List.length_map, hnl.out] at this; exact this
 have hhl := headX_len x hvw false n hn16
 have hH : Hid (bs (writeI x) ++ bs (writeV v) ++ bs (numB 0) ++ bs (numB n) = bs (headX x v false n)) := jH (by rw [jM, jM, jM]; rfl)
 have a1 := writeI_len x
 have a2 : (writeV v).length ≤ 9 + 9 * 8 := Nat.le_trans (partV_len hvw (longV v)) (by have := longV_le v; omega)
 have a3 := jN 0 (by decide)
 have a4 := jN n (by omega)
 have hs1 : ¬ 9223372036854775807 < (bs (writeI x)).size + (bs (writeV v)).size := by rw [jG, jG]; omega
 have hs2 : ¬ 9223372036854775807 < (bs (writeI x)).size + (bs (writeV v)).size + (bs (numB 0)).size := by rw [jG, jG, jG]; omega
 have hs3 : ¬ 9223372036854775807 < (bs (writeI x)).size + (bs (writeV v)).size + (bs (numB 0)).size + (bs (numB n)).size := by rw [jG, jG, jG, jG]; omega
 have wn : IntKind.u64.wrap (n : Int) = n := IntWalk.u64_in _ (by omega)
 have cI := jH (fun w => idw_any x hx w)
 have cV := jH (fun w => vwrite_any v hvw w)
 have cU := jH (fun w => show Calls Tryz.prog 93 #[.int .u64 0] w fun e w' => e = .returned (.string (bs (numB 0))) ∧ Below w.heap.size w w' from num_any 0 (by decide) w)
 have cN := jH (fun w => num_any n (by omega) w)
 have cT := jH (fun s (hs : s.length ≤ 1000) w => pwtext_any s (by omega) w)
 have cE := jH (fun p (hp : p ∈ ps) w' (h : Below w.heap.size w w') => owrite_any p.e p.A p.l p.c w' (((hAr.out w' h).2 p hp).more h.size) (hlH.out p hp) (hwH.out p hp) (hnH.out p hp))
 have hPL := jH (fun k => partX_len (headX x v false n) (ps.map Pe.core) k (by rw [List.length_map, hnl.out]; exact hn16) (fun q hq => by obtain ⟨p, hp, rfl⟩ := List.mem_map.1 hq; exact hkl p hp) (fun q hq => by obtain ⟨p, hp, rfl⟩ := List.mem_map.1 hq; exact (hf p hp).wf))
 have hrH : Hid (partX (headX x v false n) (ps.map Pe.core) n = out) := jH (by rw [List.length_map, hnl.out] at hr; exact hr)
 have h00 : Hid (headX x v false n = partX (headX x v false n) (ps.map Pe.core) 0) := jH (by simp [partX])
 clear a1 a2 a3 a4 hp hbx hA hf hr hkl
 go_enter Tryz.func57, Tryz.ntmps57
 go_wp2_with fail
 refine hck.out.mono ?_
 rintro r w1 ⟨rfl, hb1⟩
 have hbx1 := jD hbxH.out hb1
 clear hltx hck q0 q1 q2 q3 q4 q5 q6 q7 q8 q9 q10 q11
 have hltx := jB hbx1
 have q0 := jA hbx1 0
 have q1 := jA hbx1 1
 have q2 := jA hbx1 2
 have q3 := jA hbx1 3
 have q4 := jA hbx1 4
 have q5 := jA hbx1 5
 have q6 := jA hbx1 6
 have q7 := jA hbx1 7
 have q8 := jA hbx1 8
 have q9 := jA hbx1 9
 have q10 := jA hbx1 10
 have q11 := jA hbx1 11
 simp at q0 q1 q2 q3 q4 q5 q6 q7 q8 q9 q10 q11
 go_upto_region 7 with (fail)
 refine jW (fun w' => KQ w1.heap.size w1 w') (fun _ => True) 99 (by kernel_rfl) (kq (Below.refl _ _).drew) trivial ?_
 intro hcl
 have hC : KQ w1.heap.size w1 w1.drew := kq (Below.refl _ _).drew
 have hE := trivial
 (refine mT 0 ?_ rfl hcl hC hE ?_ ?_; rotate_left; (· (intro w hSw; (try dsimp only at hSw); go_simp; (try with_reducible rfl))); clear hcl; intro hcl; (try simp only [Act.put, List.getElem_toArray, List.getElem_cons_zero, List.setIfInBounds_toArray, List.set_cons_zero, List.set_cons_succ]))
 (refine mT 1 ?_ rfl hcl hC hE ?_ ?_; rotate_left; (· (intro w hSw; (try dsimp only at hSw); go_simp; (try with_reducible rfl))); clear hcl; intro hcl; (try simp only [Act.put, nA, nB, nC, nD, nE, nF]))
 (refine mT 3 ?_ rfl hcl hC hE ?_ ?_; rotate_left; (· (intro w hSw; (try dsimp only at hSw); go_simp; (try with_reducible rfl))); clear hcl; intro hcl; (try simp only [Act.put, nA, nB, nC, nD, nE, nF]))
 (refine mT 4 ?_ rfl hcl hC hE ?_ ?_; rotate_left; (· (intro w hSw; (try dsimp only at hSw); go_simp; (try with_reducible rfl))); clear hcl; intro hcl; (try simp only [Act.put, nA, nB, nC, nD, nE, nF]))
 (refine mT 7 ?_ rfl hcl hC hE ?_ ?_; rotate_left; (· (intro w hSw; (try dsimp only at hSw); go_simp; (try with_reducible rfl))); clear hcl; intro hcl; (try simp only [Act.put, nA, nB, nC, nD, nE, nF]))
 (refine mT 10 ?_ rfl hcl hC hE ?_ ?_; rotate_left; (· (intro w hSw; (try dsimp only at hSw); go_simp; (try with_reducible rfl))); clear hcl; intro hcl; (try simp only [Act.put, nA, nB, nC, nD, nE, nF]))
 (refine mT 11 ?_ rfl hcl hC hE ?_ ?_; rotate_left; (· (intro w hSw; (try dsimp only at hSw); go_simp; (try with_reducible rfl))); clear hcl; intro hcl; (try simp only [Act.put, nA, nB, nC, nD, nE, nF]))
 (refine mT 12 ?_ rfl hcl hC hE ?_ ?_; rotate_left; (· (intro w hSw; (try dsimp only at hSw); go_simp; (try with_reducible rfl))); clear hcl; intro hcl; (try simp only [Act.put, nA, nB, nC, nD, nE, nF]))
 (refine mT 13 ?_ rfl hcl hC hE ?_ ?_; rotate_left; (· (intro w hSw; (try dsimp only at hSw); go_simp; (try with_reducible rfl))); clear hcl; intro hcl; (try simp only [Act.put, nA, nB, nC, nD, nE, nF]))
 refine jK (i := 2) rfl (by kernel_rfl) hcl (fun K hK => ?_)
 go_simp
 refine (cI.out _).mono ?_
 rintro r v1 ⟨rfl, hv1⟩
 have hC' := jP hC (Nat.le_refl _) hv1
 refine hK.out _ _ hC' trivial ?_
 clear hK K
 clear hcl
 intro hcl
 (try simp only [Act.put, nA, nB, nC, nD, nE, nF])
 clear hC
 have hC := hC'
 clear hC'
 refine jK (i := 5) rfl (by kernel_rfl) hcl (fun K hK => ?_)
 go_simp
 refine (cV.out _).mono ?_
 rintro r v2 ⟨rfl, hv2⟩
 have hC' := jP hC (Nat.le_refl _) hv2
 refine hK.out _ _ hC' trivial ?_
 clear hK K
 clear hcl
 intro hcl
 (try simp only [Act.put, nA, nB, nC, nD, nE, nF])
 clear hC
 have hC := hC'
 clear hC'
 (refine mT 6 ?_ rfl hcl hC hE ?_ ?_; rotate_left; (· (intro w hSw; (try dsimp only at hSw); go_simp; (try with_reducible rfl))); clear hcl; intro hcl; (try simp only [Act.put, nA, nB, nC, nD, nE, nF]))
 refine jK (i := 8) rfl (by kernel_rfl) hcl (fun K hK => ?_)
 go_simp
 refine (cU.out _).mono ?_
 rintro r v3 ⟨rfl, hv3⟩
 have hC' := jP hC (Nat.le_refl _) hv3
 refine hK.out _ _ hC' trivial ?_
 clear hK K
 clear hcl
 intro hcl
 (try simp only [Act.put, nA, nB, nC, nD, nE, nF])
 clear hC
 have hC := hC'
 clear hC'
 (refine mT 9 ?_ rfl hcl hC hE ?_ ?_; rotate_left; (· (intro w hSw; (try dsimp only at hSw); go_simp; (try with_reducible rfl))); clear hcl; intro hcl; (try simp only [Act.put, nA, nB, nC, nD, nE, nF]))
 refine jK (i := 14) rfl (by kernel_rfl) hcl (fun K hK => ?_)
 go_simp
 refine (cN.out _).mono ?_
 rintro r v4 ⟨rfl, hv4⟩
 have hC' := jP hC (Nat.le_refl _) hv4
 refine hK.out _ _ hC' trivial ?_
 clear hK K
 clear hcl
 intro hcl
 (try simp only [Act.put, nA, nB, nC, nD, nE, nF])
 clear hC
 have hC := hC'
 clear hC'
 (refine mT 15 ?_ rfl hcl hC hE ?_ ?_; rotate_left; (· (intro w hSw; (try dsimp only at hSw); go_simp; (try with_reducible rfl))); clear hcl; intro hcl; (try simp only [Act.put, nA, nB, nC, nD, nE, nF]))
 (refine mT 16 ?_ rfl hcl hC hE ?_ ?_; rotate_left; (· (intro w hSw; (try dsimp only at hSw); go_simp; (try with_reducible rfl))); clear hcl; intro hcl; (try simp only [Act.put, nA, nB, nC, nD, nE, nF]))
 refine wpM_done (by kernel_rfl) ?_
 clear hcl
 try simp only [List.getElem_toArray, List.getElem_cons_zero, List.getElem_cons_succ, List.setIfInBounds_toArray, List.set_cons_zero, List.set_cons_succ]
 rw [hH.out]
 have hb4 : Below w1.heap.size w1 v4 := hC.1
 clear hC hE hv1 hv2 hv3 hv4
 have hbx4 := jD hbx1 hb4
 have hG4 := hb0.trans ((hb1.trans (hb4.mono hb1.size)).mono hz0)
 clear hltx q0 q1 q2 q3 q4 q5 q6 q7 q8 q9 q10 q11 hs1 hs2 hs3 wn cI cV cU cN hb1 hbx1 hb4
 have hltx := jB hbx4
 have q11 := jA hbx4 11
 simp at q11
 go_wp2_with fail
 rw [h00.out]
 go_loopg [6, 37] (n + 1) (fun g o i wr => ∃ k : Nat, k ≤ n ∧ g = n + 1 - k ∧ i = .int .i64 (k : Int) ∧ o = .string (bs (partX (headX x v false n) (ps.map Pe.core) k)) ∧ Below w.heap.size w wr)
 case atStart => exact ⟨0, Nat.zero_le _, rfl, rfl, rfl, hG4⟩
 case round =>
  clear hG4 hbx4 q11 hltx
  obtain ⟨k, hk, rfl, rfl, rfl, hbr⟩ := hrel
  have hpl := hPL.out k
  by_cases hlt : k < n
  ·
   obtain ⟨bA, oA, p, rfl, hbA, hq, hcp⟩ := (hAr.out wr hbr).1.at_ hlt
   have hpm := List.mem_of_getElem? hq
   have p0 := hcp 0 _ rfl
   have p1 := hcp 1 _ rfl
   have p2 := hcp 2 _ rfl
   have p3 := hcp 3 _ rfl
   have p4 := hcp 4 _ rfl
   have p5 := hcp 5 _ rfl
   have p6 := hcp 6 _ rfl
   have p7 := hcp 7 _ rfl
   have p8 := hcp 8 _ rfl
   have p9 := hcp 9 _ rfl
   rw [Nat.add_zero] at p0
   clear hcp
   have hlti : (k : Int) < (n : Int) := by omega
   have hzr := hbr.size
   have hbA2 : bA < wr.heap.size := by omega
   have hst := jH (show bs (partX (headX x v false n) (ps.map Pe.core) k) ++ (bs (textB p.key) ++ bs (writeE p.e)) = bs (partX (headX x v false n) (ps.map Pe.core) (k + 1)) by
    have h := partX_succ (headX x v false n) (ps := ps.map Pe.core) (k := k) (p := p.core) (by rw [List.getElem?_map, hq]; rfl)
    rw [jM, jM]; exact congrArg bs h)
   have htl := textB_len (e := p.key) (by have := hkH.out p hpm; omega)
   have hkl2 := hkH.out p hpm
   have hel := writeE_len p.e (hwH.out p hpm)
   have hs5 : ¬ 9223372036854775807 < (bs (textB p.key)).size + (bs (writeE p.e)).size := by rw [jG, jG]; omega
   have hs6 : ¬ 9223372036854775807 < (bs (partX (headX x v false n) (ps.map Pe.core) k)).size + ((bs (textB p.key)).size + (bs (writeE p.e)).size) := by rw [jG, jG, jG]; omega
   have c1 := jH (cE.out p hpm)
   have c2 := jH (cT.out p.key hkl2)
   clear hq hpm hpl htl hkl2 hel
   go_upto_region 11 with (fail)
   obtain ⟨wb, hwb⟩ : ∃ wb, wr.alloc (.cells #[.string (bs p.key), .int .i64 p.e.act, .string (bs p.e.name), .int .i64 p.e.val, .int .i64 p.e.tag.1.1, .int .u32 p.e.tag.1.2, .int .i64 p.e.tag.2, .int .u32 p.e.st.1, .int .i64 p.e.st.2, .slice p.A p.l p.c] 159) = wb := ⟨_, rfl⟩
   have hbb : wb.heap[wr.heap.size]? = some (.cells #[.string (bs p.key), .int .i64 p.e.act, .string (bs p.e.name), .int .i64 p.e.val, .int .i64 p.e.tag.1.1, .int .u32 p.e.tag.1.2, .int .i64 p.e.tag.2, .int .u32 p.e.st.1, .int .i64 p.e.st.2, .slice p.A p.l p.c] 159 (0, 0)) := by rw [← hwb]; exact jT _ _ rfl
   have hvb : Below wr.heap.size wr wb := by rw [← hwb]; exact (Below.refl _ wr).alloc (Nat.le_refl _) _
   rw [hwb]
   clear hwb p0 p1 p2 p3 p4 p5 p6 p7 p8 p9 hbA2
   have hGb := hbr.trans (hvb.mono hzr)
   have hlb := jB hbb
   have r0 := jA hbb 0
   have r1 := jA hbb 1
   have r2 := jA hbb 2
   have r3 := jA hbb 3
   have r4 := jA hbb 4
   have r5 := jA hbb 5
   have r6 := jA hbb 6
   have r7 := jA hbb 7
   have r8 := jA hbb 8
   have r9 := jA hbb 9
   simp at r0 r1 r2 r3 r4 r5 r6 r7 r8 r9
   clear hbr hvb
   go_wp2_with fail
   refine (c1.out wb hGb).mono ?_
   rintro r v1 ⟨rfl, hv1⟩
   have hb1 := jD hbb hv1
   have hG1 := hGb.trans (hv1.mono hGb.size)
   clear hlb r0 r1 r2 r3 r4 r5 r6 r7 r8 r9
   have hlb := jB hb1
   have r0 := jA hb1 0
   simp at r0
   go_wp2_with fail
   refine (c2.out _).mono ?_
   rintro r v2 ⟨rfl, hv2⟩
   have hG2 := hG1.trans (hv2.mono hG1.size)
   clear hlb r0 hb1 hbb hv1 hv2 hG1 hGb
   go_wp2
   go_roundg (n + 1 - (k + 1))
   case measure => omega
   case rel => exact ⟨k + 1, by omega, rfl, by go_num, congrArg Value.string hst.out, hG2⟩
  ·
   obtain rfl : k = n := by omega
   have hnli : ¬ (k : Int) < (k : Int) := by omega
   have hT : Hid (bs (partX (headX x v false k) (ps.map Pe.core) k) = bs out) := jH (by rw [hrH.out])
   go_wp2
   refine bodyPost_ret (v := .tuple #[.string (bs out), .int .i64 0]) (by simp [results, Tryz.results57, go_sem, hT.out]) rfl ⟨rfl, hbr⟩
theorem xwrite_any (x : Im) (v : Vm) (t : Bool) (A : Option Addr) (n c : Nat) (ps : List Pe) (w : World) (hA : RdE w w.heap.size A n ps) (hn : n ≤ 100000) (hf : ∀ p ∈ ps, p.Fit w) (hkl : ∀ p ∈ ps, p.key.length ≤ 1000) (hx : x.wf) (hvw : v.wf) (hv : VarM w) :
 Calls Tryz.prog 57 #[.agg #[.int .i64 x.1, .int .u32 x.2, .int .u32 v.d0, .int .u32 v.d1, .int .u32 v.d2, .int .u32 v.d3, .int .u32 v.d4, .int .u32 v.d5, .int .u32 v.d6, .int .u32 v.d7, .bool t, .slice A n c]] w fun r w' => r = .returned (.tuple #[.string (bs (writeX x v t (ps.map Pe.core))), .int .i64 (txErr x v (ps.map Pe.core))]) ∧ Below w.heap.size w w' := by
 cases t with
 | true => exact xwriteT_any x v A n c ps w hA hn hf hkl hx hvw hv
 | false => exact xwriteF_any x v A n c ps w hA hn hf hkl hx hvw hv
end Go.Proofs.YtfhandglpjnonaaGreatDoor
