/- inst.Write: a message's bytes. -/
import Derived.Test.YtfhandglpjnonaaGreatDoorN32
namespace Go.Proofs.YtfhandglpjnonaaGreatDoor
open Go.RowKit
structure Mm.Nn (m : Mm) : Prop where
 ep : 0 ≤ m.ep
 b : 0 ≤ m.b.1
 vv : 0 ≤ m.vv.1
 an : 0 ≤ m.an
structure MsgOk (m : Mm) : Prop where
 k0 : 1 ≤ m.kd
 k1 : m.kd ≤ 8
 f : 0 ≤ m.fr ∧ m.fr ≤ 7
 d : 0 ≤ m.dst ∧ m.dst ≤ 7
 e : m.ep ≤ 1048576
 s : 0 ≤ m.st ∧ m.st ≤ 4
 i : chk m.i = true
 b : balE m.b.1 m.b.2 = 0
 v : balE m.vv.1 m.vv.2 = 0
 n : m.an ≤ 1048576
 a : vchk m.av = true
 c : cmdErr m.c.val = 0
 kept : sameMm (keptM m) m = true
theorem errI_zero {b : Bool} (h : errI b = 0) : b = true := by cases b with
 | true => rfl
 | false => cases h
theorem msgErr_zero {m : Mm} (h : msgErr m = 0) : MsgOk m := by
 unfold msgErr at h
 have h1 : ¬ m.kd < 1 := fun hn => by rw [if_pos hn] at h; cases h
 rw [if_neg h1] at h
 have h2 : ¬ 8 < m.kd := fun hn => by rw [if_pos hn] at h; cases h
 rw [if_neg h2] at h
 have h3 : ¬ rangeBad m = true := fun hn => by rw [if_pos hn] at h; cases h
 rw [if_neg h3] at h
 have h4 : fieldsE m = 0 := Classical.byContradiction fun hn => by rw [if_pos hn] at h; exact hn h
 rw [if_neg (by simp [h4])] at h
 have h5 : sameMm (keptM m) m = true := Classical.byContradiction fun hn => by rw [if_neg hn] at h; cases h
 unfold fieldsE at h4
 have a1 : errI (chk m.i) = 0 := Classical.byContradiction fun hn => by rw [if_pos hn] at h4; exact hn h4
 rw [if_neg (by simp [a1])] at h4
 have a2 : balE m.b.1 m.b.2 = 0 := Classical.byContradiction fun hn => by rw [if_pos hn] at h4; exact hn h4
 rw [if_neg (by simp [a2])] at h4
 have a3 : balE m.vv.1 m.vv.2 = 0 := Classical.byContradiction fun hn => by rw [if_pos hn] at h4; exact hn h4
 rw [if_neg (by simp [a3])] at h4
 have a4 : ¬ 1048576 < m.an := fun hn => by rw [if_pos hn] at h4; cases h4
 rw [if_neg a4] at h4
 have a5 : errI (vchk m.av) = 0 := Classical.byContradiction fun hn => by rw [if_pos hn] at h4; exact hn h4
 rw [if_neg (by simp [a5])] at h4
 unfold rangeBad membP at h3
 simp only [Bool.or_eq_true, Bool.not_eq_true', Bool.and_eq_false_iff, decide_eq_false_iff_not, decide_eq_true_eq, not_or] at h3
 obtain ⟨⟨⟨⟨b1, b2⟩, b3⟩, b4⟩, b5⟩ := h3
 exact ⟨by omega, by omega, ⟨by omega, by omega⟩, ⟨by omega, by omega⟩, by omega, ⟨by omega, by omega⟩, errI_zero a1, a2, a3, by omega, errI_zero a5, h4, h5⟩
def wMsg (m : Mm) : List UInt8 := if msgErr m ≠ 0 then [] else wM m.val
theorem wC_len {c : Cv} (h : cmdErr c = 0) (hs : c.Wri) : (wC c).length ≤ 3000100 := by
 obtain ⟨hk, -⟩ := cmdErr_zero h
 have hx := writeX_len (x := c.t.id) (v := c.t.deps) (t := c.t.thin) (ps := c.t.parts) hs.v (fun p hp => by have := (hs.ok p hp).1; omega) hs.wf
 have hu := writeVq_len hs.u
 unfold wC
 rcases hk with h0 | h1 | h2 | h3
 ·
  rw [if_neg (by omega), if_neg (by omega), if_neg (by omega)]; have := jN 0 (by decide); omega
 ·
  have a1 := jN c.snap.toNat (by have := h1.s1; have := h1.s0; omega)
  have a2 := jN 1 (by decide)
  rw [if_pos h1.k]; simp only [List.length_append]; omega
 ·
  have a1 := jN c.who.toNat (by omega)
  have a2 := jN 2 (by decide)
  rw [if_neg (by omega), if_pos h2.1]; simp only [List.length_append]; omega
 ·
  have a1 := jN c.snap.toNat (by have := h3.s1; have := h3.s0; omega)
  have a2 := jN 3 (by decide)
  have a3 := jN c.mem.length (by have := h3.m; omega)
  have a4 := writeZs_len c.mem h3.z
  have a5 := h3.m
  have hk := h3.k
  rw [if_neg (by omega), if_neg (by omega), if_pos h3.k]; simp only [List.length_append]; omega
set_option maxRecDepth 100000 in
set_option maxHeartbeats 16000000 in
theorem mwrite_any (m : Mm) (w : World) (hSm : m.Wri w) (hN : m.Nn) (hVM : VarM w) :
 Calls Tryz.prog 15 #[.agg ↑m] w fun e w' => e = .returned (.tuple #[.string (bs (wMsg m)), .int .i64 (msgErr m)]) ∧ Below w.heap.size w w' := by
 have hb0 : Below w.heap.size w (w.alloc (.cells ↑m 50)) := (Below.refl _ w).alloc (Nat.le_refl _) _
 have hbA : (w.alloc (.cells ↑m 50)).heap[w.heap.size]? = some (.cells ↑m 50 (0, 0)) := jT _ _ rfl
 generalize hW : (w.alloc (.cells ↑m 50)) = W at hb0 hbA
 have hz0 := hb0.size
 have hltA := jB hbA
 have hbAH := jH hbA
 have cK := jH (imchk_any m W (hSm.below hb0).fit (hVM.below hb0 hVM.lt))
 generalize hr : wMsg m = q
 unfold wMsg at hr
 by_cases hE0 : msgErr m = 0
 case neg =>
  rw [if_pos hE0] at hr
  subst hr
  generalize msgErr m = e0 at cK hE0
  have hd : (e0 != 0) = true := by simpa using hE0
  clear hbA hN hSm hVM
  go_enter Tryz.func15, Tryz.ntmps15
  go_upto_region 1 with (fail)
  clear hW
  refine wp_region_list ?_
  refine wpList_load_row rfl _ _ rfl (w.heap.size) rfl 50 _ (0, 0) _ hbAH.out Tryz.underlying50 rfl (by kernel_rfl) ?_
  (try simp only [Act.put, List.setIfInBounds_toArray, List.set_cons_zero, List.set_cons_succ])
  go_wp2_with fail
  refine cK.out.mono ?_
  rintro e w1 ⟨rfl, hb1⟩
  have hG1 := hb0.trans (hb1.mono hz0)
  go_wp2
  exact bodyPost_ret (v := .tuple #[.string (bs []), .int .i64 e0]) (by simp [results, Tryz.results15, go_sem, bs_nil]) rfl ⟨rfl, hG1⟩
 rw [if_neg (by simp [hE0])] at hr
 have hok := msgErr_zero hE0
 rw [hE0] at cK ⊢
 have hI := hSm.i
 have hAV := hSm.av
 have hCS := jH (fun w' (h : Below w.heap.size w w') => hSm.c.below h)
 have hVr := jH (fun w' (h : Below w.heap.size w w') => hVM.below h hVM.lt)
 have hcl := wC_len hok.c hSm.c.v
 obtain ⟨mv, hmv⟩ : ∃ x, x = m.val := ⟨_, rfl⟩
 rw [← hmv] at hr
 obtain ⟨kd, fr, dst, ep, i, ⟨b1, b2⟩, st, ⟨v1, v2⟩, c, an, av⟩ := m
 obtain ⟨hk0, hk1, ⟨hf0, hf1⟩, ⟨hd0, hd1⟩, he1, ⟨hs0, hs1⟩, hi, hb, hv, hn1, ha, hc0, -⟩ := hok
 obtain ⟨he0, hb10, hv10, hn0⟩ := hN
 dsimp only at *
 obtain ⟨kd, rfl⟩ := Int.eq_ofNat_of_zero_le (show 0 ≤ kd by omega)
 obtain ⟨fr, rfl⟩ := Int.eq_ofNat_of_zero_le hf0
 obtain ⟨dst, rfl⟩ := Int.eq_ofNat_of_zero_le hd0
 obtain ⟨ep, rfl⟩ := Int.eq_ofNat_of_zero_le he0
 obtain ⟨st, rfl⟩ := Int.eq_ofNat_of_zero_le hs0
 obtain ⟨an, rfl⟩ := Int.eq_ofNat_of_zero_le hn0
 have cKd := jH (fun w' => numZ_any kd (by omega) w')
 have cFr := jH (fun w' => numZ_any fr (by omega) w')
 have cDs := jH (fun w' => numZ_any dst (by omega) w')
 have cEp := jH (fun w' => numZ_any ep (by omega) w')
 have cSt := jH (fun w' => numZ_any st (by omega) w')
 have cAn := jH (fun w' => numZ_any an (by omega) w')
 have cI := jH (fun w' => idw_any i hI w')
 have cB := jH (fun w' => balw_any b1 b2 hb10 w')
 have cU := jH (fun w' => balw_any v1 v2 hv10 w')
 have cV := jH (fun w' => vwrite_any av hAV w')
 have cC := jH (fun w' (h : Below w.heap.size w w') => wcmd_any c w' (hCS.out w' h) (hVr.out w' h))
 have hwc : Hid (wCmd c.val = wC c.val) := jH (by unfold wCmd; rw [if_neg (by simp [hc0])])
 rw [hwc.out, hc0] at cC
 have wep : IntKind.i64.wrap (ep : Int) = ep := IntWalk.i64_in _ (by omega)
 have wan : IntKind.i64.wrap (an : Int) = an := IntWalk.i64_in _ (by omega)
 have a1 := jN kd (by omega)
 have a2 := jN fr (by omega)
 have a3 := jN dst (by omega)
 have a4 := jN ep (by omega)
 have a5 := writeI_len i
 have a6 := writeBal_len (b1, b2)
 have a7 := writeBal_len (v1, v2)
 have a8 := jN st (by omega)
 have a9 := jN an (by omega)
 have aV := writeVq_len hAV
 obtain ⟨f1, hf1d⟩ : ∃ b, b = hB (kd : Int) := ⟨_, rfl⟩
 obtain ⟨f2, hf2d⟩ : ∃ b, b = hS (kd : Int) := ⟨_, rfl⟩
 obtain ⟨f3, hf3d⟩ : ∃ b, b = hV (kd : Int) (st : Int) := ⟨_, rfl⟩
 obtain ⟨f4, hf4d⟩ : ∃ b, b = hC (kd : Int) (st : Int) := ⟨_, rfl⟩
 obtain ⟨f5, hf5d⟩ : ∃ b, b = hA (kd : Int) (st : Int) := ⟨_, rfl⟩
 have eH : mH mv = numB kd ++ numB fr ++ numB dst ++ numB ep ++ writeI i := by rw [hmv]; rfl
 have eB : mB mv = mH mv ++ (if f1 = true then writeBal (b1, b2) else []) := by rw [hmv, hf1d]; rfl
 have eS : mS mv = mB mv ++ (if f2 = true then numB st else []) := by rw [hmv, hf2d]; rfl
 have eV : mV mv = mS mv ++ (if f3 = true then writeBal (v1, v2) else []) := by rw [hmv, hf3d]; rfl
 have eC : mC mv = mV mv ++ (if f4 = true then wC c.val else []) := by rw [hmv, hf4d]; rfl
 have eA : q = mC mv ++ (if f5 = true then numB an ++ writeV av else []) := by rw [← hr, hmv, hf5d]; rfl
 have cFm := jH (fun w' => form_any (kd : Int) (st : Int) w')
 rw [← hf1d, ← hf2d, ← hf3d, ← hf4d, ← hf5d] at cFm
 have hH : Hid (bs (numB kd) ++ bs (numB fr) ++ bs (numB dst) ++ bs (numB ep) ++ bs (writeI i) = bs (mH mv)) := jH (by rw [eH]; simp [jM])
 have lH : (mH mv).length ≤ 60 := by rw [eH]; simp only [List.length_append]; omega
 have lB : (mB mv).length ≤ 80 := by rw [eB]; split <;> (simp only [List.length_append, List.length_nil]; omega)
 have lS : (mS mv).length ≤ 90 := by rw [eS]; split <;> (simp only [List.length_append, List.length_nil]; omega)
 have lV : (mV mv).length ≤ 110 := by rw [eV]; split <;> (simp only [List.length_append, List.length_nil]; omega)
 have lC : (mC mv).length ≤ 3000300 := by rw [eC]; split <;> (simp only [List.length_append, List.length_nil]; omega)
 clear eH hr
 generalize mH mv = gH at *
 generalize mB mv = gB at *
 generalize mS mv = gS at *
 generalize mV mv = gV at *
 generalize mC mv = gC at *
 generalize numB kd = nkd at *
 generalize numB fr = nfr at *
 generalize numB dst = nds at *
 generalize numB ep = nep at *
 generalize numB st = nst at *
 generalize numB an = nan at *
 generalize writeI i = wi at *
 generalize writeBal (b1, b2) = wb at *
 generalize writeBal (v1, v2) = wv at *
 generalize writeV av = wa at *
 generalize wC c.val = wcc at *
 have s1 : ¬ 9223372036854775807 < (bs nkd).size + (bs nfr).size := by rw [jG, jG]; omega
 have s2 : ¬ 9223372036854775807 < (bs nkd).size + (bs nfr).size + (bs nds).size := by rw [jG, jG, jG]; omega
 have s3 : ¬ 9223372036854775807 < (bs nkd).size + (bs nfr).size + (bs nds).size + (bs nep).size := by rw [jG, jG, jG, jG]; omega
 have s4 : ¬ 9223372036854775807 < (bs nkd).size + (bs nfr).size + (bs nds).size + (bs nep).size + (bs wi).size := by rw [jG, jG, jG, jG, jG]; omega
 have s5 : ¬ 9223372036854775807 < (bs gH).size + (bs wb).size := by rw [jG, jG]; omega
 have s6 : ¬ 9223372036854775807 < (bs gB).size + (bs nst).size := by rw [jG, jG]; omega
 have s7 : ¬ 9223372036854775807 < (bs gS).size + (bs wv).size := by rw [jG, jG]; omega
 have s8 : ¬ 9223372036854775807 < (bs gV).size + (bs wcc).size := by rw [jG, jG]; omega
 have s9 : ¬ 9223372036854775807 < (bs nan).size + (bs wa).size := by rw [jG, jG]; omega
 have sa : ¬ 9223372036854775807 < (bs gC).size + ((bs nan).size + (bs wa).size) := by rw [jG, jG, jG]; omega
 have sb : ¬ 9223372036854775807 < (bs gC).size + (bs nan).size := by rw [jG, jG]; omega
 have sc : ¬ 9223372036854775807 < (bs gC).size + (bs nan).size + (bs wa).size := by rw [jG, jG, jG]; omega
 have eBH := jH eB
 have eSH := jH eS
 have eVH := jH eV
 have eCH := jH eC
 have eAH := jH eA
 obtain ⟨m, hm⟩ : ∃ m : Mm, m = ⟨kd, fr, dst, ep, i, (b1, b2), st, (v1, v2), c, an, av⟩ := ⟨_, rfl⟩
 have hbAm : Hid (W.heap[w.heap.size]? = some (.cells ↑m 50 (0, 0))) := jH (by rw [hm]; exact hbAH.out)
 clear eB eS eV eC eA lH lB lS lV lC a1 a2 a3 a4 a5 a6 a7 a8 a9 aV hf1d hf2d hf3d hf4d hf5d hwc hmv hi hb hv ha hc0 hcl hI hAV hk0 hk1 hf1 hd1 he1 hs1 hn1 hf0 hd0 he0 hs0 hn0 hb10 hv10 hSm hVM hE0 hbA
 go_enter Tryz.func15, Tryz.ntmps15
 go_upto_region 1 with (fail)
 clear hW
 refine wp_region_list ?_
 refine wpList_load_row rfl _ _ rfl (w.heap.size) rfl 50 _ (0, 0) _ hbAH.out Tryz.underlying50 rfl (by kernel_rfl) ?_
 (try simp only [Act.put, List.setIfInBounds_toArray, List.set_cons_zero, List.set_cons_succ])
 go_wp2_with fail
 refine cK.out.mono ?_
 rintro e w1 ⟨rfl, hb1⟩
 have hbA1 := jD hbAH.out hb1
 have p0 := jA hbA1 0
 have p1 := jA hbA1 1
 have p2 := jA hbA1 2
 have p3 := jA hbA1 3
 have p4 := jA hbA1 4
 have p5 := jA hbA1 5
 simp at p0 p1 p2 p3 p4 p5
 have hl1 := jB hbA1
 clear hbA1
 go_upto_region 4 with (fail)
 refine jW (fun w' => KQ w1.heap.size w1 w') (fun _ => True) 99 (by kernel_rfl) (kq (Below.refl _ _).drew) trivial ?_
 intro hcl
 have hC : KQ w1.heap.size w1 w1.drew := kq (Below.refl _ _).drew
 have hE := trivial
 (refine mT 0 ?_ rfl hcl hC hE ?_ ?_; rotate_left; (· (intro w hSw; (try dsimp only at hSw); go_simp; (try with_reducible rfl))); clear hcl; intro hcl; (try simp only [Act.put, List.getElem_toArray, List.getElem_cons_zero, List.setIfInBounds_toArray, List.set_cons_zero, List.set_cons_succ]))
 (refine mT 1 ?_ rfl hcl hC hE ?_ ?_; rotate_left; (· (intro w hSw; (try dsimp only at hSw); go_simp; (try with_reducible rfl))); clear hcl; intro hcl; (try simp only [Act.put, nA, nB, nC, nD, nE, nF]))
 (refine mT 3 ?_ rfl hcl hC hE ?_ ?_; rotate_left; (· (intro w hSw; (try dsimp only at hSw); go_simp; (try with_reducible rfl))); clear hcl; intro hcl; (try simp only [Act.put, nA, nB, nC, nD, nE, nF]))
 (refine mT 4 ?_ rfl hcl hC hE ?_ ?_; rotate_left; (· (intro w hSw; (try dsimp only at hSw); go_simp; (try with_reducible rfl))); clear hcl; intro hcl; (try simp only [Act.put, nA, nB, nC, nD, nE, nF]))
 (refine mT 7 ?_ rfl hcl hC hE ?_ ?_; rotate_left; (· (intro w hSw; (try dsimp only at hSw); go_simp; (try with_reducible rfl))); clear hcl; intro hcl; (try simp only [Act.put, nA, nB, nC, nD, nE, nF]))
 (refine mT 8 ?_ rfl hcl hC hE ?_ ?_; rotate_left; (· (intro w hSw; (try dsimp only at hSw); go_simp; (try with_reducible rfl))); clear hcl; intro hcl; (try simp only [Act.put, nA, nB, nC, nD, nE, nF]))
 (refine mT 11 ?_ rfl hcl hC hE ?_ ?_; rotate_left; (· (intro w hSw; (try dsimp only at hSw); go_simp; (try with_reducible rfl))); clear hcl; intro hcl; (try simp only [Act.put, nA, nB, nC, nD, nE, nF]))
 (refine mT 12 ?_ rfl hcl hC hE ?_ ?_; rotate_left; (· (intro w hSw; (try dsimp only at hSw); go_simp; (try with_reducible rfl))); clear hcl; intro hcl; (try simp only [Act.put, nA, nB, nC, nD, nE, nF]))
 (refine mT 13 ?_ rfl hcl hC hE ?_ ?_; rotate_left; (· (intro w hSw; (try dsimp only at hSw); go_simp; (try with_reducible rfl))); clear hcl; intro hcl; (try simp only [Act.put, nA, nB, nC, nD, nE, nF]))
 (refine mT 16 ?_ rfl hcl hC hE ?_ ?_; rotate_left; (· (intro w hSw; (try dsimp only at hSw); go_simp; (try with_reducible rfl))); clear hcl; intro hcl; (try simp only [Act.put, nA, nB, nC, nD, nE, nF]))
 (refine mT 17 ?_ rfl hcl hC hE ?_ ?_; rotate_left; (· (intro w hSw; (try dsimp only at hSw); go_simp; (try with_reducible rfl))); clear hcl; intro hcl; (try simp only [Act.put, nA, nB, nC, nD, nE, nF]))
 refine jK (i := 2) rfl (by kernel_rfl) hcl (fun K hK => ?_)
 go_simp
 refine (cKd.out _).mono ?_
 rintro r x1 ⟨rfl, hv1⟩
 have hC' := jP hC (Nat.le_refl _) hv1
 refine hK.out _ _ hC' trivial ?_
 clear hK K
 clear hcl
 intro hcl
 (try simp only [Act.put, nA, nB, nC, nD, nE, nF])
 clear hC
 have hC := hC'
 clear hC'
 refine jK (i := 5) rfl (by kernel_rfl) hcl (fun K hK => ?_)
 go_simp
 refine (cFr.out _).mono ?_
 rintro r x2 ⟨rfl, hv2⟩
 have hC' := jP hC (Nat.le_refl _) hv2
 refine hK.out _ _ hC' trivial ?_
 clear hK K
 clear hcl
 intro hcl
 (try simp only [Act.put, nA, nB, nC, nD, nE, nF])
 clear hC
 have hC := hC'
 clear hC'
 (refine mT 6 ?_ rfl hcl hC hE ?_ ?_; rotate_left; (· (intro w hSw; (try dsimp only at hSw); go_simp; (try with_reducible rfl))); clear hcl; intro hcl; (try simp only [Act.put, nA, nB, nC, nD, nE, nF]))
 refine jK (i := 9) rfl (by kernel_rfl) hcl (fun K hK => ?_)
 go_simp
 refine (cDs.out _).mono ?_
 rintro r x3 ⟨rfl, hv3⟩
 have hC' := jP hC (Nat.le_refl _) hv3
 refine hK.out _ _ hC' trivial ?_
 clear hK K
 clear hcl
 intro hcl
 (try simp only [Act.put, nA, nB, nC, nD, nE, nF])
 clear hC
 have hC := hC'
 clear hC'
 (refine mT 10 ?_ rfl hcl hC hE ?_ ?_; rotate_left; (· (intro w hSw; (try dsimp only at hSw); go_simp; (try with_reducible rfl))); clear hcl; intro hcl; (try simp only [Act.put, nA, nB, nC, nD, nE, nF]))
 refine jK (i := 14) rfl (by kernel_rfl) hcl (fun K hK => ?_)
 go_simp
 refine (cEp.out _).mono ?_
 rintro r x4 ⟨rfl, hv4⟩
 have hC' := jP hC (Nat.le_refl _) hv4
 refine hK.out _ _ hC' trivial ?_
 clear hK K
 clear hcl
 intro hcl
 (try simp only [Act.put, nA, nB, nC, nD, nE, nF])
 clear hC
 have hC := hC'
 clear hC'
 (refine mT 15 ?_ rfl hcl hC hE ?_ ?_; rotate_left; (· (intro w hSw; (try dsimp only at hSw); go_simp; (try with_reducible rfl))); clear hcl; intro hcl; (try simp only [Act.put, nA, nB, nC, nD, nE, nF]))
 refine jK (i := 18) rfl (by kernel_rfl) hcl (fun K hK => ?_)
 go_simp
 refine (cI.out _).mono ?_
 rintro r x5 ⟨rfl, hv5⟩
 have hC' := jP hC (Nat.le_refl _) hv5
 refine hK.out _ _ hC' trivial ?_
 clear hK K
 clear hcl
 intro hcl
 (try simp only [Act.put, nA, nB, nC, nD, nE, nF])
 clear hC
 have hC := hC'
 clear hC'
 (refine mT 19 ?_ rfl hcl hC hE ?_ ?_; rotate_left; (· (intro w hSw; (try dsimp only at hSw); go_simp; (try with_reducible rfl))); clear hcl; intro hcl; (try simp only [Act.put, nA, nB, nC, nD, nE, nF]))
 (refine mT 20 ?_ rfl hcl hC hE ?_ ?_; rotate_left; (· (intro w hSw; (try dsimp only at hSw); go_simp; (try with_reducible rfl))); clear hcl; intro hcl; (try simp only [Act.put, nA, nB, nC, nD, nE, nF]))
 refine wpM_done (by kernel_rfl) ?_
 clear hcl
 try simp only [Act.put, nA, nB, nC, nD, nE, nF]
 rw [hH.out]
 have hb2 := hb1.trans (hC.1.mono hb1.size)
 have hbA2 := jD hbAH.out hb2
 clear hC p0 p1 p2 p3 p4 p5 hl1 hb1 s1 s2 s3 s4 cKd cFr cDs cEp cI hH
 have p0 := jA hbA2 0
 have p8 := jA hbA2 8
 simp at p0 p8
 have hl2 := jB hbA2
 have hz2 := hb2.size
 have hbA2H := jH hbA2
 clear hbA2
 go_wp2_with fail
 refine (cFm.out _).mono ?_
 rintro e w3 ⟨rfl, hb3⟩
 have hb23 := hb2.trans (hb3.mono hz2)
 have hA3 := jD hbA2H.out hb3
 have hl3 := jB hA3
 go_upto_region 6 with (fail)
 have hbHx : (w3.alloc (.cells #[.bool f1, .bool f2, .bool f3, .bool f4, .bool f5] 83)).heap[w3.heap.size]? = some (.cells #[.bool f1, .bool f2, .bool f3, .bool f4, .bool f5] 83 (0, 0)) := by
  exact jT _ _ rfl
 have hBx : Below w3.heap.size w3 (w3.alloc (.cells #[.bool f1, .bool f2, .bool f3, .bool f4, .bool f5] 83)) := by
  exact (Below.refl _ w3).alloc (Nat.le_refl _) _
 generalize (w3.alloc (.cells #[.bool f1, .bool f2, .bool f3, .bool f4, .bool f5] 83)) = y0 at hbHx hBx ⊢
 have hG0 := hb23.trans (hBx.mono hb23.size)
 have hA0 := jH (jD hA3 hBx)
 have hH0 := jH hbHx
 have hlg := jB hA3
 clear hA3 hl3 hBx hbHx p0 p8 hl2 hbA2H cFm hb2 hb3 hb23 hz2
 have z0 := jA hH0.out 0
 simp at z0
 have hlz := jB hH0.out
 have hla := jB hA0.out
 have p6 := jA hA0.out 6
 have p7 := jA hA0.out 7
 simp at p6 p7
 go_upto_if 40 with (fail)
 go_cut [5] (fun s5 wx => s5 = .string (bs gB) ∧ Below y0.heap.size y0 wx)
 case first =>
  cases f1 with
  | true =>
   have hT : Hid (bs gH ++ bs wb = bs gB) := jH (by rw [jM, eBH.out, if_pos rfl])
   go_wp2_with fail
   refine (cB.out _).mono ?_
   rintro e x1 ⟨rfl, hv1⟩
   go_wp2_with fail
   go_meet
   exact ⟨congrArg Value.string hT.out, hv1⟩
  | false =>
   have hT : Hid (bs gH = bs gB) := jH (by rw [eBH.out, if_neg (by decide), List.append_nil])
   go_wp2_with fail
   go_meet
   exact ⟨congrArg Value.string hT.out, Below.refl _ _⟩
 case rest =>
 obtain ⟨rfl, hbx⟩ := hcut
 obtain ⟨y1, hy⟩ : ∃ x, x = wc := ⟨_, rfl⟩
 obtain rfl := hy
 have hA1 := jH (jD hA0.out hbx)
 have hH1 := jH (jD hH0.out hbx)
 have hG1 := hG0.trans (hbx.mono hG0.size)
 clear hbx z0 hlz hla hA0 hH0 p6 p7 hG0
 have z1 := jA hH1.out 1
 simp at z1
 have hlz := jB hH1.out
 have hla := jB hA1.out
 have p8 := jA hA1.out 8
 simp at p8
 go_upto_if 47 with (fail)
 go_cut [5] (fun s5 wx => s5 = .string (bs gS) ∧ Below y1.heap.size y1 wx)
 case first =>
  cases f2 with
  | true =>
   have hT : Hid (bs gB ++ bs nst = bs gS) := jH (by rw [jM, eSH.out, if_pos rfl])
   go_wp2_with fail
   refine (cSt.out _).mono ?_
   rintro e x1 ⟨rfl, hv1⟩
   go_wp2_with fail
   go_meet
   exact ⟨congrArg Value.string hT.out, hv1⟩
  | false =>
   have hT : Hid (bs gB = bs gS) := jH (by rw [eSH.out, if_neg (by decide), List.append_nil])
   go_wp2_with fail
   go_meet
   exact ⟨congrArg Value.string hT.out, Below.refl _ _⟩
 case rest =>
 obtain ⟨rfl, hbx⟩ := hcut
 obtain ⟨y2, hy⟩ : ∃ x, x = wc := ⟨_, rfl⟩
 obtain rfl := hy
 have hA2 := jH (jD hA1.out hbx)
 have hH2 := jH (jD hH1.out hbx)
 have hG2 := hG1.trans (hbx.mono hG1.size)
 clear hbx z1 hlz hla hA1 hH1 p8 hG1
 have z2 := jA hH2.out 2
 simp at z2
 have hlz := jB hH2.out
 have hla := jB hA2.out
 have p9 := jA hA2.out 9
 have p10 := jA hA2.out 10
 simp at p9 p10
 go_upto_if 54 with (fail)
 go_cut [5] (fun s5 wx => s5 = .string (bs gV) ∧ Below y2.heap.size y2 wx)
 case first =>
  cases f3 with
  | true =>
   have hT : Hid (bs gS ++ bs wv = bs gV) := jH (by rw [jM, eVH.out, if_pos rfl])
   go_wp2_with fail
   refine (cU.out _).mono ?_
   rintro e x1 ⟨rfl, hv1⟩
   go_wp2_with fail
   go_meet
   exact ⟨congrArg Value.string hT.out, hv1⟩
  | false =>
   have hT : Hid (bs gS = bs gV) := jH (by rw [eVH.out, if_neg (by decide), List.append_nil])
   go_wp2_with fail
   go_meet
   exact ⟨congrArg Value.string hT.out, Below.refl _ _⟩
 case rest =>
 obtain ⟨rfl, hbx⟩ := hcut
 obtain ⟨y3, hy⟩ : ∃ x, x = wc := ⟨_, rfl⟩
 obtain rfl := hy
 have hA3 := jH (jD hA2.out hbx)
 have hH3 := jH (jD hH2.out hbx)
 have hG3 := hG2.trans (hbx.mono hG2.size)
 clear hbx z2 hlz hla hA2 hH2 p9 p10 hG2
 have z3 := jA hH3.out 3
 simp at z3
 have hlz := jB hH3.out
 have hla := jB hA3.out
 go_upto_if 61 with (fail)
 go_cut [5] (fun s5 wx => s5 = .string (bs gC) ∧ Below y3.heap.size y3 wx)
 case first =>
  cases f4 with
  | true =>
   have hT : Hid (bs gV ++ bs wcc = bs gC) := jH (by rw [jM, eCH.out, if_pos rfl])
   go_upto_region 13 with (fail)
   refine wp_region_list ?_
   refine wpList_step (fun K hK => ?_)
   rw [if_pos (by kernel_rfl)]
   go_simp
   refine hK _ _ ?_
   clear hK K
   refine wpList_load_midG (by kernel_rfl) _ _ rfl (w.heap.size) 11 rfl ↑c _ (rangeQ hA3.out 11 ↑c rfl) Tryz.underlying47 rfl (by kernel_rfl) ?_
   (try simp only [Act.put, List.setIfInBounds_toArray, List.set_cons_zero, List.set_cons_succ])
   go_wp2_with fail
   refine (cC.out _ (hb0.trans (hG3.mono hz0))).mono ?_
   rintro e x1 ⟨rfl, hv1⟩
   go_wp2_with fail
   go_meet
   exact ⟨congrArg Value.string hT.out, hv1⟩
  | false =>
   have hT : Hid (bs gV = bs gC) := jH (by rw [eCH.out, if_neg (by decide), List.append_nil])
   go_wp2_with fail
   go_meet
   exact ⟨congrArg Value.string hT.out, Below.refl _ _⟩
 case rest =>
 obtain ⟨rfl, hbx⟩ := hcut
 obtain ⟨y4, hy⟩ : ∃ x, x = wc := ⟨_, rfl⟩
 obtain rfl := hy
 have hA4 := jH (jD hA3.out hbx)
 have hH4 := jH (jD hH3.out hbx)
 have hG4 := hG3.trans (hbx.mono hG3.size)
 clear hbx z3 hlz hla hA3 hH3  hG3
 have z4 := jA hH4.out 4
 simp at z4
 have hlz := jB hH4.out
 have hla := jB hA4.out
 have p35 := jA hA4.out 35
 have p36 := jA hA4.out 36
 have p37 := jA hA4.out 37
 have p38 := jA hA4.out 38
 have p39 := jA hA4.out 39
 have p40 := jA hA4.out 40
 have p41 := jA hA4.out 41
 have p42 := jA hA4.out 42
 have p43 := jA hA4.out 43
 simp at p35 p36 p37 p38 p39 p40 p41 p42 p43
 have hG := hb0.trans (hG4.mono hz0)
 cases f5 with
 | false =>
  have hT : Hid (bs gC = bs q) := jH (by rw [eAH.out, if_neg (by decide), List.append_nil])
  go_wp2
  exact bodyPost_ret (v := .tuple #[.string (bs q), .int .i64 0]) (by simp [results, Tryz.results15, go_sem, hT.out]) rfl ⟨rfl, hG⟩
 | true =>
  have hT : Hid (bs gC ++ (bs nan ++ bs wa) = bs q) := jH (by rw [jM, jM, eAH.out, if_pos rfl])
  go_upto_region 16 with (fail)
  refine jW (fun w' => KQ y4.heap.size y4 w') (fun _ => True) 99 (by kernel_rfl) (kq (Below.refl _ _).drew) trivial ?_
  intro hcl
  have hC : KQ y4.heap.size y4 y4.drew := kq (Below.refl _ _).drew
  have hE := trivial
  (refine mT 0 ?_ rfl hcl hC hE ?_ ?_; rotate_left; (· (intro w hSw; (try dsimp only at hSw); go_simp; (try with_reducible rfl))); clear hcl; intro hcl; (try simp only [Act.put, List.getElem_toArray, List.getElem_cons_zero, List.setIfInBounds_toArray, List.set_cons_zero, List.set_cons_succ]))
  (refine mT 1 ?_ rfl hcl hC hE ?_ ?_; rotate_left; (· (intro w hSw; (try dsimp only at hSw); go_simp; (try with_reducible rfl))); clear hcl; intro hcl; (try simp only [Act.put, nA, nB, nC, nD, nE, nF]))
  (refine mT 2 ?_ rfl hcl hC hE ?_ ?_; rotate_left; (· (intro w hSw; (try dsimp only at hSw); go_simp; (try with_reducible rfl))); clear hcl; intro hcl; (try simp only [Act.put, nA, nB, nC, nD, nE, nF]))
  (refine mT 3 ?_ rfl hcl hC hE ?_ ?_; rotate_left; (· (intro w hSw; (try dsimp only at hSw); go_simp; (try with_reducible rfl))); clear hcl; intro hcl; (try simp only [Act.put, nA, nB, nC, nD, nE, nF]))
  (refine mT 4 ?_ rfl hcl hC hE ?_ ?_; rotate_left; (· (intro w hSw; (try dsimp only at hSw); go_simp; (try with_reducible rfl))); clear hcl; intro hcl; (try simp only [Act.put, nA, nB, nC, nD, nE, nF]))
  (refine mT 6 ?_ rfl hcl hC hE ?_ ?_; rotate_left; (· (intro w hSw; (try dsimp only at hSw); go_simp; (try with_reducible rfl))); clear hcl; intro hcl; (try simp only [Act.put, nA, nB, nC, nD, nE, nF]))
  (refine mT 7 ?_ rfl hcl hC hE ?_ ?_; rotate_left; (· (intro w hSw; (try dsimp only at hSw); go_simp; (try with_reducible rfl))); clear hcl; intro hcl; (try simp only [Act.put, nA, nB, nC, nD, nE, nF]))
  (refine mT 8 ?_ rfl hcl hC hE ?_ ?_; rotate_left; (· (intro w hSw; (try dsimp only at hSw); go_simp; (try with_reducible rfl))); clear hcl; intro hcl; (try simp only [Act.put, nA, nB, nC, nD, nE, nF]))
  refine jK (i := 5) rfl (by kernel_rfl) hcl (fun K hK => ?_)
  go_simp
  refine (cAn.out _).mono ?_
  rintro r x1 ⟨rfl, hv1⟩
  have hC' := jP hC (Nat.le_refl _) hv1
  refine hK.out _ _ hC' trivial ?_
  clear hK K
  clear hcl
  intro hcl
  (try simp only [Act.put, nA, nB, nC, nD, nE, nF])
  clear hC
  have hC := hC'
  clear hC'
  refine jK (i := 9) rfl (by kernel_rfl) hcl (fun K hK => ?_)
  go_simp
  refine (cV.out _).mono ?_
  rintro r x2 ⟨rfl, hv2⟩
  have hC' := jP hC (Nat.le_refl _) hv2
  refine hK.out _ _ hC' trivial ?_
  clear hK K
  clear hcl
  intro hcl
  (try simp only [Act.put, nA, nB, nC, nD, nE, nF])
  clear hC
  have hC := hC'
  clear hC'
  (refine mT 10 ?_ rfl hcl hC hE ?_ ?_; rotate_left; (· (intro w hSw; (try dsimp only at hSw); go_simp; (try with_reducible rfl))); clear hcl; intro hcl; (try simp only [Act.put, nA, nB, nC, nD, nE, nF]))
  (refine mT 11 ?_ rfl hcl hC hE ?_ ?_; rotate_left; (· (intro w hSw; (try dsimp only at hSw); go_simp; (try with_reducible rfl))); clear hcl; intro hcl; (try simp only [Act.put, nA, nB, nC, nD, nE, nF]))
  (refine mT 12 ?_ rfl hcl hC hE ?_ ?_; rotate_left; (· (intro w hSw; (try dsimp only at hSw); go_simp; (try with_reducible rfl))); clear hcl; intro hcl; (try simp only [Act.put, nA, nB, nC, nD, nE, nF]))
  refine wpM_done (by kernel_rfl) ?_
  clear hcl
  try simp only [Act.put, nA, nB, nC, nD, nE, nF]
  have hGE := hG.trans (hC.1.mono hG.size)
  clear hC
  go_wp2
  exact bodyPost_ret (v := .tuple #[.string (bs q), .int .i64 0]) (by simp [results, Tryz.results15, go_sem, hT.out]) rfl ⟨rfl, hGE⟩
end Go.Proofs.YtfhandglpjnonaaGreatDoor
