/- Effects' bytes: the document's Write. Transactions' bytes: the document's Write. inst.WriteCmd and the document's: a command's bytes. -/
import Derived.Test.YtfhandglpjnonaaGreatDoorN29
import Derived.Test.YtfhandglpjnonaaGreatDoorM47
import Derived.Test.YtfhandglpjnonaaGreatDoorN30
import Derived.Test.YtfhandglpjnonaaGreatDoorM46
import Derived.Test.YtfhandglpjnonaaGreatDoorFz
namespace Go.Proofs.YtfhandglpjnonaaGreatDoor
open Go.RowKit
theorem okM_all : ∀ {l : List Int} {last : Int}, okM last l = true → ∀ z ∈ l, 0 ≤ z ∧ z ≤ 7
 | [], _, _, z, hz => by cases hz
 | m :: r, last, h, z, hz => by
  simp only [okM, Bool.and_eq_true, decide_eq_true_eq] at h
  obtain ⟨⟨h1, h2⟩, h3⟩ := h
  rcases List.mem_cons.1 hz with rfl | hz
  ·
   simpa [membP] using h1
  ·
   exact okM_all h3 z hz
theorem snapE_zero {n : Int} (h : snapE n = 0) : 0 ≤ n ∧ n ≤ 1048576 := by
 unfold snapE at h
 by_cases h1 : n < 0
 ·
  simp [h1] at h
 by_cases h2 : 1048576 < n
 ·
  simp [h1, h2] at h
 omega
structure DoOk (c : Cv) : Prop where
 k : c.kind = 1
 t : txErr c.t.id c.t.deps c.t.parts = 0
 s0 : 0 ≤ c.snap
 s1 : c.snap ≤ 1048576
structure SealOk (c : Cv) : Prop where
 k : c.kind = 3
 m : c.mem.length ≤ 5
 z : ∀ z ∈ c.mem, 0 ≤ z ∧ z ≤ 7
 v : vchk c.since = true
 s0 : 0 ≤ c.snap
 s1 : c.snap ≤ 1048576
theorem cmdErr_zero {c : Cv} (h : cmdErr c = 0) : (c.kind = 0 ∨ DoOk c ∨ (c.kind = 2 ∧ 0 ≤ c.who ∧ c.who ≤ 7) ∨ SealOk c) ∧ keepC c = c := by
 have hk : kindE c = 0 := Classical.byContradiction fun hn => by unfold cmdErr at h; rw [if_pos hn] at h; exact hn h
 have hs : sameCv (keepC c) c = true := Classical.byContradiction fun hn => by unfold cmdErr at h; rw [hk, if_neg (by simp), if_neg hn] at h; cases h
 refine ⟨?_, sameCv_iff.1 hs⟩
 unfold kindE at hk
 by_cases h0 : c.kind = 0
 ·
  exact .inl h0
 rw [if_neg h0] at hk
 by_cases h1 : c.kind = 1
 ·
  rw [if_pos h1] at hk
  unfold doE at hk
  have ht : txErr c.t.id c.t.deps c.t.parts = 0 := Classical.byContradiction fun hn => by rw [if_pos hn] at hk; exact hn hk
  rw [if_neg (by simp [ht])] at hk
  have hth : ¬ c.t.thin = true := fun hn => by rw [if_pos hn] at hk; cases hk
  rw [if_neg hth] at hk
  have := snapE_zero hk
  exact .inr (.inl ⟨h1, ht, this.1, this.2⟩)
 rw [if_neg h1] at hk
 by_cases h2 : c.kind = 2
 ·
  rw [if_pos h2] at hk
  have hm : membP c.who = true := Classical.byContradiction fun hn => by rw [if_neg hn] at hk; cases hk
  have : 0 ≤ c.who ∧ c.who ≤ 7 := by simpa [membP] using hm
  exact .inr (.inr (.inl ⟨h2, this⟩))
 rw [if_neg h2] at hk
 by_cases h3 : c.kind = 3
 ·
  rw [if_pos h3] at hk
  unfold sealE at hk
  have a1 : ¬ 5 < c.mem.length := fun hn => by rw [if_pos hn] at hk; cases hk
  rw [if_neg a1] at hk
  have a2 : ¬ c.mem = [] := fun hn => by rw [if_pos hn] at hk; cases hk
  rw [if_neg a2] at hk
  have a3 : ¬ okM (-1) c.mem = false := fun hn => by rw [if_pos hn] at hk; cases hk
  rw [if_neg a3] at hk
  have a4 : errI (vchk c.since) = 0 := Classical.byContradiction fun hn => by rw [if_pos hn] at hk; exact hn hk
  rw [if_neg (by simp [a4])] at hk
  have := snapE_zero hk
  have hv : vchk c.since = true := by
   cases hv : vchk c.since with
   | true => rfl
   | false => rw [hv] at a4; cases a4
  exact .inr (.inr (.inr ⟨h3, by omega, okM_all (by simpa using a3), hv, this.1, this.2⟩))
 ·
  rw [if_neg h3] at hk; cases hk
theorem writeZs_len : ∀ (l : List Int), (∀ z ∈ l, 0 ≤ z ∧ z ≤ 7) → (writeZs l).length ≤ 9 * l.length
 | [], _ => by simp [writeZs]
 | z :: r, h => by
  have h1 := writeZs_len r (fun y hy => h y (by simp [hy]))
  have h2 := h z (by simp)
  have h3 := jN z.toNat (by omega)
  simp only [writeZs, List.map_cons, List.flatten_cons, List.length_append, List.length_cons] at h1 ⊢
  omega
theorem writeX_len {x : Im} {v : Vm} {t : Bool} {ps : List Pv} (hv : v.wf) (hl : ∀ p ∈ ps, p.1.length ≤ 1000) (hw : ∀ p ∈ ps, p.2.wf) : (writeX x v t ps).length ≤ 3000000 := by
 unfold writeX
 split
 ·
  simp
 ·
  rename_i h
  have h1 := (txErr_zero (Classical.not_not.1 h)).1
  have h2 := partX_len (headX x v t ps.length) ps ps.length h1 hl hw
  have h3 := headX_len x hv t ps.length h1
  omega
theorem writeVq_len {v : Vm} (h : v.wf) : (writeV v).length ≤ 100 := Nat.le_trans (partV_len h (longV v)) (by have := longV_le v; omega)
def wCmd (c : Cv) : List UInt8 := if cmdErr c ≠ 0 then [] else wC c
def partZ (hd : List UInt8) (l : List Int) (k : Nat) : List UInt8 := hd ++ writeZs (l.take k)
theorem partZ_succ (hd : List UInt8) {l : List Int} {k j : Nat} (h : l[k]? = some (j : Int)) : partZ hd l k ++ numB j = partZ hd l (k + 1) := by
 unfold partZ writeZs; rw [List.take_add_one, h]; simp
theorem partZ_len (hd : List UInt8) {l : List Int} (k : Nat) (hl : l.length ≤ 5) (hz : ∀ z ∈ l, 0 ≤ z ∧ z ≤ 7) : (partZ hd l k).length ≤ hd.length + 45 := by
 have h1 := writeZs_len (l.take k) (fun z h => hz z (List.mem_of_mem_take h))
 have h2 : (l.take k).length ≤ 5 := by rw [List.length_take]; omega
 unfold partZ; rw [List.length_append]; omega
structure Cv.Wri (c : Cv) : Prop where
 l : c.t.parts.length ≤ 30
 m : c.mem.length ≤ 30
 ok : ∀ p ∈ c.t.parts, p.1.length ≤ 500 ∧ True
 wf : ∀ p ∈ c.t.parts, p.2.wf
 x : c.t.id.wf
 v : c.t.deps.wf
 u : c.since.wf
structure Cm.Wri (w : World) (c : Cm) : Prop where
 ok : c.Ok w w.heap.size
 fit : c.Fit w
 v : c.val.Wri
theorem Cm.Wri.below {w w' : World} {c : Cm} (h : c.Wri w) (hb : Below w.heap.size w w') : c.Wri w' := ⟨(h.ok.below hb).more hb.size, h.fit.below hb, h.v⟩
theorem Cm.Wri.k {w : World} {c : Cm} (h : c.Wri w) : c.k ≤ 30 := by have h1 := h.v.l; have h2 := h.ok.rdE.len; simp [Cm.val] at h1; omega
theorem Cm.Wri.m {w : World} {c : Cm} (h : c.Wri w) : c.m ≤ 30 := by have h1 := h.v.m; have h2 := h.ok.rdM.1; simp [Cm.val] at h1; simp at h2; omega
theorem Cm.Sml.wri {w : World} {c : Cm} (h : c.Sml w) : c.Wri w := ⟨h.ok, h.fit, ⟨h.v.l, h.v.m, fun p hp => ⟨(h.v.ok p hp).1, trivial⟩, h.v.wf, h.v.x, h.v.v, h.v.u⟩⟩
structure Mm.Wri (w : World) (m : Mm) : Prop where
 c : m.c.Wri w
 i : m.i.wf
 av : m.av.wf
theorem Mm.Wri.fit {w : World} {m : Mm} (h : m.Wri w) : m.Fit w := ⟨h.c.fit, h.i, h.av⟩
theorem Mm.Wri.below {w w' : World} {m : Mm} (h : m.Wri w) (hb : Below w.heap.size w w') : m.Wri w' := ⟨h.c.below hb, h.i, h.av⟩
theorem Mm.Sml.wri {w : World} {m : Mm} (h : m.Sml w) : m.Wri w := ⟨h.c.wri, h.i, h.av⟩
set_option maxRecDepth 100000 in
set_option maxHeartbeats 16000000 in
theorem wcmd_any (c : Cm) (w : World) (hS : c.Wri w) (hVM : VarM w) :
 Calls Tryz.prog 17 #[.agg ↑c] w fun e w' => e = .returned (.tuple #[.string (bs (wCmd c.val)), .int .i64 (cmdErr c.val)]) ∧ Below w.heap.size w w' := by
 have hFit := hS.fit
 have hV := hS.v
 have hkk := hS.k
 have hmm := hS.m
 have hb0 : Below w.heap.size w (w.alloc (.cells ↑c 47)) := (Below.refl _ w).alloc (Nat.le_refl _) _
 have hbA : (w.alloc (.cells ↑c 47)).heap[w.heap.size]? = some (.cells ↑c 47 (0, 0)) := jT _ _ rfl
 have cK := jH (chkcmd_any c (w.alloc (.cells ↑c 47)) (hFit.below hb0) (hVM.below hb0 hVM.lt))
 have hE := hS.ok.rdE
 have hM := hS.ok.rdM
 obtain ⟨kd, x, v, t, T, k, kc, ps, sn, wh, B, m, mc, ms, u⟩ := c
 obtain ⟨cv, hcv⟩ : ∃ cv : Cv, cv = ⟨kd, ⟨x, v, t, ps.map Pe.core⟩, sn, wh, ms, u⟩ := ⟨_, rfl⟩
 have hcv2 : Cm.val ⟨kd, x, v, t, T, k, kc, ps, sn, wh, B, m, mc, ms, u⟩ = cv := hcv.symm
 rw [hcv2] at cK hV ⊢
 dsimp only at hE hM hkk hmm hb0 hbA cK ⊢
 generalize hW : (w.alloc (.cells #[.int .i64 kd, .int .i64 x.1, .int .u32 x.2, .int .u32 v.d0, .int .u32 v.d1, .int .u32 v.d2, .int .u32 v.d3, .int .u32 v.d4, .int .u32 v.d5, .int .u32 v.d6, .int .u32 v.d7, .bool t, .slice T k kc, .int .i64 sn, .int .i64 wh, .slice B m mc, .int .u32 u.d0, .int .u32 u.d1, .int .u32 u.d2, .int .u32 u.d3, .int .u32 u.d4, .int .u32 u.d5, .int .u32 u.d6, .int .u32 u.d7] 47)) = W at hb0 hbA cK
 have hz0 := hb0.size
 have hltA := jB hbA
 have hbAH := jH hbA
 have hml : ms.length = m := by have := hM.1; simpa using this
 have hMr := jH (fun w' (h : Below w.heap.size w w') => hM.below h)
 have cX := jH (fun w' (h : Below w.heap.size w w') => xwrite_any x v t T k kc ps w' ((hE.below h).more h.size) (by omega) (fun p hp => (hFit.fit p hp).below h) (fun p hp => by
  have := (hV.ok p.core (by rw [hcv]; exact List.mem_map.2 ⟨p, hp, rfl⟩)).1
  have h2 : p.core.1 = p.key := rfl
  rw [h2] at this; omega) hFit.x hFit.v (hVM.below h hVM.lt))
 have hvw : v.wf := hFit.v
 have huw : u.wf := hFit.u
 have cV := jH (fun w' => vwrite_any u huw w')
 have hxl : (writeX x v t (ps.map Pe.core)).length ≤ 3000000 := writeX_len hvw (fun p hp => by have := (hV.ok p (by rw [hcv]; exact hp)).1; omega) (fun p hp => hV.wf p (by rw [hcv]; exact hp))
 have a4 := writeVq_len huw
 clear hbA hE hM hFit hV hS hcv2 hvw huw
 generalize hr : wCmd cv = q
 unfold wCmd at hr
 by_cases hE0 : cmdErr cv = 0
 case neg =>
  rw [if_pos hE0] at hr
  subst hr
  generalize cmdErr cv = e0 at cK hE0
  have hd : (e0 != 0) = true := by simpa using hE0
  have hd2 : (e0 == 0) = false := by simpa using hE0
  clear hxl hml hkk hmm hcv a4
  go_enter Tryz.func17, Tryz.ntmps17
  go_upto_region 1 with (fail)
  clear hW
  refine wp_region_list ?_
  refine wpList_load_row rfl _ _ rfl (w.heap.size) rfl 47 _ (0, 0) _ hbAH.out Tryz.underlying47 rfl (by kernel_rfl) ?_
  (try simp only [Act.put, List.setIfInBounds_toArray, List.set_cons_zero, List.set_cons_succ])
  go_wp2_with fail
  refine cK.out.mono ?_
  rintro e w1 ⟨rfl, hb1⟩
  have hG1 := hb0.trans (hb1.mono hz0)
  go_wp2
  exact bodyPost_ret (v := .tuple #[.string (bs []), .int .i64 e0]) (by simp [results, Tryz.results17, go_sem, bs_nil]) rfl ⟨rfl, hG1⟩
 rw [if_neg (by simp [hE0])] at hr
 obtain ⟨hk, -⟩ := cmdErr_zero hE0
 rw [hE0] at cK ⊢
 unfold wC at hr
 have hkd : cv.kind = kd := by rw [hcv]
 rw [hkd] at hr
 rcases hk with h0 | h1 | h2 | h3
 ·
  obtain rfl : kd = 0 := by rw [← hkd]; exact h0
  have hT : Hid (bs (numB 0) = bs q) := jH (by rw [← hr]; rfl)
  have cN := jH (fun w' => show Calls Tryz.prog _ #[.int .i64 0] w' _ from numZ_any 0 (by decide) w')
  clear hxl hml hkk hmm hcv hE0 h0 hr hkd a4
  rw [hT.out] at cN
  go_enter Tryz.func17, Tryz.ntmps17
  go_upto_region 1 with (fail)
  clear hW
  refine wp_region_list ?_
  refine wpList_load_row rfl _ _ rfl (w.heap.size) rfl 47 _ (0, 0) _ hbAH.out Tryz.underlying47 rfl (by kernel_rfl) ?_
  (try simp only [Act.put, List.setIfInBounds_toArray, List.set_cons_zero, List.set_cons_succ])
  go_wp2_with fail
  refine cK.out.mono ?_
  rintro e w1 ⟨rfl, hb1⟩
  have hG1 := hb0.trans (hb1.mono hz0)
  have hbA1 := jD hbAH.out hb1
  have hlt1 := jB hbA1
  have p0 := jA hbA1 0
  simp at p0
  clear hbA1
  go_wp2_with fail
  refine (cN.out _).mono ?_
  rintro e w2 ⟨rfl, hb2⟩
  have hG2 := hG1.trans (hb2.mono hG1.size)
  have hbA2 := jD hbAH.out (hb1.trans (hb2.mono hb1.size))
  have hlt2 := jB hbA2
  have hbA2H := jH hbA2
  clear p0 hlt1
  have p0 := jA hbA2 0
  simp at p0
  clear hbA2
  go_wp2
  exact bodyPost_ret (v := .tuple #[.string (bs q), .int .i64 0]) (by simp [results, Tryz.results17, go_sem]) rfl ⟨rfl, hG2⟩
 ·
  obtain rfl : kd = 1 := by rw [← hkd]; exact h1.k
  have hsn0 : 0 ≤ sn := by have := h1.s0; rw [hcv] at this; exact this
  have hsn1 : sn ≤ 1048576 := by have := h1.s1; rw [hcv] at this; exact this
  have hte : txErr x v (ps.map Pe.core) = 0 := by have := h1.t; rw [hcv] at this; exact this
  rw [hte] at cX
  obtain ⟨s, rfl⟩ := Int.eq_ofNat_of_zero_le hsn0
  have cN := jH (fun w' => show Calls Tryz.prog _ #[.int .i64 1] w' _ from numZ_any 1 (by decide) w')
  have cS := jH (fun w' => numZ_any s (by omega) w')
  have hT1 : Hid (bs (numB 1) ++ (bs (writeX x v t (ps.map Pe.core)) ++ bs (numB s)) = bs q) := jH (by rw [← hr, hcv]; simp [jM])
  have hT2 : Hid (bs (numB 1) ++ bs (writeX x v t (ps.map Pe.core)) ++ bs (numB s) = bs q) := jH (by rw [← hr, hcv]; simp [jM])
  have a1 := jN 1 (by decide)
  have a2 := jN s (by omega)
  generalize writeX x v t (ps.map Pe.core) = wx at *
  generalize numB 1 = n1 at *
  generalize numB s = ns at *
  have hs1 : ¬ 9223372036854775807 < (bs wx).size + (bs ns).size := by rw [jG, jG]; omega
  have hs2 : ¬ 9223372036854775807 < (bs n1).size + ((bs wx).size + (bs ns).size) := by rw [jG, jG, jG]; omega
  have hs3 : ¬ 9223372036854775807 < (bs n1).size + (bs wx).size := by rw [jG, jG]; omega
  have hs4 : ¬ 9223372036854775807 < (bs n1).size + (bs wx).size + (bs ns).size := by rw [jG, jG, jG]; omega
  clear hxl hml hkk hmm hcv hE0 h1 hr hkd hte hsn0 hsn1 a1 a2 a4
  go_enter Tryz.func17, Tryz.ntmps17
  go_upto_region 1 with (fail)
  clear hW
  refine wp_region_list ?_
  refine wpList_load_row rfl _ _ rfl (w.heap.size) rfl 47 _ (0, 0) _ hbAH.out Tryz.underlying47 rfl (by kernel_rfl) ?_
  (try simp only [Act.put, List.setIfInBounds_toArray, List.set_cons_zero, List.set_cons_succ])
  go_wp2_with fail
  refine cK.out.mono ?_
  rintro e w1 ⟨rfl, hb1⟩
  have hG1 := hb0.trans (hb1.mono hz0)
  have hbA1 := jD hbAH.out hb1
  have hlt1 := jB hbA1
  have p0 := jA hbA1 0
  simp at p0
  clear hbA1
  go_wp2_with fail
  refine (cN.out _).mono ?_
  rintro e w2 ⟨rfl, hb2⟩
  have hG2 := hG1.trans (hb2.mono hG1.size)
  have hbA2 := jD hbAH.out (hb1.trans (hb2.mono hb1.size))
  have hlt2 := jB hbA2
  have hbA2H := jH hbA2
  clear p0 hlt1
  have p0 := jA hbA2 0
  have p1 := jA hbA2 1
  have p2 := jA hbA2 2
  have p3 := jA hbA2 3
  have p4 := jA hbA2 4
  have p5 := jA hbA2 5
  have p6 := jA hbA2 6
  have p7 := jA hbA2 7
  have p8 := jA hbA2 8
  have p9 := jA hbA2 9
  have p10 := jA hbA2 10
  have p11 := jA hbA2 11
  have p12 := jA hbA2 12
  have p13 := jA hbA2 13
  simp at p0 p1 p2 p3 p4 p5 p6 p7 p8 p9 p10 p11 p12 p13
  clear hbA2
  go_wp2_with fail
  refine (cX.out _ hG2).mono ?_
  rintro e w3 ⟨rfl, hb3⟩
  have hG3 := hG2.trans (hb3.mono hG2.size)
  have hbA3 := jD hbA2H.out hb3
  have hlt3 := jB hbA3
  clear p0 p1 p2 p3 p4 p5 p6 p7 p8 p9 p10 p11 p12 p13 hlt2
  have p13 := jA hbA3 13
  simp at p13
  clear hbA3
  go_wp2_with fail
  refine (cS.out _).mono ?_
  rintro e w4 ⟨rfl, hb4⟩
  have hG4 := hG3.trans (hb4.mono hG3.size)
  go_wp2
  exact bodyPost_ret (v := .tuple #[.string (bs q), .int .i64 0]) (by first | (simp [results, Tryz.results17, go_sem, hT1.out]; done) | (simp [results, Tryz.results17, go_sem, hT2.out]; done)) rfl ⟨rfl, hG4⟩
 ·
  obtain rfl : kd = 2 := by rw [← hkd]; exact h2.1
  have hsn0 : 0 ≤ wh := by have := h2.2.1; rw [hcv] at this; exact this
  have hsn1 : wh ≤ 7 := by have := h2.2.2; rw [hcv] at this; exact this
  obtain ⟨s, rfl⟩ := Int.eq_ofNat_of_zero_le hsn0
  have cN := jH (fun w' => show Calls Tryz.prog _ #[.int .i64 2] w' _ from numZ_any 2 (by decide) w')
  have cS := jH (fun w' => numZ_any s (by omega) w')
  have hT1 : Hid (bs (numB 2) ++ bs (numB s) = bs q) := jH (by rw [← hr, hcv]; simp [jM])
  have a1 := jN 2 (by decide)
  have a2 := jN s (by omega)
  generalize numB 2 = n1 at *
  generalize numB s = ns at *
  have hs1 : ¬ 9223372036854775807 < (bs n1).size + (bs ns).size := by rw [jG, jG]; omega
  clear hxl hml hkk hmm hcv hE0 h2 hr hkd hsn0 hsn1 a1 a2 a4
  go_enter Tryz.func17, Tryz.ntmps17
  go_upto_region 1 with (fail)
  clear hW
  refine wp_region_list ?_
  refine wpList_load_row rfl _ _ rfl (w.heap.size) rfl 47 _ (0, 0) _ hbAH.out Tryz.underlying47 rfl (by kernel_rfl) ?_
  (try simp only [Act.put, List.setIfInBounds_toArray, List.set_cons_zero, List.set_cons_succ])
  go_wp2_with fail
  refine cK.out.mono ?_
  rintro e w1 ⟨rfl, hb1⟩
  have hG1 := hb0.trans (hb1.mono hz0)
  have hbA1 := jD hbAH.out hb1
  have hlt1 := jB hbA1
  have p0 := jA hbA1 0
  simp at p0
  clear hbA1
  go_wp2_with fail
  refine (cN.out _).mono ?_
  rintro e w2 ⟨rfl, hb2⟩
  have hG2 := hG1.trans (hb2.mono hG1.size)
  have hbA2 := jD hbAH.out (hb1.trans (hb2.mono hb1.size))
  have hlt2 := jB hbA2
  have hbA2H := jH hbA2
  clear p0 hlt1
  have p0 := jA hbA2 0
  have p14 := jA hbA2 14
  simp at p0 p14
  clear hbA2
  go_wp2_with fail
  refine (cS.out _).mono ?_
  rintro e w4 ⟨rfl, hb4⟩
  have hG4 := hG2.trans (hb4.mono hG2.size)
  clear p0 p14
  go_wp2
  exact bodyPost_ret (v := .tuple #[.string (bs q), .int .i64 0]) (by simp [results, Tryz.results17, go_sem, hT1.out]) rfl ⟨rfl, hG4⟩
 ·
  obtain rfl : kd = 3 := by rw [← hkd]; exact h3.k
  have hsn0 : 0 ≤ sn := by have := h3.s0; rw [hcv] at this; exact this
  have hsn1 : sn ≤ 1048576 := by have := h3.s1; rw [hcv] at this; exact this
  have hm5 : ms.length ≤ 5 := by have := h3.m; rw [hcv] at this; exact this
  have hz7 : ∀ z ∈ ms, 0 ≤ z ∧ z ≤ 7 := by have := h3.z; rw [hcv] at this; exact this
  have hm5m : m ≤ 5 := by omega
  obtain ⟨s, rfl⟩ := Int.eq_ofNat_of_zero_le hsn0
  have cN := jH (fun w' => show Calls Tryz.prog _ #[.int .i64 3] w' _ from numZ_any 3 (by decide) w')
  have cS := jH (fun w' => numZ_any s (by omega) w')
  have cM := jH (fun w' => numZ_any m (by omega) w')
  have cZ := jH (fun j (hj : j ≤ 7) w' => numZ_any j (by omega) w')
  have a1 := jN 3 (by decide)
  have a2 := jN s (by omega)
  have a3 := jN m (by omega)
  have hT1 : Hid (bs (partZ (numB 3 ++ numB m) ms m) ++ (bs (writeV u) ++ bs (numB s)) = bs q) := jH (by rw [← hr, hcv]; dsimp only; rw [if_neg (by decide), if_neg (by decide), if_pos rfl, hml]; unfold partZ; rw [List.take_of_length_le (by omega)]; simp [jM])
  have hT2 : Hid (bs (partZ (numB 3 ++ numB m) ms m) ++ bs (writeV u) ++ bs (numB s) = bs q) := jH (by rw [← hr, hcv]; dsimp only; rw [if_neg (by decide), if_neg (by decide), if_pos rfl, hml]; unfold partZ; rw [List.take_of_length_le (by omega)]; simp [jM])
  have hPL := jH (fun i => partZ_len (numB 3 ++ numB m) i hm5 hz7)
  have h00 : Hid (numB 3 ++ numB m = partZ (numB 3 ++ numB m) ms 0) := jH (by simp [partZ, writeZs])
  have hH : Hid (bs (numB 3) ++ bs (numB m) = bs (numB 3 ++ numB m)) := jH (by rw [jM])
  have hL : Hid ((numB 3 ++ numB m).length ≤ 18) := jH (by rw [List.length_append]; omega)
  generalize hhd : numB 3 ++ numB m = hd at hT1 hT2 hPL h00 hH hL
  clear hr hhd
  generalize numB 3 = n1 at *
  generalize numB m = nm at *
  generalize numB s = ns at *
  have hs1 : ¬ 9223372036854775807 < (bs n1).size + (bs nm).size := by rw [jG, jG]; omega
  have hpm := hPL.out m
  have hhl := hL.out
  have hs2 : ¬ 9223372036854775807 < (bs (writeV u)).size + (bs ns).size := by rw [jG, jG]; omega
  have hs3 : ¬ 9223372036854775807 < (bs (partZ hd ms m)).size + ((bs (writeV u)).size + (bs ns).size) := by rw [jG, jG, jG]; omega
  have hs4 : ¬ 9223372036854775807 < (bs (partZ hd ms m)).size + (bs (writeV u)).size := by rw [jG, jG]; omega
  have hs5 : ¬ 9223372036854775807 < (bs (partZ hd ms m)).size + (bs (writeV u)).size + (bs ns).size := by rw [jG, jG, jG]; omega
  have hzH := jH hz7
  clear hxl hml hkk hmm hcv hE0 h3 hkd hsn0 hsn1 a1 a2 a3 a4 hpm hhl hm5 hz7
  go_enter Tryz.func17, Tryz.ntmps17
  go_upto_region 1 with (fail)
  clear hW
  refine wp_region_list ?_
  refine wpList_load_row rfl _ _ rfl (w.heap.size) rfl 47 _ (0, 0) _ hbAH.out Tryz.underlying47 rfl (by kernel_rfl) ?_
  (try simp only [Act.put, List.setIfInBounds_toArray, List.set_cons_zero, List.set_cons_succ])
  go_wp2_with fail
  refine cK.out.mono ?_
  rintro e w1 ⟨rfl, hb1⟩
  have hG1 := hb0.trans (hb1.mono hz0)
  have hbA1 := jD hbAH.out hb1
  have hlt1 := jB hbA1
  have p0 := jA hbA1 0
  simp at p0
  clear hbA1
  go_wp2_with fail
  refine (cN.out _).mono ?_
  rintro e w2 ⟨rfl, hb2⟩
  have hG2 := hG1.trans (hb2.mono hG1.size)
  have hbA2 := jD hbAH.out (hb1.trans (hb2.mono hb1.size))
  have hlt2 := jB hbA2
  have hbA2H := jH hbA2
  clear p0 hlt1
  have p0 := jA hbA2 0
  have p15 := jA hbA2 15
  simp at p0 p15
  clear hbA2
  go_wp2_with fail
  refine (cM.out _).mono ?_
  rintro e w3 ⟨rfl, hb3⟩
  have hG3 := hG2.trans (hb3.mono hG2.size)
  have hbA3 := jD hbA2H.out hb3
  have hlt3 := jB hbA3
  have hbA3H := jH hbA3
  clear p0 p15 hlt2
  have p15 := jA hbA3 15
  simp at p15
  clear hbA3
  go_wp2_with fail
  rw [hH.out, h00.out]
  go_loopg [5, 53] (m + 1) (fun g o i wr => ∃ i' : Nat, i' ≤ m ∧ g = m + 1 - i' ∧ i = .int .i64 (i' : Int) ∧ o = .string (bs (partZ hd ms i')) ∧ Below w3.heap.size w3 wr)
  case atStart => exact ⟨0, Nat.zero_le _, rfl, rfl, rfl, Below.refl _ _⟩
  case round =>
   obtain ⟨i', hi, rfl, rfl, rfl, hbr⟩ := hrel
   have hpl := hPL.out i'
   have hGr := hG3.trans (hbr.mono hG3.size)
   by_cases hlt : i' < m
   ·
    obtain ⟨bB, oB, z, rfl, hbB, hzq, hcz⟩ := Rd.at_ (enc := eZ) (hMr.out wr hGr) hlt
    have z0 := hcz 0 _ rfl
    rw [Nat.mul_one, Nat.add_zero] at z0
    have hz := hzH.out z (List.mem_of_getElem? hzq)
    obtain ⟨j, rfl⟩ := Int.eq_ofNat_of_zero_le hz.1
    have hst := jH (show bs (partZ hd ms i') ++ bs (numB j) = bs (partZ hd ms (i' + 1)) by rw [jM]; exact congrArg bs (partZ_succ hd hzq))
    have hlti : (i' : Int) < (m : Int) := by omega
    have hbB2 : bB < wr.heap.size := by have := hGr.size; omega
    have a6 := jN j (by omega)
    have hL2 := hL.out
    have hs6 : ¬ 9223372036854775807 < (bs (partZ hd ms i')).size + (bs (numB j)).size := by rw [jG, jG]; omega
    have c1 := jH (cZ.out j (by omega))
    clear hcz hzq hz hpl a6 hL2
    go_wp2_with fail
    refine (c1.out _).mono ?_
    rintro e w4 ⟨rfl, hb4⟩
    have hG4 := hbr.trans (hb4.mono hbr.size)
    clear z0
    go_wp2
    go_roundg (m + 1 - (i' + 1))
    case measure => omega
    case rel => exact ⟨i' + 1, by omega, rfl, by go_num, congrArg Value.string hst.out, hG4⟩
   ·
    obtain rfl : i' = m := by omega
    have hnli : ¬ (i' : Int) < (i' : Int) := by omega
    have hbA4 := jD hbA3H.out hbr
    have hlt4 := jB hbA4
    clear p15 hlt3
    have p13 := jA hbA4 13
    have p16 := jA hbA4 16
    have p17 := jA hbA4 17
    have p18 := jA hbA4 18
    have p19 := jA hbA4 19
    have p20 := jA hbA4 20
    have p21 := jA hbA4 21
    have p22 := jA hbA4 22
    have p23 := jA hbA4 23
    simp at p13 p16 p17 p18 p19 p20 p21 p22 p23
    clear hbA4
    go_upto_region 18 with (fail)
    refine jW (fun w' => KQ wr.heap.size wr w') (fun _ => True) 99 (by kernel_rfl) (kq (Below.refl _ _).drew) trivial ?_
    intro hcl
    have hC : KQ wr.heap.size wr wr.drew := kq (Below.refl _ _).drew
    have hE := trivial
    (refine mT 0 ?_ rfl hcl hC hE ?_ ?_; rotate_left; (· (intro w hSw; (try dsimp only at hSw); go_simp; (try with_reducible rfl))); clear hcl; intro hcl; (try simp only [Act.put, List.getElem_toArray, List.getElem_cons_zero, List.setIfInBounds_toArray, List.set_cons_zero, List.set_cons_succ]))
    (refine mT 1 ?_ rfl hcl hC hE ?_ ?_; rotate_left; (· (intro w hSw; (try dsimp only at hSw); go_simp; (try with_reducible rfl))); clear hcl; intro hcl; (try simp only [Act.put, nA, nB, nC, nD, nE, nF]))
    (refine mT 2 ?_ rfl hcl hC hE ?_ ?_; rotate_left; (· (intro w hSw; (try dsimp only at hSw); go_simp; (try with_reducible rfl))); clear hcl; intro hcl; (try simp only [Act.put, nA, nB, nC, nD, nE, nF]))
    (refine mT 4 ?_ rfl hcl hC hE ?_ ?_; rotate_left; (· (intro w hSw; (try dsimp only at hSw); go_simp; (try with_reducible rfl))); clear hcl; intro hcl; (try simp only [Act.put, nA, nB, nC, nD, nE, nF]))
    (refine mT 5 ?_ rfl hcl hC hE ?_ ?_; rotate_left; (· (intro w hSw; (try dsimp only at hSw); go_simp; (try with_reducible rfl))); clear hcl; intro hcl; (try simp only [Act.put, nA, nB, nC, nD, nE, nF]))
    refine jK (i := 3) rfl (by kernel_rfl) hcl (fun K hK => ?_)
    go_simp
    refine (cV.out _).mono ?_
    rintro r v1 ⟨rfl, hv1⟩
    have hC' := jP hC (Nat.le_refl _) hv1
    refine hK.out _ _ hC' trivial ?_
    clear hK K
    clear hcl
    intro hcl
    (try simp only [Act.put, nA, nB, nC, nD, nE, nF])
    clear hC
    have hC := hC'
    clear hC'
    refine jK (i := 6) rfl (by kernel_rfl) hcl (fun K hK => ?_)
    go_simp
    refine (cS.out _).mono ?_
    rintro r v2 ⟨rfl, hv2⟩
    have hC' := jP hC (Nat.le_refl _) hv2
    refine hK.out _ _ hC' trivial ?_
    clear hK K
    clear hcl
    intro hcl
    (try simp only [Act.put, nA, nB, nC, nD, nE, nF])
    clear hC
    have hC := hC'
    clear hC'
    (refine mT 7 ?_ rfl hcl hC hE ?_ ?_; rotate_left; (· (intro w hSw; (try dsimp only at hSw); go_simp; (try with_reducible rfl))); clear hcl; intro hcl; (try simp only [Act.put, nA, nB, nC, nD, nE, nF]))
    (refine mT 8 ?_ rfl hcl hC hE ?_ ?_; rotate_left; (· (intro w hSw; (try dsimp only at hSw); go_simp; (try with_reducible rfl))); clear hcl; intro hcl; (try simp only [Act.put, nA, nB, nC, nD, nE, nF]))
    (refine mT 9 ?_ rfl hcl hC hE ?_ ?_; rotate_left; (· (intro w hSw; (try dsimp only at hSw); go_simp; (try with_reducible rfl))); clear hcl; intro hcl; (try simp only [Act.put, nA, nB, nC, nD, nE, nF]))
    refine wpM_done (by kernel_rfl) ?_
    clear hcl
    try simp only [Act.put, nA, nB, nC, nD, nE, nF]
    have hGE := hGr.trans (hC.1.mono hGr.size)
    clear hC
    go_wp2
    exact bodyPost_ret (v := .tuple #[.string (bs q), .int .i64 0]) (by simp [results, Tryz.results17, go_sem, hT1.out]) rfl ⟨rfl, hGE⟩
end Go.Proofs.YtfhandglpjnonaaGreatDoor
