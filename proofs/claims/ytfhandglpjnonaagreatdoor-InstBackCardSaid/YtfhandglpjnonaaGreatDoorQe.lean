/- What is wrong with a command: plain words; inst.checkDo, checkSeal. -/
import Derived.Test.YtfhandglpjnonaaGreatDoorQd
import Derived.Test.YtfhandglpjnonaaGreatDoorM46
set_option maxRecDepth 100000
set_option maxHeartbeats 16000000
namespace Go.Proofs.YtfhandglpjnonaaGreatDoor
open Go.RowKit
def okM : Int → List Int → Bool
 | _, [] => true
 | last, m :: r => membP m && decide (last < m) && okM m r
def doE (c : Cv) : Int := if txErr c.t.id c.t.deps c.t.parts ≠ 0 then txErr c.t.id c.t.deps c.t.parts else if c.t.thin = true then 3 else snapE c.snap
def sealE (c : Cv) : Int := if 5 < c.mem.length then 8 else if c.mem = [] then 3 else if okM (-1) c.mem = false then 3 else if errI (vchk c.since) ≠ 0 then errI (vchk c.since) else snapE c.snap
def zeroT : Tv := ⟨(0, 0), ⟨0, 0, 0, 0, 0, 0, 0, 0⟩, false, []⟩
def zeroQ : Vm := ⟨0, 0, 0, 0, 0, 0, 0, 0⟩
def keepC (c : Cv) : Cv := if c.kind = 0 then ⟨0, zeroT, 0, 0, [], zeroQ⟩ else if c.kind = 1 then ⟨1, c.t, c.snap, 0, [], zeroQ⟩ else if c.kind = 2 then ⟨2, zeroT, 0, c.who, [], zeroQ⟩ else ⟨3, zeroT, c.snap, 0, c.mem, c.since⟩
def kindE (c : Cv) : Int := if c.kind = 0 then 0 else if c.kind = 1 then doE c else if c.kind = 2 then (if membP c.who = true then 0 else 2) else if c.kind = 3 then sealE c else 5
def cmdErr (c : Cv) : Int := if kindE c ≠ 0 then kindE c else if sameCv (keepC c) c = true then 0 else 3
structure Cm.Fit (w : World) (c : Cm) : Prop where
 ok : c.Ok w w.heap.size
 fit : ∀ p ∈ c.ps, p.Fit w
 x : c.x.wf
 v : c.v.wf
 u : c.u.wf
theorem Cm.Fit.below {w w' : World} {c : Cm} (h : c.Fit w) (hb : Below w.heap.size w w') : c.Fit w' := ⟨(h.ok.below hb).more hb.size, fun p hp => (h.fit p hp).below hb, h.x, h.v, h.u⟩
theorem chkdo_any (a : Cm) (w : World) (hA : a.Fit w) (hV : VarM w) :
 Calls Tryz.prog 41 #[.agg ↑a] w fun e w' => e = .returned (.int .i64 (doE a.val)) ∧ Below w.heap.size w w' := by
 generalize hr : doE a.val = q
 unfold doE Cm.val at hr
 have hFit := hA
 obtain ⟨kd, x, v, t, T, k, kc, ps, sn, wh, B, m, mc, ms, u⟩ := a
 dsimp only at hr ⊢
 have hb0 : Below w.heap.size w (w.alloc (.cells #[.int .i64 kd, .int .i64 x.1, .int .u32 x.2, .int .u32 v.d0, .int .u32 v.d1, .int .u32 v.d2, .int .u32 v.d3, .int .u32 v.d4, .int .u32 v.d5, .int .u32 v.d6, .int .u32 v.d7, .bool t, .slice T k kc, .int .i64 sn, .int .i64 wh, .slice B m mc, .int .u32 u.d0, .int .u32 u.d1, .int .u32 u.d2, .int .u32 u.d3, .int .u32 u.d4, .int .u32 u.d5, .int .u32 u.d6, .int .u32 u.d7] 47)) := (Below.refl _ w).alloc (Nat.le_refl _) _
 have hbA : (w.alloc (.cells #[.int .i64 kd, .int .i64 x.1, .int .u32 x.2, .int .u32 v.d0, .int .u32 v.d1, .int .u32 v.d2, .int .u32 v.d3, .int .u32 v.d4, .int .u32 v.d5, .int .u32 v.d6, .int .u32 v.d7, .bool t, .slice T k kc, .int .i64 sn, .int .i64 wh, .slice B m mc, .int .u32 u.d0, .int .u32 u.d1, .int .u32 u.d2, .int .u32 u.d3, .int .u32 u.d4, .int .u32 u.d5, .int .u32 u.d6, .int .u32 u.d7] 47)).heap[w.heap.size]? = some (.cells #[.int .i64 kd, .int .i64 x.1, .int .u32 x.2, .int .u32 v.d0, .int .u32 v.d1, .int .u32 v.d2, .int .u32 v.d3, .int .u32 v.d4, .int .u32 v.d5, .int .u32 v.d6, .int .u32 v.d7, .bool t, .slice T k kc, .int .i64 sn, .int .i64 wh, .slice B m mc, .int .u32 u.d0, .int .u32 u.d1, .int .u32 u.d2, .int .u32 u.d3, .int .u32 u.d4, .int .u32 u.d5, .int .u32 u.d6, .int .u32 u.d7] 47 (0, 0)) := jT _ _ rfl
 generalize hW : (w.alloc (.cells #[.int .i64 kd, .int .i64 x.1, .int .u32 x.2, .int .u32 v.d0, .int .u32 v.d1, .int .u32 v.d2, .int .u32 v.d3, .int .u32 v.d4, .int .u32 v.d5, .int .u32 v.d6, .int .u32 v.d7, .bool t, .slice T k kc, .int .i64 sn, .int .i64 wh, .slice B m mc, .int .u32 u.d0, .int .u32 u.d1, .int .u32 u.d2, .int .u32 u.d3, .int .u32 u.d4, .int .u32 u.d5, .int .u32 u.d6, .int .u32 u.d7] 47)) = W at hb0 hbA
 have hz0 := hb0.size
 have hF := hFit.below hb0
 have hltA := jB hbA
 have p0 := jA hbA 0
 have p1 := jA hbA 1
 have p2 := jA hbA 2
 have p3 := jA hbA 3
 have p4 := jA hbA 4
 have p5 := jA hbA 5
 have p6 := jA hbA 6
 have p7 := jA hbA 7
 have p8 := jA hbA 8
 have p9 := jA hbA 9
 have p10 := jA hbA 10
 have p11 := jA hbA 11
 have p12 := jA hbA 12
 have p13 := jA hbA 13
 have p14 := jA hbA 14
 have p15 := jA hbA 15
 have p16 := jA hbA 16
 have p17 := jA hbA 17
 have p18 := jA hbA 18
 have p19 := jA hbA 19
 have p20 := jA hbA 20
 have p21 := jA hbA 21
 have p22 := jA hbA 22
 have p23 := jA hbA 23
 simp at p0 p1 p2 p3 p4 p5 p6 p7 p8 p9 p10 p11 p12 p13 p14 p15 p16 p17 p18 p19 p20 p21 p22 p23
 have hbAH := jH hbA
 have hrH := jH hr
 have cT := jH (txcheck_any x v t T k kc ps W hF.ok.rdE hF.ok.lk hF.fit hF.x hF.v (hV.below hb0 hV.lt))
 have cS := jH (fun w' => chksnap_any sn w')
 clear hbA hr hA hF hFit
 generalize txErr x v (ps.map Pe.core) = e0 at *
 by_cases h1 : e0 = 0
 case neg =>
  have hd : (e0 == 0) = false := by simpa using h1
  have hT : Hid (e0 = q) := jH (by rw [← hrH.out, if_pos h1])
  go_enter Tryz.func41, Tryz.ntmps41
  go_wp2_with fail
  refine cT.out.mono ?_
  rintro e w1 ⟨rfl, hbw⟩
  have hb01 := hb0.trans (hbw.mono hz0)
  clear p0 p1 p2 p3 p4 p5 p6 p7 p8 p9 p10 p11 p12 p13 p14 p15 p16 p17 p18 p19 p20 p21 p22 p23
  go_wp2
  go_ret
  exact ⟨jR hT.out, hb01⟩
 subst h1
 have hq1 : Hid ((if t = true then (3 : Int) else snapE sn) = q) := jH (by have h := hrH.out; rw [if_neg (show ¬ ((0 : Int) ≠ 0) by simp)] at h; exact h)
 go_enter Tryz.func41, Tryz.ntmps41
 go_wp2_with fail
 refine cT.out.mono ?_
 rintro e w1 ⟨rfl, hbw⟩
 have hb01 := hb0.trans (hbw.mono hz0)
 clear p0 p1 p2 p3 p4 p5 p6 p7 p8 p9 p10 p11 p12 p13 p14 p15 p16 p17 p18 p19 p20 p21 p22 p23
 have hbA1 := jD hbAH.out hbw
 have p11 := jA hbA1 11
 have p13 := jA hbA1 13
 simp at p11 p13
 have hltA1 := jB hbA1
 clear hbA1
 cases t with
 | true =>
  have hT : Hid ((3 : Int) = q) := jH (by rw [← hq1.out, if_pos rfl])
  go_wp2
  go_ret
  exact ⟨jR hT.out, hb01⟩
 | false =>
  have hT : Hid (snapE sn = q) := jH (by rw [← hq1.out, if_neg (by decide)])
  go_wp2_with fail
  refine (cS.out _).mono ?_
  rintro e w2 ⟨rfl, hbw2⟩
  have hG := hb01.trans (hbw2.mono hb01.size)
  go_wp2
  go_ret
  exact ⟨jR hT.out, hG⟩
theorem okM_step {last m : Int} {l : List Int} {k : Nat} (hm : l[k]? = some m) : okM last (l.drop k) = (membP m && decide (last < m) && okM m (l.drop (k + 1))) := by
 obtain ⟨h2, h3⟩ := List.getElem?_eq_some_iff.1 hm
 rw [List.drop_eq_getElem_cons h2, h3, okM]
theorem chkseal_any (a : Cm) (w : World) (hA : a.Fit w) :
 Calls Tryz.prog 42 #[.agg ↑a] w fun e w' => e = .returned (.int .i64 (sealE a.val)) ∧ Below w.heap.size w w' := by
 generalize hr : sealE a.val = q
 unfold sealE Cm.val at hr
 have hFit := hA
 obtain ⟨kd, x, v, t, T, k, kc, ps, sn, wh, B, m, mc, ms, u⟩ := a
 dsimp only at hr ⊢
 have hAM := hA.ok.rdM
 have hAm := hA.ok.lm
 dsimp only at hAM hAm
 unfold maxLen at hAm
 have hml : ms.length = m := by simpa using hAM.1
 rw [hml] at hr
 have hb0 : Below w.heap.size w (w.alloc (.cells #[.int .i64 kd, .int .i64 x.1, .int .u32 x.2, .int .u32 v.d0, .int .u32 v.d1, .int .u32 v.d2, .int .u32 v.d3, .int .u32 v.d4, .int .u32 v.d5, .int .u32 v.d6, .int .u32 v.d7, .bool t, .slice T k kc, .int .i64 sn, .int .i64 wh, .slice B m mc, .int .u32 u.d0, .int .u32 u.d1, .int .u32 u.d2, .int .u32 u.d3, .int .u32 u.d4, .int .u32 u.d5, .int .u32 u.d6, .int .u32 u.d7] 47)) := (Below.refl _ w).alloc (Nat.le_refl _) _
 have hbA : (w.alloc (.cells #[.int .i64 kd, .int .i64 x.1, .int .u32 x.2, .int .u32 v.d0, .int .u32 v.d1, .int .u32 v.d2, .int .u32 v.d3, .int .u32 v.d4, .int .u32 v.d5, .int .u32 v.d6, .int .u32 v.d7, .bool t, .slice T k kc, .int .i64 sn, .int .i64 wh, .slice B m mc, .int .u32 u.d0, .int .u32 u.d1, .int .u32 u.d2, .int .u32 u.d3, .int .u32 u.d4, .int .u32 u.d5, .int .u32 u.d6, .int .u32 u.d7] 47)).heap[w.heap.size]? = some (.cells #[.int .i64 kd, .int .i64 x.1, .int .u32 x.2, .int .u32 v.d0, .int .u32 v.d1, .int .u32 v.d2, .int .u32 v.d3, .int .u32 v.d4, .int .u32 v.d5, .int .u32 v.d6, .int .u32 v.d7, .bool t, .slice T k kc, .int .i64 sn, .int .i64 wh, .slice B m mc, .int .u32 u.d0, .int .u32 u.d1, .int .u32 u.d2, .int .u32 u.d3, .int .u32 u.d4, .int .u32 u.d5, .int .u32 u.d6, .int .u32 u.d7] 47 (0, 0)) := jT _ _ rfl
 generalize hW : (w.alloc (.cells #[.int .i64 kd, .int .i64 x.1, .int .u32 x.2, .int .u32 v.d0, .int .u32 v.d1, .int .u32 v.d2, .int .u32 v.d3, .int .u32 v.d4, .int .u32 v.d5, .int .u32 v.d6, .int .u32 v.d7, .bool t, .slice T k kc, .int .i64 sn, .int .i64 wh, .slice B m mc, .int .u32 u.d0, .int .u32 u.d1, .int .u32 u.d2, .int .u32 u.d3, .int .u32 u.d4, .int .u32 u.d5, .int .u32 u.d6, .int .u32 u.d7] 47)) = W at hb0 hbA
 have hz0 := hb0.size
 have hltA := jB hbA
 have p0 := jA hbA 0
 have p1 := jA hbA 1
 have p2 := jA hbA 2
 have p3 := jA hbA 3
 have p4 := jA hbA 4
 have p5 := jA hbA 5
 have p6 := jA hbA 6
 have p7 := jA hbA 7
 have p8 := jA hbA 8
 have p9 := jA hbA 9
 have p10 := jA hbA 10
 have p11 := jA hbA 11
 have p12 := jA hbA 12
 have p13 := jA hbA 13
 have p14 := jA hbA 14
 have p15 := jA hbA 15
 have p16 := jA hbA 16
 have p17 := jA hbA 17
 have p18 := jA hbA 18
 have p19 := jA hbA 19
 have p20 := jA hbA 20
 have p21 := jA hbA 21
 have p22 := jA hbA 22
 have p23 := jA hbA 23
 simp at p0 p1 p2 p3 p4 p5 p6 p7 p8 p9 p10 p11 p12 p13 p14 p15 p16 p17 p18 p19 p20 p21 p22 p23
 have hbAH := jH hbA
 have hrH := jH hr
 have hmsH := jH (fun w' (h : Below w.heap.size w w') => hAM.below h)
 have hmlH := jH hml
 have cV := jH (fun w' => vcheck_any u w')
 have cS := jH (fun w' => chksnap_any sn w')
 have cM := jH (fun n w' => member_any n w')
 clear hbA hr hA hFit hAM hml
 by_cases h5 : 5 < m
 case pos =>
  have h5d : decide ((5 : Int) < (m : Int)) = true := decide_eq_true (by omega)
  have h5i : (5 : Int) < (m : Int) := by omega
  have hT : Hid ((8 : Int) = q) := jH (by rw [← hrH.out, if_pos h5])
  clear h5
  go_enter Tryz.func42, Tryz.ntmps42
  go_wp2
  go_ret
  exact ⟨jR hT.out, hb0⟩
 have h5i : ¬ (5 : Int) < (m : Int) := by omega
 have hq1 : Hid ((if ms = [] then (3 : Int) else if okM (-1) ms = false then 3 else if errI (vchk u) ≠ 0 then errI (vchk u) else snapE sn) = q) := jH (by rw [← hrH.out, if_neg h5])
 go_enter Tryz.func42, Tryz.ntmps42
 go_wp2_with fail
 clear p0 p1 p2 p3 p4 p5 p6 p7 p8 p9 p10 p11 p12 p13 p14 p15 p16 p17 p18 p19 p20 p21 p22 p23
 go_loopg [3, 14] (m + 1) (fun gg lv iv wr => ∃ (j : Nat) (last : Int), j ≤ m ∧ gg = m + 1 - j ∧ iv = .int .i64 (j : Int) ∧ lv = .int .i64 last ∧ okM (-1) ms = okM last (ms.drop j) ∧ ((j = 0 ∧ last = -1) ∨ (0 < j ∧ 0 ≤ last)) ∧ Below W.heap.size W wr)
 case atStart => exact ⟨0, -1, Nat.zero_le _, rfl, rfl, rfl, rfl, .inl ⟨rfl, rfl⟩, Below.refl _ _⟩
 case round =>
  obtain ⟨j, last, hj, rfl, rfl, rfl, hok, hla, hbr⟩ := hrel
  obtain ⟨wv, hwv⟩ : ∃ wv, wv = wr := ⟨_, rfl⟩
  obtain rfl := hwv
  have hb0v := hb0.trans (hbr.mono hz0)
  have hzv := hb0v.size
  have hokH := jH hok
  have hlaH := jH hla
  clear hok hla
  by_cases hlt : j < m
  ·
   have hlti : (j : Int) < (m : Int) := by omega
   have hjn1 : IntKind.i64.wrap ((j : Int) + 1) = ((j + 1 : Nat) : Int) := by rw [IntWalk.i64_in _ (by omega)]; omega
   obtain ⟨bB, oB, y, rfl, hbB, hy, hcy⟩ := Rd.at_ (enc := eZ) (hmsH.out wv hb0v) hlt
   have y0 := hcy 0 _ rfl
   rw [Nat.mul_one, Nat.add_zero] at y0
   have hbB2 : bB < wv.heap.size := by omega
   have hst := jH (okM_step (last := last) hy)
   have hne : Hid (ms ≠ []) := jH (fun e => by rw [e] at hy; simp at hy)
   clear hcy hy
   cases hmb : membP y with
   | false =>
    have hT : Hid ((3 : Int) = q) := jH (by rw [← hq1.out, if_neg hne.out, if_pos (by rw [hokH.out, hst.out, hmb]; rfl)])
    have cY := jH (cM.out y wv)
    rw [hmb] at cY
    clear hmb
    go_wp2_with fail
    refine cY.out.mono ?_
    rintro e w1 ⟨rfl, hb1⟩
    have hG := hb0v.trans (hb1.mono hzv)
    go_wp2
    go_ret
    exact ⟨jR hT.out, hG⟩
   | true =>
    have hy0 : 0 ≤ y := by unfold membP at hmb; rw [Bool.and_eq_true, decide_eq_true_iff] at hmb; exact hmb.1
    have cY := jH (cM.out y wv)
    rw [hmb] at cY
    by_cases hle : y ≤ last
    ·
     have hled : decide (y ≤ last) = true := decide_eq_true hle
     have hT : Hid ((3 : Int) = q) := jH (by rw [← hq1.out, if_neg hne.out, if_pos (by rw [hokH.out, hst.out, hmb, decide_eq_false (by omega)]; rfl)])
     clear hmb
     go_wp2_with fail
     refine cY.out.mono ?_
     rintro e w1 ⟨rfl, hb1⟩
     have hG := hb0v.trans (hb1.mono hzv)
     go_wp2
     go_ret
     exact ⟨jR hT.out, hG⟩
    ·
     have hled : decide (y ≤ last) = false := decide_eq_false hle
     have hok2 : Hid (okM (-1) ms = okM y (ms.drop (j + 1))) := jH (by rw [hokH.out, hst.out, hmb, decide_eq_true (by omega)]; rfl)
     clear hmb
     go_wp2_with fail
     refine cY.out.mono ?_
     rintro e w1 ⟨rfl, hb1⟩
     have hbN := hbr.trans (hb1.mono hbr.size)
     go_wp2
     go_roundg (m + 1 - (j + 1))
     case measure => omega
     case rel => exact ⟨j + 1, y, by omega, rfl, by go_num, rfl, hok2.out, .inr ⟨by omega, hy0⟩, hbN⟩
  ·
   obtain rfl : j = m := by omega
   have hnlt : ¬ (j : Int) < (j : Int) := by omega
   rcases hlaH.out with ⟨hj0, hl1⟩ | ⟨hj0, hl1⟩
   ·
    have hms : ms = [] := List.eq_nil_of_length_eq_zero (by rw [hmlH.out]; exact hj0)
    have hT : Hid ((3 : Int) = q) := jH (by rw [← hq1.out, if_pos hms])
    subst hl1
    replace hj0 := jH hj0
    replace hms := jH hms
    go_wp2
    go_ret
    exact ⟨jR hT.out, hb0v⟩
   ·
    have hl0 : ¬ last < 0 := by omega
    have hl0d : decide (last < 0) = false := decide_eq_false hl0
    have hq2 : Hid ((if errI (vchk u) ≠ 0 then errI (vchk u) else snapE sn) = q) := jH (by
     have h := hq1.out
     rw [if_neg (show ¬ ms = [] from fun e => by have h2 := hmlH.out; rw [e] at h2; simp at h2; omega), if_neg (show ¬ okM (-1) ms = false by rw [hokH.out, List.drop_of_length_le (by rw [hmlH.out]; exact Nat.le_refl _)]; simp [okM])] at h
     exact h)
    have hbA1 := jD hbAH.out hbr
    have p0 := jA hbA1 0
    have p1 := jA hbA1 1
    have p2 := jA hbA1 2
    have p3 := jA hbA1 3
    have p4 := jA hbA1 4
    have p5 := jA hbA1 5
    have p6 := jA hbA1 6
    have p7 := jA hbA1 7
    have p8 := jA hbA1 8
    have p9 := jA hbA1 9
    have p10 := jA hbA1 10
    have p11 := jA hbA1 11
    have p12 := jA hbA1 12
    have p13 := jA hbA1 13
    have p14 := jA hbA1 14
    have p15 := jA hbA1 15
    have p16 := jA hbA1 16
    have p17 := jA hbA1 17
    have p18 := jA hbA1 18
    have p19 := jA hbA1 19
    have p20 := jA hbA1 20
    have p21 := jA hbA1 21
    have p22 := jA hbA1 22
    have p23 := jA hbA1 23
    simp at p0 p1 p2 p3 p4 p5 p6 p7 p8 p9 p10 p11 p12 p13 p14 p15 p16 p17 p18 p19 p20 p21 p22 p23
    have hltA1 := jB hbA1
    clear hbA1
    have cVu := jH (cV.out wv)
    generalize errI (vchk u) = ev at cVu hq2
    by_cases hev : ev = 0
    ·
     subst hev
     have hT : Hid (snapE sn = q) := jH (by have h := hq2.out; rw [if_neg (show ¬ ((0 : Int) ≠ 0) by simp)] at h; exact h)
     go_wp2_with fail
     refine cVu.out.mono ?_
     rintro e w1 ⟨rfl, hb1⟩
     have hb01 := hb0v.trans (hb1.mono hzv)
     have hbA2 := jD hbAH.out (hbr.trans (hb1.mono hbr.size))
     clear p0 p1 p2 p3 p4 p5 p6 p7 p8 p9 p10 p11 p12 p13 p14 p15 p16 p17 p18 p19 p20 p21 p22 p23
     have p13 := jA hbA2 13
     simp at p13
     have hltA2 := jB hbA2
     clear hbA2
     go_wp2_with fail
     refine (cS.out _).mono ?_
     rintro e w2 ⟨rfl, hb2⟩
     have hG := hb01.trans (hb2.mono hb01.size)
     go_wp2
     go_ret
     exact ⟨jR hT.out, hG⟩
    ·
     have hevd : (ev == 0) = false := by simpa using hev
     have hT : Hid (ev = q) := jH (by rw [← hq2.out, if_pos hev])
     go_wp2_with fail
     refine cVu.out.mono ?_
     rintro e w1 ⟨rfl, hb1⟩
     have hG := hb0v.trans (hb1.mono hzv)
     go_wp2
     go_ret
     exact ⟨jR hT.out, hG⟩
end Go.Proofs.YtfhandglpjnonaaGreatDoor
