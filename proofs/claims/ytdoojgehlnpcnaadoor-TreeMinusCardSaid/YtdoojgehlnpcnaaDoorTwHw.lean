/- The statement TreeWithin, walked. -/
import Derived.Test.YtdoojgehlnpcnaaDoorHk
namespace Go.Proofs.YtdoojgehlnpcnaaDoor
open Go.RowKit

theorem shortS.out {xs : List (List UInt8)} (h : shortS xs) : shortS (outW xs) := fun x hx => h x (((outW_spec xs).2.1 x).1 hx).1
theorem shortS.app {xs ys : List (List UInt8)} (h : shortS xs) (h2 : shortS ys) : shortS (xs ++ ys) := fun x hx => (List.mem_append.1 hx).elim (h x) (h2 x)
set_option maxRecDepth 100000 in
set_option maxHeartbeats 4000000 in
theorem treewithin_any (A : Option Addr) (n c : Nat) (xs : List (List UInt8)) (B : Option Addr) (m d : Nat) (ys : List (List UInt8)) (key : List UInt8) (w : World) (hA : RdS w w.heap.size A n xs) (hB : RdS w w.heap.size B m ys) (hn : n ≤ maxLen) (hm : m ≤ maxLen) (hx : ∀ x ∈ xs, x.length ≤ maxLen) (hy : ∀ x ∈ ys, x.length ≤ maxLen) (hk : key.length ≤ maxLen) (hv : VarM w) :
    Calls Tryd.prog 5 #[.slice A n c, .slice B m d, .string (bs key)] w fun e w' => e = .returned (.bool true) ∧ Below w.heap.size w w' := by
  have cW := Lib.hid (worksW_any w hv)
  have c1 := Lib.hid (fun w' (h : Below w.heap.size w w') => greatW_any A n c xs w' ((hA.below h).more h.size) hn hx)
  have c2 := Lib.hid (fun w' (h : Below w.heap.size w w') => greatW_any B m d ys w' ((hB.below h).more h.size) hm hy)
  have zk := bs_size key
  cases hg : grW xs with
  | true =>
    rw [hg] at c1
    clear c2 hg
    go_enter Tryd.func5, Tryd.ntmps5
    go_wp2_with fail
    refine (cW.out).mono ?_
    rintro e w0 ⟨rfl, hv0⟩
    go_wp2_with fail
    refine (c1.out w0 hv0).mono ?_
    rintro e w1 ⟨rfl, hv1⟩
    have hb1 := hv0.trans (hv1.mono hv0.size)
    go_wp2
    go_ret
    exact ⟨rfl, hb1⟩
  | false =>
  rw [hg] at c1
  obtain ⟨hxs, hxl⟩ := grW_no hg
  rw [hA.len] at hxl
  cases hg2 : grW ys with
  | true =>
    rw [hg2] at c2
    clear hg hg2
    go_enter Tryd.func5, Tryd.ntmps5
    go_wp2_with fail
    refine (cW.out).mono ?_
    rintro e w0 ⟨rfl, hv0⟩
    go_wp2_with fail
    refine (c1.out w0 hv0).mono ?_
    rintro e w1 ⟨rfl, hv1⟩
    have hb1 := hv0.trans (hv1.mono hv0.size)
    go_wp2_with fail
    refine (c2.out w1 hb1).mono ?_
    rintro e w2 ⟨rfl, hv2⟩
    have hb2 := hb1.trans (hv2.mono hb1.size)
    go_wp2
    go_ret
    exact ⟨rfl, hb2⟩
  | false =>
  rw [hg2] at c2
  obtain ⟨hys, hyl⟩ := grW_no hg2
  rw [hB.len] at hyl
  unfold maxLen at hk
  by_cases hkl : 300 < key.length
  · have hd : decide ((300 : Int) < (((bs key).size : Nat) : Int)) = true := decide_eq_true (by omega)
    clear hkl zk hg hg2
    go_enter Tryd.func5, Tryd.ntmps5
    go_wp2_with fail
    refine (cW.out).mono ?_
    rintro e w0 ⟨rfl, hv0⟩
    go_wp2_with fail
    refine (c1.out w0 hv0).mono ?_
    rintro e w1 ⟨rfl, hv1⟩
    have hb1 := hv0.trans (hv1.mono hv0.size)
    go_wp2_with fail
    refine (c2.out w1 hb1).mono ?_
    rintro e w2 ⟨rfl, hv2⟩
    have hb2 := hb1.trans (hv2.mono hb1.size)
    go_wp2
    go_ret
    exact ⟨rfl, hb2⟩
  have hd : decide ((300 : Int) < (((bs key).size : Nat) : Int)) = false := decide_eq_false (by omega)
  have hkm : key.length ≤ maxLen := by simp [maxLen]; omega
  have hAr := Lib.hid (fun w' (h : Below w.heap.size w w') => (hA.below h).more h.size)
  have hBr := Lib.hid (fun w' (h : Below w.heap.size w w') => (hB.below h).more h.size)
  have hvr := Lib.hid (fun w' (h : Below w.heap.size w w') => hv.below h hv.lt)
  have cO := Lib.hid (fun w' (h : Below w.heap.size w w') => ownW_any A n c xs w' (hAr.out w' h) (by omega))
  have cOy := Lib.hid (fun w' (h : Below w.heap.size w w') => ownW_any B m d ys w' (hBr.out w' h) (by omega))
  have cM := Lib.hid (fun A' c' w' (h : Below w.heap.size w w') (h1 : RdS w' w'.heap.size A' n xs) => tmake_any A' n c' xs w' h1 (by omega) hxs (hvr.out w' h))
  have cMy := Lib.hid (fun A' c' w' (h : Below w.heap.size w w') (h1 : RdS w' w'.heap.size A' m ys) => tmake_any A' m c' ys w' h1 (by omega) hys (hvr.out w' h))
  have cRH := Lib.hid (fun w' (h : Below w.heap.size w w') => rhasW_any A n c xs key w' (hAr.out w' h) hn hxs.max hkm)
  by_cases ha : makeWE xs = 0
  case neg =>
    have hna : (makeWE xs == 0) = false := by simpa using ha
    generalize makeWE xs = e1 at cM hna ha
    generalize makeW xs = mo at cM
    have hna2 : (e1 != 0) = true := by simpa using ha
    clear hg hg2 hkl zk hA hB hv hx hy hxs hys hkm hk ha
    go_enter Tryd.func5, Tryd.ntmps5
    go_wp2_with fail
    refine (cW.out).mono ?_
    rintro e w0 ⟨rfl, hv0⟩
    go_wp2_with fail
    refine (c1.out w0 hv0).mono ?_
    rintro e w1 ⟨rfl, hv1⟩
    have hb1 := hv0.trans (hv1.mono hv0.size)
    go_wp2_with fail
    refine (c2.out w1 hb1).mono ?_
    rintro e w2 ⟨rfl, hv2⟩
    have hb2 := hb1.trans (hv2.mono hb1.size)
    go_wp2_with fail
    refine (cO.out w2 hb2).mono ?_
    rintro e w3 ⟨M, mc, rfl, oM, hv3⟩
    have hb3 := hb2.trans (hv3.mono hb2.size)
    go_wp2_with fail
    refine (cM.out M mc w3 hb3 oM.rd.1).mono ?_
    rintro e w4 ⟨X, xn, xc, rfl, gX, hv4⟩
    have hb4 := hb3.trans (hv4.mono hb3.size)
    clear hv0 hv1 hv2 hv3 hv4 oM gX
    go_wp2_with fail
    refine (cOy.out w4 hb4).mono ?_
    rintro e w5 ⟨O, oc, rfl, oO, hv5⟩
    have hb5 := hb4.trans (hv5.mono hb4.size)
    go_wp2_with fail
    refine (cMy.out O oc w5 hb5 oO.rd.1).mono ?_
    rintro e w6 ⟨Y, yn, yc, rfl, gY, hv6⟩
    have hb6 := hb5.trans (hv6.mono hb5.size)
    clear oO gY hv5 hv6
    go_wp2
    go_ret
    exact ⟨rfl, hb6⟩
  by_cases hb : makeWE ys = 0
  case neg =>
    have hnb : (makeWE ys == 0) = false := by simpa using hb
    rw [ha] at cM
    generalize makeWE ys = e2 at cMy hnb hb
    generalize makeW xs = mo at cM
    generalize makeW ys = mp at cMy
    have hnb2 : (e2 != 0) = true := by simpa using hb
    clear hg hg2 hkl zk hA hB hv hx hy hxs hys hkm hk ha hb
    go_enter Tryd.func5, Tryd.ntmps5
    go_wp2_with fail
    refine (cW.out).mono ?_
    rintro e w0 ⟨rfl, hv0⟩
    go_wp2_with fail
    refine (c1.out w0 hv0).mono ?_
    rintro e w1 ⟨rfl, hv1⟩
    have hb1 := hv0.trans (hv1.mono hv0.size)
    go_wp2_with fail
    refine (c2.out w1 hb1).mono ?_
    rintro e w2 ⟨rfl, hv2⟩
    have hb2 := hb1.trans (hv2.mono hb1.size)
    go_wp2_with fail
    refine (cO.out w2 hb2).mono ?_
    rintro e w3 ⟨M, mc, rfl, oM, hv3⟩
    have hb3 := hb2.trans (hv3.mono hb2.size)
    go_wp2_with fail
    refine (cM.out M mc w3 hb3 oM.rd.1).mono ?_
    rintro e w4 ⟨X, xn, xc, rfl, gX, hv4⟩
    have hb4 := hb3.trans (hv4.mono hb3.size)
    clear hv0 hv1 hv2 hv3 hv4 oM gX
    go_wp2_with fail
    refine (cOy.out w4 hb4).mono ?_
    rintro e w5 ⟨O, oc, rfl, oO, hv5⟩
    have hb5 := hb4.trans (hv5.mono hb4.size)
    go_wp2_with fail
    refine (cMy.out O oc w5 hb5 oO.rd.1).mono ?_
    rintro e w6 ⟨Y, yn, yc, rfl, gY, hv6⟩
    have hb6 := hb5.trans (hv6.mono hb5.size)
    clear oO gY hv5 hv6
    go_wp2
    go_ret
    exact ⟨rfl, hb6⟩
  -- both are made
  obtain ⟨l1, l2, l3, l4, l5, l6, l7⟩ := treewithin_law ha hb key
  have hXl := (makeWE_zero.1 ha).2
  have hYl := (makeWE_zero.1 hb).2
  have hXs := hxs.out
  have hYs := hys.out
  rw [ha, make_out ha] at cM
  rw [hb, make_out hb] at cMy
  rw [← l3] at cRH
  generalize outW xs = X at *
  generalize outW ys = Y at *
  have hJs := (hXs.app hYs).out
  have hJl := outW_len (X ++ Y)
  rw [List.length_append] at hJl
  have cK := Lib.hid (fun A' n' c' w' (h : Below w.heap.size w w') (h1 : RdS w' w'.heap.size A' n' X) (hh : n' ≤ 16) => l1 ▸ tCheck_any A' n' c' X w' h1 (by omega) hXs (hvr.out w' h))
  have cHX := Lib.hid (fun A' n' c' w' (h1 : RdS w' w'.heap.size A' n' X) (hh : n' ≤ 16) => thas_any A' n' c' X key w' h1 (by simp [maxLen]; omega) hXs.mid hkm)
  have cHY := Lib.hid (fun A' n' c' w' (h1 : RdS w' w'.heap.size A' n' Y) (hh : n' ≤ 16) => thas_any A' n' c' Y key w' h1 (by simp [maxLen]; omega) hYs.mid hkm)
  have cCXY := Lib.hid (fun A' n' c' B' m' d' w' (h1 : RdS w' w'.heap.size A' n' X) (h2 : RdS w' w'.heap.size B' m' Y) (hh : n' ≤ 16) (hh2 : m' ≤ 16) => tcovers_any A' n' c' X B' m' d' Y w' h1 h2 (by simp [maxLen]; omega) (by simp [maxLen]; omega) hXs.mid hYs.max)
  have cJ := Lib.hid (fun A' n' c' B' m' d' w' (h : Below w.heap.size w w') (h1 : RdS w' w'.heap.size A' n' X) (h2 : RdS w' w'.heap.size B' m' Y) (hh : n' ≤ 16) (hh2 : m' ≤ 16) => tjoin_any A' n' c' X B' m' d' Y w' h1 h2 (by omega) (by omega) hXs hYs (hvr.out w' h))
  have cHJ := Lib.hid (fun A' n' c' w' (h1 : RdS w' w'.heap.size A' n' (outW (X ++ Y))) (hh : n' ≤ 32) => thas_any A' n' c' (outW (X ++ Y)) key w' h1 (by simp [maxLen]; omega) hJs.mid hkm)
  have cCJ := Lib.hid (fun (Z : List (List UInt8)) (hZ : shortS Z) (hc : coversW (outW (X ++ Y)) Z = true) A' n' c' B' m' d' w' (h1 : RdS w' w'.heap.size A' n' (outW (X ++ Y))) (h2 : RdS w' w'.heap.size B' m' Z) (hh : n' ≤ 32) (hh2 : m' ≤ 16) => hc ▸ tcovers_any A' n' c' (outW (X ++ Y)) B' m' d' Z w' h1 h2 (by simp [maxLen]; omega) (by simp [maxLen]; omega) hJs.mid hZ.max)
  have cCXX := Lib.hid (fun A' n' c' w' (h1 : RdS w' w'.heap.size A' n' X) (hh : n' ≤ 16) => l5 ▸ tcovers_any A' n' c' X A' n' c' X w' h1 h1 (by simp [maxLen]; omega) (by simp [maxLen]; omega) hXs.mid hXs.max)
  have l6H := Lib.hid l6
  have l7H := Lib.hid l7
  have hXsH := Lib.hid hXs
  have hYsH := Lib.hid hYs
  have hXlH := Lib.hid hXl
  have hYlH := Lib.hid hYl
  have hJlH := Lib.hid hJl
  have l4H := Lib.hid l4
  generalize hbx : hasW X key = bx at cRH cHX l4H l7H
  generalize hby : hasW Y key = by_ at cHY l4H l7H
  generalize hbc : coversW X Y = bc at cCXY l4H
  generalize hej : joinWE X Y = ej at cJ l6H l7H
  generalize hjj : joinW X Y = jj at cJ l7H
  clear hbx hby hbc hej hjj l1 l2 l3 l4 l5 l6 l7 hXl hYl hXs hYs hJs hJl
  clear hg hg2 hkl zk hA hB hv hx hy hxs hys hkm hk ha hb
  go_enter Tryd.func5, Tryd.ntmps5
  go_wp2_with fail
  refine (cW.out).mono ?_
  rintro e w0 ⟨rfl, hv0⟩
  go_wp2_with fail
  refine (c1.out w0 hv0).mono ?_
  rintro e w1 ⟨rfl, hv1⟩
  have hb1 := hv0.trans (hv1.mono hv0.size)
  go_wp2_with fail
  refine (c2.out w1 hb1).mono ?_
  rintro e w2 ⟨rfl, hv2⟩
  have hb2 := hb1.trans (hv2.mono hb1.size)
  go_wp2_with fail
  refine (cO.out w2 hb2).mono ?_
  rintro e w3 ⟨M, mc, rfl, oM, hv3⟩
  have hb3 := hb2.trans (hv3.mono hb2.size)
  go_wp2_with fail
  refine (cM.out M mc w3 hb3 oM.rd.1).mono ?_
  rintro e w4 ⟨XA, xn, xc, rfl, gX, hv4⟩
  have hb4 := hb3.trans (hv4.mono hb3.size)
  have x4 := Lib.hid gX.1
  have hxn : xn ≤ 16 := by have := gX.1.len; have := hXlH.out; omega
  clear hv0 hv1 hv2 hv3 hv4 oM gX cM cO c1 c2 cW hb1 hb2 hb3
  go_wp2_with fail
  refine (cOy.out w4 hb4).mono ?_
  rintro e w5 ⟨O, oc, rfl, oO, hv5⟩
  have hb5 := hb4.trans (hv5.mono hb4.size)
  have x5 := Lib.hid ((x4.out.below hv5).more hv5.size)
  clear x4
  go_wp2_with fail
  refine (cMy.out O oc w5 hb5 oO.rd.1).mono ?_
  rintro e w6 ⟨YA, yn, yc, rfl, gY, hv6⟩
  have hb6 := hb5.trans (hv6.mono hb5.size)
  have x6 := Lib.hid ((x5.out.below hv6).more hv6.size)
  clear x5
  have y6 := Lib.hid gY.1
  have hyn : yn ≤ 16 := by have := gY.1.len; have := hYlH.out; omega
  clear oO gY hv5 hv6 cMy cOy hb4 hb5
  go_upto_region 9 with (fail)
  go_cut [71] (fun s wx => s = .bool false ∧ Below w6.heap.size w6 wx)
  case first =>
    as_aux_lemma =>
    go_wp2_with fail
    refine (cK.out XA xn xc w6 hb6 x6.out hxn).mono ?_
    rintro e w7 ⟨rfl, hv7⟩
    have hb7 := hb6.trans (hv7.mono hb6.size)
    have x7 := Lib.hid ((x6.out.below hv7).more hv7.size)
    clear x6
    have y7 := Lib.hid ((y6.out.below hv7).more hv7.size)
    clear y6
    go_wp2_with fail
    refine (cHX.out XA xn xc w7 x7.out hxn).mono ?_
    rintro e w8 ⟨rfl, hv8⟩
    have hb8 := hb7.trans (hv8.mono hb7.size)
    have x8 := Lib.hid ((x7.out.below hv8).more hv8.size)
    clear x7
    have y8 := Lib.hid ((y7.out.below hv8).more hv8.size)
    clear y7
    go_wp2_with fail
    refine (cRH.out w8 hb8).mono ?_
    rintro e w9 ⟨rfl, hv9⟩
    have hb9 := hb8.trans (hv9.mono hb8.size)
    have x9 := Lib.hid ((x8.out.below hv9).more hv9.size)
    clear x8
    have y9 := Lib.hid ((y8.out.below hv9).more hv9.size)
    clear y8
    have hbxx : (bx != bx) = false := by cases bx <;> rfl
    have hk9 : Below w6.heap.size w6 w9 := hv7.trans ((hv8.trans (hv9.mono hv8.size)).mono hv7.size)
    clear hv7 hv8 hv9 hb6 hb7 hb8 cK cRH hb9
    go_wp2_with fail
    refine (cCXY.out XA xn xc YA yn yc w9 x9.out y9.out hxn hyn).mono ?_
    rintro e w10 ⟨rfl, hv10⟩
    have hk10 := hk9.trans (hv10.mono hk9.size)
    have x10 := Lib.hid ((x9.out.below hv10).more hv10.size)
    clear x9
    have y10 := Lib.hid ((y9.out.below hv10).more hv10.size)
    clear y9
    clear cCXY hv10 hk9
    cases bc with
    | false =>
      go_wp2_with fail
      go_meet
      exact ⟨rfl, hk10⟩
    | true =>
      go_wp2_with fail
      refine (cHY.out YA yn yc w10 y10.out hyn).mono ?_
      rintro e w11 ⟨rfl, hv11⟩
      have hk11 := hk10.trans (hv11.mono hk10.size)
      have x11 := Lib.hid ((x10.out.below hv11).more hv11.size)
      clear x10
      cases by_ with
      | false =>
        go_wp2_with fail
        go_meet
        exact ⟨rfl, hk11⟩
      | true =>
        have hbt : bx = true := l4H.out (by first | trivial | rfl) (by first | trivial | rfl)
        subst hbt
        go_wp2_with fail
        refine (cHX.out XA xn xc w11 x11.out hxn).mono ?_
        rintro e w12 ⟨rfl, hv12⟩
        have hk12 := hk11.trans (hv12.mono hk11.size)
        go_wp2_with fail
        go_meet
        exact ⟨rfl, hk12⟩
  obtain ⟨rfl, hv7⟩ := hcut
  obtain ⟨w7, hw7⟩ : ∃ w7, w7 = wc := ⟨_, rfl⟩
  obtain rfl := hw7
  have hb7 := hb6.trans (hv7.mono hb6.size)
  have x7 := Lib.hid ((x6.out.below hv7).more hv7.size)
  clear x6
  have y7 := Lib.hid ((y6.out.below hv7).more hv7.size)
  clear y6
  clear hv7 hb6 cK cRH cCXY l4H
  go_wp2_with fail
  refine (cJ.out XA xn xc YA yn yc w7 hb7 x7.out y7.out hxn hyn).mono ?_
  rintro e w8 ⟨JA, jn, jc, rfl, gJ, hv8⟩
  have hb8 := hb7.trans (hv8.mono hb7.size)
  have x8 := Lib.hid ((x7.out.below hv8).more hv8.size)
  clear x7
  have y8 := Lib.hid ((y7.out.below hv8).more hv8.size)
  clear y7
  have j8 := Lib.hid gJ.1
  clear hv8 hb7 gJ cJ
  by_cases hj : ej = 0
  case neg =>
    have he8 : ej = 8 := l6H.out hj
    clear l6H l7H hj
    subst he8
    go_wp2
    go_ret
    exact ⟨rfl, hb8⟩
  subst hj
  obtain ⟨rfl, q2, q3, q4⟩ := l7H.out rfl
  rw [q2] at cHJ
  have cC1 := Lib.hid (cCJ.out X hXsH.out q3)
  have cC2 := Lib.hid (cCJ.out Y hYsH.out q4)
  have hjn : jn ≤ 32 := by have := j8.out.len; have := hJlH.out; have := hXlH.out; have := hYlH.out; omega
  clear l6H l7H q2 q3 q4 cCJ
  generalize outW (X ++ Y) = J at *
  go_wp2_with fail
  refine (cHJ.out JA jn jc w8 j8.out hjn).mono ?_
  rintro e w9 ⟨rfl, hv9⟩
  have hb9 := hb8.trans (hv9.mono hb8.size)
  have x9 := Lib.hid ((x8.out.below hv9).more hv9.size)
  clear x8
  have y9 := Lib.hid ((y8.out.below hv9).more hv9.size)
  clear y8
  have j9 := Lib.hid ((j8.out.below hv9).more hv9.size)
  clear j8
  clear hv9 hb8 cHJ
  go_wp2_with fail
  refine (cHX.out XA xn xc w9 x9.out hxn).mono ?_
  rintro e w10 ⟨rfl, hv10⟩
  have hb10 := hb9.trans (hv10.mono hb9.size)
  have x10 := Lib.hid ((x9.out.below hv10).more hv10.size)
  clear x9
  have y10 := Lib.hid ((y9.out.below hv10).more hv10.size)
  clear y9
  have j10 := Lib.hid ((j9.out.below hv10).more hv10.size)
  clear j9
  clear hv10 hb9 cHX
  cases bx with
  | true =>
    have hor : (true || by_) = true := rfl
    rw [hor]
    go_wp2_with fail
    refine (cC1.out JA jn jc XA xn xc w10 j10.out x10.out hjn hxn).mono ?_
    rintro e w12 ⟨rfl, hv12⟩
    have hb12 := hb10.trans (hv12.mono hb10.size)
    have x12 := Lib.hid ((x10.out.below hv12).more hv12.size)
    clear x10
    have y12 := Lib.hid ((y10.out.below hv12).more hv12.size)
    clear y10
    have j12 := Lib.hid ((j10.out.below hv12).more hv12.size)
    clear j10
    go_wp2_with fail
    refine (cC2.out JA jn jc YA yn yc w12 j12.out y12.out hjn hyn).mono ?_
    rintro e w13 ⟨rfl, hv13⟩
    have hb13 := hb12.trans (hv13.mono hb12.size)
    have x13 := Lib.hid ((x12.out.below hv13).more hv13.size)
    clear x12
    go_wp2_with fail
    refine (cCXX.out XA xn xc w13 x13.out hxn).mono ?_
    rintro e w14 ⟨rfl, hv14⟩
    have hb14 := hb13.trans (hv14.mono hb13.size)
    clear hv12 hv13 hv14
    go_wp2
    go_ret
    exact ⟨rfl, hb14⟩
  | false =>
    have hor : (false || by_) = by_ := rfl
    rw [hor]
    have hbb : (by_ == by_) = true := by cases by_ <;> rfl
    go_wp2_with fail
    refine (cHY.out YA yn yc w10 y10.out hyn).mono ?_
    rintro e w11 ⟨rfl, hv11⟩
    have hb11 := hb10.trans (hv11.mono hb10.size)
    have x11 := Lib.hid ((x10.out.below hv11).more hv11.size)
    clear x10
    have y11 := Lib.hid ((y10.out.below hv11).more hv11.size)
    clear y10
    have j11 := Lib.hid ((j10.out.below hv11).more hv11.size)
    clear j10
    go_wp2_with fail
    refine (cC1.out JA jn jc XA xn xc w11 j11.out x11.out hjn hxn).mono ?_
    rintro e w12 ⟨rfl, hv12⟩
    have hb12 := hb11.trans (hv12.mono hb11.size)
    have x12 := Lib.hid ((x11.out.below hv12).more hv12.size)
    clear x11
    have y12 := Lib.hid ((y11.out.below hv12).more hv12.size)
    clear y11
    have j12 := Lib.hid ((j11.out.below hv12).more hv12.size)
    clear j11
    go_wp2_with fail
    refine (cC2.out JA jn jc YA yn yc w12 j12.out y12.out hjn hyn).mono ?_
    rintro e w13 ⟨rfl, hv13⟩
    have hb13 := hb12.trans (hv13.mono hb12.size)
    have x13 := Lib.hid ((x12.out.below hv13).more hv13.size)
    clear x12
    go_wp2_with fail
    refine (cCXX.out XA xn xc w13 x13.out hxn).mono ?_
    rintro e w14 ⟨rfl, hv14⟩
    have hb14 := hb13.trans (hv14.mono hb13.size)
    clear hv11 hv12 hv13 hv14
    go_wp2
    go_ret
    exact ⟨rfl, hb14⟩
end Go.Proofs.YtdoojgehlnpcnaaDoor
