/- The statement TreeMinus, walked. -/
import Derived.Test.YtdoojgehlnpcnaaDoorTwHw
namespace Go.Proofs.YtdoojgehlnpcnaaDoor
open Go.RowKit

set_option maxRecDepth 100000 in
set_option maxHeartbeats 4000000 in
theorem treeminus_any (A : Option Addr) (n c : Nat) (xs : List (List UInt8)) (p : List UInt8) (key : List UInt8) (w : World) (hA : RdS w w.heap.size A n xs) (hn : n ≤ maxLen) (hx : ∀ x ∈ xs, x.length ≤ maxLen) (hp : p.length ≤ maxLen) (hk : key.length ≤ maxLen) (hv : VarM w) :
    Calls Tryd.prog 4 #[.slice A n c, .string (bs p), .string (bs key)] w fun e w' => e = .returned (.bool true) ∧ Below w.heap.size w w' := by
  have cW := Lib.hid (worksW_any w hv)
  have c1 := Lib.hid (fun w' (h : Below w.heap.size w w') => greatW_any A n c xs w' ((hA.below h).more h.size) hn hx)
  have zk := bs_size key
  have zp := bs_size p
  cases hg : grW xs with
  | true =>
    rw [hg] at c1
    clear hg
    go_enter Tryd.func4, Tryd.ntmps4
    go_wp2_with fail
    refine (cW.out).mono ?_
    rintro e w0 ⟨rfl, hv0⟩
    go_wp2_with fail
    refine (c1.out w0 hv0).mono ?_
    rintro e w1 ⟨rfl, hv1⟩
    have hb1 := hv0.trans (hv1.mono hv0.size)
    go_wp2
    go_ret
    exact ⟨rfl, hb1⟩
  | false =>
  rw [hg] at c1
  obtain ⟨hxs, hxl⟩ := grW_no hg
  rw [hA.len] at hxl
  unfold maxLen at hk hp
  by_cases hpl : 300 < p.length
  · have hd : decide ((300 : Int) < (((bs p).size : Nat) : Int)) = true := decide_eq_true (by omega)
    clear hpl zk zp hg
    go_enter Tryd.func4, Tryd.ntmps4
    go_wp2_with fail
    refine (cW.out).mono ?_
    rintro e w0 ⟨rfl, hv0⟩
    go_wp2_with fail
    refine (c1.out w0 hv0).mono ?_
    rintro e w1 ⟨rfl, hv1⟩
    have hb1 := hv0.trans (hv1.mono hv0.size)
    go_wp2
    go_ret
    exact ⟨rfl, hb1⟩
  have hd : decide ((300 : Int) < (((bs p).size : Nat) : Int)) = false := decide_eq_false (by omega)
  by_cases hkl : 300 < key.length
  · have hd2 : decide ((300 : Int) < (((bs key).size : Nat) : Int)) = true := decide_eq_true (by omega)
    clear hkl hpl zk zp hg
    go_enter Tryd.func4, Tryd.ntmps4
    go_wp2_with fail
    refine (cW.out).mono ?_
    rintro e w0 ⟨rfl, hv0⟩
    go_wp2_with fail
    refine (c1.out w0 hv0).mono ?_
    rintro e w1 ⟨rfl, hv1⟩
    have hb1 := hv0.trans (hv1.mono hv0.size)
    go_wp2
    go_ret
    exact ⟨rfl, hb1⟩
  have hd2 : decide ((300 : Int) < (((bs key).size : Nat) : Int)) = false := decide_eq_false (by omega)
  have hkm : key.length ≤ maxLen := by simp [maxLen]; omega
  have hp1 : p.length ≤ 1000 := by omega
  have hAr := Lib.hid (fun w' (h : Below w.heap.size w w') => (hA.below h).more h.size)
  have hvr := Lib.hid (fun w' (h : Below w.heap.size w w') => hv.below h hv.lt)
  have cO := Lib.hid (fun w' (h : Below w.heap.size w w') => ownW_any A n c xs w' (hAr.out w' h) (by omega))
  have cM := Lib.hid (fun A' c' w' (h : Below w.heap.size w w') (h1 : RdS w' w'.heap.size A' n xs) => tmake_any A' n c' xs w' h1 (by omega) hxs (hvr.out w' h))
  by_cases ha : makeWE xs = 0
  case neg =>
    have hna : (makeWE xs == 0) = false := by simpa using ha
    generalize makeWE xs = e1 at cM hna ha
    generalize makeW xs = mo at cM
    clear hg hkl hpl zk zp hA hv hx hxs hkm hk hp hp1 ha
    go_enter Tryd.func4, Tryd.ntmps4
    go_wp2_with fail
    refine (cW.out).mono ?_
    rintro e w0 ⟨rfl, hv0⟩
    go_wp2_with fail
    refine (c1.out w0 hv0).mono ?_
    rintro e w1 ⟨rfl, hv1⟩
    have hb1 := hv0.trans (hv1.mono hv0.size)
    go_wp2_with fail
    refine (cO.out w1 hb1).mono ?_
    rintro e w3 ⟨M, mc, rfl, oM, hv3⟩
    have hb3 := hb1.trans (hv3.mono hb1.size)
    go_wp2_with fail
    refine (cM.out M mc w3 hb3 oM.rd.1).mono ?_
    rintro e w4 ⟨X, xn, xc, rfl, gX, hv4⟩
    have hb4 := hb3.trans (hv4.mono hb3.size)
    clear oM gX hv3 hv4
    go_wp2
    go_ret
    exact ⟨rfl, hb4⟩
  have hXl := (makeWE_zero.1 ha).2
  have hXs := hxs.out
  have hck := make_chk ha
  rw [ha, make_out ha] at cM
  have hml := treeminus_law hck p key
  generalize outW xs = X at *
  have cD := Lib.hid (fun A' n' c' w' (h : Below w.heap.size w w') (h1 : RdS w' w'.heap.size A' n' X) (hh : n' ≤ 16) => tminus_any A' n' c' X p w' h1 (by omega) hXs hp1 (hvr.out w' h))
  have hXlH := Lib.hid hXl
  by_cases hb : minusWE X p = 0
  case neg =>
    have hnb : (minusWE X p == 0) = false := by simpa using hb
    generalize minusWE X p = e2 at cD hnb hb
    generalize minusW X p = mo at cD
    clear hg hkl hpl zk zp hA hv hx hxs hkm hk hp hp1 ha hb hml hck hXs hXl
    go_enter Tryd.func4, Tryd.ntmps4
    go_wp2_with fail
    refine (cW.out).mono ?_
    rintro e w0 ⟨rfl, hv0⟩
    go_wp2_with fail
    refine (c1.out w0 hv0).mono ?_
    rintro e w1 ⟨rfl, hv1⟩
    have hb1 := hv0.trans (hv1.mono hv0.size)
    go_wp2_with fail
    refine (cO.out w1 hb1).mono ?_
    rintro e w3 ⟨M, mc, rfl, oM, hv3⟩
    have hb3 := hb1.trans (hv3.mono hb1.size)
    go_wp2_with fail
    refine (cM.out M mc w3 hb3 oM.rd.1).mono ?_
    rintro e w4 ⟨XA, xn, xc, rfl, gX, hv4⟩
    have hb4 := hb3.trans (hv4.mono hb3.size)
    have x4 := Lib.hid gX.1
    have hxn : xn ≤ 16 := by have := gX.1.len; have := hXlH.out; omega
    clear oM gX hv3 hv4
    go_wp2_with fail
    refine (cD.out XA xn xc w4 hb4 x4.out hxn).mono ?_
    rintro e w5 ⟨D, dn, dc, rfl, gD, hv5⟩
    have hb5 := hb4.trans (hv5.mono hb4.size)
    clear gD hv5 x4
    go_wp2
    go_ret
    exact ⟨rfl, hb5⟩
  obtain ⟨l1, l2, l3, l4, l5⟩ := hml hb
  rw [hb, l1] at cD
  have hDs : shortS (X.filter fun q => !withinB q p) := fun x hx => hXs x (List.mem_filter.1 hx).1
  have hDl := List.length_filter_le (fun q => !withinB q p) X
  generalize (X.filter fun q => !withinB q p) = D at *
  have cHX := Lib.hid (fun A' n' c' w' (h1 : RdS w' w'.heap.size A' n' X) (hh : n' ≤ 16) => thas_any A' n' c' X key w' h1 (by simp [maxLen]; omega) hXs.mid hkm)
  have cHD := Lib.hid (fun A' n' c' w' (h1 : RdS w' w'.heap.size A' n' D) (hh : n' ≤ 16) => thas_any A' n' c' D key w' h1 (by simp [maxLen]; omega) hDs.mid hkm)
  have cHP := Lib.hid (fun w' => thas_any (some ⟨w'.heap.size, 0, none⟩) 1 1 [p] key (w'.alloc (.cells #[.string (bs p)] 9)) (rdS_new w' p) (by decide) (fun x hx => by obtain rfl := List.mem_singleton.1 hx; omega) hkm)
  have cC := Lib.hid (fun A' n' c' B' m' d' w' (h1 : RdS w' w'.heap.size A' n' X) (h2 : RdS w' w'.heap.size B' m' D) (hh : n' ≤ 16) (hh2 : m' ≤ 16) => l3 ▸ tcovers_any A' n' c' X B' m' d' D w' h1 h2 (by simp [maxLen]; omega) (by simp [maxLen]; omega) hXs.mid hDs.max)
  have cK := Lib.hid (fun A' n' c' w' (h : Below w.heap.size w w') (h1 : RdS w' w'.heap.size A' n' D) (hh : n' ≤ 16) => l4 ▸ tCheck_any A' n' c' D w' h1 (by omega) hDs (hvr.out w' h))
  have hDlH := Lib.hid hDl
  have l2H := Lib.hid l2
  have l5H := Lib.hid l5
  generalize hbx : hasW X key = bx at cHX l2H l5H
  generalize hby : hasW D key = bd at cHD l2H l5H
  generalize hbp : hasW [p] key = bp at cHP l5H
  clear hg hkl hpl zk zp hA hv hx hxs hkm hk hp hp1 ha hb hml hck hXs hXl l1 l2 l3 l4 l5 hDs hDl hbx hby hbp
  go_enter Tryd.func4, Tryd.ntmps4
  go_wp2_with fail
  refine (cW.out).mono ?_
  rintro e w0 ⟨rfl, hv0⟩
  go_wp2_with fail
  refine (c1.out w0 hv0).mono ?_
  rintro e w1 ⟨rfl, hv1⟩
  have hb1 := hv0.trans (hv1.mono hv0.size)
  go_wp2_with fail
  refine (cO.out w1 hb1).mono ?_
  rintro e w3 ⟨M, mc, rfl, oM, hv3⟩
  have hb3 := hb1.trans (hv3.mono hb1.size)
  go_wp2_with fail
  refine (cM.out M mc w3 hb3 oM.rd.1).mono ?_
  rintro e w4 ⟨XA, xn, xc, rfl, gX, hv4⟩
  have hb4 := hb3.trans (hv4.mono hb3.size)
  have x4 := Lib.hid gX.1
  have hxn : xn ≤ 16 := by have := gX.1.len; have := hXlH.out; omega
  clear oM gX hv0 hv1 hv3 hv4 hb1 hb3 cO cM cW c1
  go_wp2_with fail
  refine (cD.out XA xn xc w4 hb4 x4.out hxn).mono ?_
  rintro e w5 ⟨DA, dn, dc, rfl, gD, hv5⟩
  have hb5 := hb4.trans (hv5.mono hb4.size)
  have x5 := Lib.hid ((x4.out.below hv5).more hv5.size)
  clear x4
  have d5 := Lib.hid gD.1
  have hdn : dn ≤ 16 := by have := gD.1.len; have := hDlH.out; have := hXlH.out; omega
  clear gD hv5 hb4 cD
  go_wp2_with fail
  refine (cHD.out DA dn dc w5 d5.out hdn).mono ?_
  rintro e w6 ⟨rfl, hv6⟩
  have hb6 := hb5.trans (hv6.mono hb5.size)
  have x6 := Lib.hid ((x5.out.below hv6).more hv6.size)
  clear x5
  have d6 := Lib.hid ((d5.out.below hv6).more hv6.size)
  clear d5
  clear hv6 hb5
  cases hbd : bd with
  | false =>
    rw [hbd] at l5H cHD
    clear hbd
    go_wp2_with fail
    refine (cC.out XA xn xc DA dn dc w6 x6.out d6.out hxn hdn).mono ?_
    rintro e w8 ⟨rfl, hv8⟩
    have hb8 := hb6.trans (hv8.mono hb6.size)
    have x8 := Lib.hid ((x6.out.below hv8).more hv8.size)
    clear x6
    have d8 := Lib.hid ((d6.out.below hv8).more hv8.size)
    clear d6
    go_wp2_with fail
    refine (cK.out DA dn dc w8 hb8 d8.out hdn).mono ?_
    rintro e w9 ⟨rfl, hv9⟩
    have hb9 := hb8.trans (hv9.mono hb8.size)
    have x9 := Lib.hid ((x8.out.below hv9).more hv9.size)
    clear x8
    have d9 := Lib.hid ((d8.out.below hv9).more hv9.size)
    clear d8
    clear hv8 hv9 hb6 hb8
    go_wp2_with fail
    refine (cHP.out w9).mono ?_
    rintro e w10 ⟨rfl, hv10'⟩
    have hv10 : Below w9.heap.size w9 w10 := ((Below.refl _ w9).alloc (Nat.le_refl _) _).trans (hv10'.mono (by simp))
    have hb10 := hb9.trans (hv10.mono hb9.size)
    have x10 := Lib.hid ((x9.out.below hv10).more hv10.size)
    clear x9
    have d10 := Lib.hid ((d9.out.below hv10).more hv10.size)
    clear d9
    clear hv10 hv10' hb9
    cases bp with
    | true =>
      go_wp2
      go_ret
      exact ⟨rfl, hb10⟩
    | false =>
      have hbx2 : Hid ((!bx) = true) := Lib.hid (by rw [← l5H.out rfl]; rfl)
      go_wp2_with fail
      refine (cHD.out DA dn dc w10 d10.out hdn).mono ?_
      rintro e w11 ⟨rfl, hv11⟩
      have hb11 := hb10.trans (hv11.mono hb10.size)
      have x11 := Lib.hid ((x10.out.below hv11).more hv11.size)
      clear x10
      go_wp2_with fail
      refine (cHX.out XA xn xc w11 x11.out hxn).mono ?_
      rintro e w12 ⟨rfl, hv12⟩
      have hb12 := hb11.trans (hv12.mono hb11.size)
      clear hv11 hv12
      go_wp2
      go_ret
      exact ⟨ret_bool hbx2.out, hb12⟩
  | true =>
    rw [hbd] at cHD l5H
    have hbx1 : bx = true := l2H.out hbd
    clear hbd l5H
    subst hbx1
    go_wp2_with fail
    refine (cHX.out XA xn xc w6 x6.out hxn).mono ?_
    rintro e w7 ⟨rfl, hv7⟩
    have hb7 := hb6.trans (hv7.mono hb6.size)
    have x7 := Lib.hid ((x6.out.below hv7).more hv7.size)
    clear x6
    have d7 := Lib.hid ((d6.out.below hv7).more hv7.size)
    clear d6
    go_wp2_with fail
    refine (cC.out XA xn xc DA dn dc w7 x7.out d7.out hxn hdn).mono ?_
    rintro e w8 ⟨rfl, hv8⟩
    have hb8 := hb7.trans (hv8.mono hb7.size)
    have x8 := Lib.hid ((x7.out.below hv8).more hv8.size)
    clear x7
    have d8 := Lib.hid ((d7.out.below hv8).more hv8.size)
    clear d7
    go_wp2_with fail
    refine (cK.out DA dn dc w8 hb8 d8.out hdn).mono ?_
    rintro e w9 ⟨rfl, hv9⟩
    have hb9 := hb8.trans (hv9.mono hb8.size)
    have x9 := Lib.hid ((x8.out.below hv9).more hv9.size)
    clear x8
    have d9 := Lib.hid ((d8.out.below hv9).more hv9.size)
    clear d8
    clear hv7 hv8 hv9 hb6 hb7 hb8
    go_wp2_with fail
    refine (cHP.out w9).mono ?_
    rintro e w10 ⟨rfl, hv10'⟩
    have hv10 : Below w9.heap.size w9 w10 := ((Below.refl _ w9).alloc (Nat.le_refl _) _).trans (hv10'.mono (by simp))
    have hb10 := hb9.trans (hv10.mono hb9.size)
    have x10 := Lib.hid ((x9.out.below hv10).more hv10.size)
    clear x9
    have d10 := Lib.hid ((d9.out.below hv10).more hv10.size)
    clear d9
    clear hv10 hv10' hb9
    cases bp with
    | true =>
      go_wp2
      go_ret
      exact ⟨rfl, hb10⟩
    | false =>
      go_wp2_with fail
      refine (cHD.out DA dn dc w10 d10.out hdn).mono ?_
      rintro e w11 ⟨rfl, hv11⟩
      have hb11 := hb10.trans (hv11.mono hb10.size)
      have x11 := Lib.hid ((x10.out.below hv11).more hv11.size)
      clear x10
      go_wp2_with fail
      refine (cHX.out XA xn xc w11 x11.out hxn).mono ?_
      rintro e w12 ⟨rfl, hv12⟩
      have hb12 := hb11.trans (hv12.mono hb11.size)
      clear hv11 hv12
      go_wp2
      go_ret
      exact ⟨rfl, hb12⟩
end Go.Proofs.YtdoojgehlnpcnaaDoor
