/- The statement TreeMakes, walked. -/
import Derived.Test.YtdoojgehlnpcnaaDoorHk
namespace Go.Proofs.YtdoojgehlnpcnaaDoor
open Go.RowKit

set_option maxRecDepth 100000 in
set_option maxHeartbeats 4000000 in
theorem treemakes_any (A : Option Addr) (n c : Nat) (xs : List (List UInt8)) (B : Option Addr) (m d : Nat) (ys : List (List UInt8)) (key : List UInt8) (w : World) (hA : RdS w w.heap.size A n xs) (hB : RdS w w.heap.size B m ys) (hn : n ≤ maxLen) (hm : m ≤ maxLen) (hx : ∀ x ∈ xs, x.length ≤ maxLen) (hy : ∀ x ∈ ys, x.length ≤ maxLen) (hk : key.length ≤ maxLen) (hv : VarM w) :
    Calls Tryd.prog 3 #[.slice A n c, .slice B m d, .string (bs key)] w fun e w' => e = .returned (.bool true) ∧ Below w.heap.size w w' := by
  have c1 := great_any A n c xs w hA hn hx
  have c2 := Lib.hid (fun w' (h : Below w.heap.size w w') => great_any B m d ys w' ((hB.below h).more h.size) hm hy)
  have zk := bs_size key
  cases hg : grW xs with
  | true =>
    rw [hg] at c1
    clear c2 hg
    go_enter Tryd.func3, Tryd.ntmps3
    go_wp2_with fail
    refine c1.mono ?_
    rintro e w1 ⟨rfl, hv1⟩
    go_wp2
    go_ret
    exact ⟨rfl, hv1⟩
  | false =>
  rw [hg] at c1
  obtain ⟨hxs, hxl⟩ := grW_no hg
  rw [hA.len] at hxl
  have c1 := Lib.hid c1
  cases hg2 : grW ys with
  | true =>
    rw [hg2] at c2
    clear hg hg2
    go_enter Tryd.func3, Tryd.ntmps3
    go_wp2_with fail
    refine c1.out.mono ?_
    rintro e w1 ⟨rfl, hv1⟩
    go_wp2_with fail
    refine (c2.out w1 hv1).mono ?_
    rintro e w2 ⟨rfl, hv2⟩
    have hG := hv1.trans (hv2.mono hv1.size)
    go_wp2
    go_ret
    exact ⟨rfl, hG⟩
  | false =>
  rw [hg2] at c2
  obtain ⟨hys, hyl⟩ := grW_no hg2
  rw [hB.len] at hyl
  unfold maxLen at hk
  by_cases hkl : 300 < key.length
  · have hd : decide ((300 : Int) < (((bs key).size : Nat) : Int)) = true := decide_eq_true (by omega)
    clear hkl zk hg hg2
    go_enter Tryd.func3, Tryd.ntmps3
    go_wp2_with fail
    refine c1.out.mono ?_
    rintro e w1 ⟨rfl, hv1⟩
    go_wp2_with fail
    refine (c2.out w1 hv1).mono ?_
    rintro e w2 ⟨rfl, hv2⟩
    have hG := hv1.trans (hv2.mono hv1.size)
    go_wp2
    go_ret
    exact ⟨rfl, hG⟩
  have hd : decide ((300 : Int) < (((bs key).size : Nat) : Int)) = false := decide_eq_false (by omega)
  have hkm : key.length ≤ maxLen := by simp [maxLen]; omega
  have hAr := Lib.hid (fun w' (h : Below w.heap.size w w') => (hA.below h).more h.size)
  have hBr := Lib.hid (fun w' (h : Below w.heap.size w w') => (hB.below h).more h.size)
  have hvr := Lib.hid (fun w' (h : Below w.heap.size w w') => hv.below h hv.lt)
  have cO := Lib.hid (fun w' (h : Below w.heap.size w w') => ownW_any A n c xs w' (hAr.out w' h) (by omega))
  have cOy := Lib.hid (fun w' (h : Below w.heap.size w w') => ownW_any B m d ys w' (hBr.out w' h) (by omega))
  have cM := Lib.hid (fun A' c' w' (h : Below w.heap.size w w') (h1 : RdS w' w'.heap.size A' n xs) => tmake_any A' n c' xs w' h1 (by omega) hxs (hvr.out w' h))
  have cR := Lib.hid (fun w' (h : Below w.heap.size w w') => rmakeW_any A n c xs w' (hAr.out w' h) (by omega) hxs)
  have cK := Lib.hid (fun A' c' w' (h : Below w.heap.size w w') (h1 : RdS w' w'.heap.size A' n xs) => tCheck_any A' n c' xs w' h1 (by omega) hxs (hvr.out w' h))
  have cRK := Lib.hid (fun w' (h : Below w.heap.size w w') => rCheckW_any A n c xs w' (hAr.out w' h) (by omega) hxs)
  have cH := Lib.hid (fun A' c' w' (h1 : RdS w' w'.heap.size A' n xs) => thas_any A' n c' xs key w' h1 hn hxs.mid hkm)
  have cRH := Lib.hid (fun w' (h : Below w.heap.size w w') => rhas_any A n c xs key w' (hAr.out w' h) hn hxs.max hkm)
  have cC := Lib.hid (fun A' c' B' d' w' (h1 : RdS w' w'.heap.size A' n xs) (h2 : RdS w' w'.heap.size B' m ys) => tcovers_any A' n c' xs B' m d' ys w' h1 h2 hn hm hxs.mid hys.max)
  have cRC := Lib.hid (fun w' (h : Below w.heap.size w w') => rcovers_any A n c xs B m d ys w' (hAr.out w' h) (hBr.out w' h) hn hm hxs.max hys.max)
  have cS := Lib.hid (fun A' c' n' B' d' n'' zs w' (h1 : RdS w' w'.heap.size A' n' zs) (h2 : RdS w' w'.heap.size B' n'' zs) (h3 : n' ≤ 100000) (h4 : n'' ≤ 100000) => show Calls Tryd.prog 10 #[.slice A' n' c', .slice B' n'' d'] w' (fun e w'' => e = .returned (.bool true) ∧ Below w'.heap.size w' w'') from by
    have h9 := sameW_any A' B' n' n'' c' d' zs zs w' h1 h2 (by simp [maxLen]; omega) (by simp [maxLen]; omega)
    rw [decide_eq_true rfl] at h9
    exact h9)
  generalize makeWE xs = e1 at cM cR
  generalize makeW xs = mo at cM cR
  generalize chkW xs = e2 at cK cRK
  generalize hasW xs key = bh at cH cRH
  generalize coversW xs ys = bc at cC cRC
  have hee : (bh == bh) = true := by cases bh <;> rfl
  have hcc : (bc == bc) = true := by cases bc <;> rfl
  clear hg hg2 hkl zk hA hB hv hx hy hxs hys hkm hk
  go_enter Tryd.func3, Tryd.ntmps3
  go_wp2_with fail
  refine c1.out.mono ?_
  rintro e w1 ⟨rfl, hv1⟩
  go_wp2_with fail
  refine (c2.out w1 hv1).mono ?_
  rintro e w2 ⟨rfl, hv2⟩
  have hb2 := hv1.trans (hv2.mono hv1.size)
  clear hv1 hv2 c1 c2
  go_wp2_with fail
  refine (cO.out w2 hb2).mono ?_
  rintro e w3 ⟨M, mc, rfl, oM, hv3⟩
  have hb3 := hb2.trans (hv3.mono hb2.size)
  have r3 := Lib.hid oM.rd.1
  clear oM hv3 cO
  go_wp2_with fail
  refine (cM.out M mc w3 hb3 r3.out).mono ?_
  rintro e w4 ⟨X, xn, xc, rfl, gX, hv4⟩
  have hb4 := hb3.trans (hv4.mono hb3.size)
  have r4 := Lib.hid ((r3.out.below hv4).more hv4.size)
  have x4 := Lib.hid gX
  clear gX hv4 cM r3
  go_wp2_with fail
  refine (cR.out w4 hb4).mono ?_
  rintro e w5 ⟨Y, yn, yc, rfl, gY, hv5⟩
  have hb5 := hb4.trans (hv5.mono hb4.size)
  have r5 := Lib.hid ((r4.out.below hv5).more hv5.size)
  have x5 := Lib.hid ((x4.out.1.below hv5).more hv5.size)
  have cS5 := Lib.hid (cS.out X xc xn Y yc yn mo w5 x5.out gY.1 x4.out.2 gY.2)
  clear gY hv5 cR r4 x4 x5
  go_wp2_with fail
  refine cS5.out.mono ?_
  rintro e w6 ⟨rfl, hv6⟩
  have hb6 := hb5.trans (hv6.mono hb5.size)
  have r6 := Lib.hid ((r5.out.below hv6).more hv6.size)
  clear hv6 cS5 r5
  go_wp2_with fail
  refine (cK.out M mc w6 hb6 r6.out).mono ?_
  rintro e w7 ⟨rfl, hv7⟩
  have hb7 := hb6.trans (hv7.mono hb6.size)
  have r7 := Lib.hid ((r6.out.below hv7).more hv7.size)
  clear hv7 cK r6
  go_wp2_with fail
  refine (cRK.out w7 hb7).mono ?_
  rintro e w8 ⟨rfl, hv8⟩
  have hb8 := hb7.trans (hv8.mono hb7.size)
  have r8 := Lib.hid ((r7.out.below hv8).more hv8.size)
  clear hv8 cRK r7
  go_wp2_with fail
  refine (cH.out M mc w8 r8.out).mono ?_
  rintro e w9 ⟨rfl, hv9⟩
  have hb9 := hb8.trans (hv9.mono hb8.size)
  have r9 := Lib.hid ((r8.out.below hv9).more hv9.size)
  clear hv9 cH r8
  go_wp2_with fail
  refine (cRH.out w9 hb9).mono ?_
  rintro e w10 ⟨rfl, hv10⟩
  have hb10 := hb9.trans (hv10.mono hb9.size)
  have r10 := Lib.hid ((r9.out.below hv10).more hv10.size)
  clear hv10 cRH r9
  go_wp2_with fail
  refine (cOy.out w10 hb10).mono ?_
  rintro e w11 ⟨O, oc, rfl, oO, hv11⟩
  have hb11 := hb10.trans (hv11.mono hb10.size)
  have r11 := Lib.hid ((r10.out.below hv11).more hv11.size)
  have o11 := Lib.hid oO.rd.1
  clear hv11 cOy r10 oO
  go_wp2_with fail
  refine (cC.out M mc O oc w11 r11.out o11.out).mono ?_
  rintro e w12 ⟨rfl, hv12⟩
  have hb12 := hb11.trans (hv12.mono hb11.size)
  have r12 := Lib.hid ((r11.out.below hv12).more hv12.size)
  clear hv12 cC r11 o11
  go_wp2_with fail
  refine (cRC.out w12 hb12).mono ?_
  rintro e w13 ⟨rfl, hv13⟩
  have hb13 := hb12.trans (hv13.mono hb12.size)
  have r13 := Lib.hid ((r12.out.below hv13).more hv13.size)
  have cS13 := Lib.hid (cS.out M mc n A c n xs w13 r13.out (hAr.out w13 hb13) (by omega) (by omega))
  clear hv13 cRC r12 r13
  go_wp2_with fail
  refine cS13.out.mono ?_
  rintro e w14 ⟨rfl, hv14⟩
  have hG := hb13.trans (hv14.mono hb13.size)
  clear hv14
  go_wp2
  go_ret
  exact ⟨rfl, hG⟩
end Go.Proofs.YtdoojgehlnpcnaaDoor
