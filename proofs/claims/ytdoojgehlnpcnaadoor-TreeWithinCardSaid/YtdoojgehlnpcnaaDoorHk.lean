/- Interests: SameTexts, and 'works' of the statements. -/
import Derived.Test.YtdoojgehlnpcnaaDoorHj
import Derived.Test.YtdoojgehlnpcnaaDoorHh
namespace Go.Proofs.YtdoojgehlnpcnaaDoor
open Go.RowKit

set_option maxRecDepth 100000 in
theorem sameW_any (A B : Option Addr) (n m c d : Nat) (xs ys : List (List UInt8)) (w : World) (hA : RdS w w.heap.size A n xs) (hB : RdS w w.heap.size B m ys) (hn : n ≤ maxLen) (hm : m ≤ maxLen) :
    Calls Tryd.prog 10 #[.slice A n c, .slice B m d] w fun e w' => e = .returned (.bool (decide (xs = ys))) ∧ Below w.heap.size w w' := by
  have hl := hA.len
  have hl2 := hB.len
  unfold maxLen at hn hm
  generalize hr : decide (xs = ys) = r
  have hrH := Lib.hid hr
  clear hr
  by_cases hnm : (n : Int) = (m : Int)
  · obtain rfl : n = m := by omega
    clear hnm
    go_enter Tryd.func10, Tryd.ntmps10
    go_wp2
    go_loopg [5] (n + 1) (fun g i wr => ∃ k : Nat, k ≤ n ∧ g = n + 1 - k ∧ i = .int .i64 (k : Int) ∧ xs.take k = ys.take k ∧ Below w.heap.size w wr)
    case atStart => exact ⟨0, Nat.zero_le _, rfl, rfl, rfl, Below.refl _ _⟩
    case round =>
      obtain ⟨k, hk, rfl, rfl, htk, hbr⟩ := hrel
      have hz := hbr.size
      by_cases hlt : k < n
      · obtain ⟨bA, oA, x, rfl, hbA, hp, hcp⟩ := (hA.below hbr).at_ hlt
        obtain ⟨bB, oB, y, rfl, hbB, hq, hcq⟩ := (hB.below hbr).at_ hlt
        have p0 := hcp 0 _ rfl
        have q0 := hcq 0 _ rfl
        rw [Nat.add_zero, Nat.mul_one] at p0 q0
        clear hcp hcq
        have hbA2 : bA < wr.heap.size := by omega
        have hbB2 : bB < wr.heap.size := by omega
        have htkH := Lib.hid htk
        have hpH := Lib.hid hp
        have hqH := Lib.hid hq
        clear htk hp hq
        have hq0 : KQ wr.heap.size wr wr := kq (Below.refl _ _)
        by_cases he : x = y
        · subst he
          have hT : Hid (xs.take (k + 1) = ys.take (k + 1)) := Lib.hid (by rw [List.take_add_one, List.take_add_one, htkH.out, hpH.out, hqH.out])
          go_wp2
          go_region_held3 (fun w' => KQ wr.heap.size wr w') (first
      | with_reducible exact kq_call (by assumption) (by simp) (by assumption)
      | with_reducible exact kq_grown (by assumption) (by simp) (by assumption) (by simp [Value.ownBlock])
      | ((with_reducible refine kq ?_); (repeat (first | (with_reducible exact Below.refl _ _) | (with_reducible refine Below.drew ?_) | (with_reducible refine Below.alloc ?_ (by simp) _) | (with_reducible refine Below.setCell ?_ (by simp) _) | (with_reducible exact (by assumption : KQ _ _ _).1))); done)) (first | (go_at_call 0; skip))
          have hG : Below w.heap.size w wr.drew := hbr.drew
          go_wp2
          go_roundg (n + 1 - (k + 1))
          case measure => omega
          case rel => exact ⟨k + 1, by omega, rfl, by go_num, hT.out, hG⟩
        · have hT : Hid (false = r) := Lib.hid (by
            rw [← hrH.out]; symm; apply decide_eq_false; intro e; subst e
            have := hpH.out.symm.trans hqH.out
            injection this with this; exact he this)
          have hG : Below w.heap.size w wr.drew := hbr.drew
          have hsn : ((bs x).toList == (bs y).toList) = false := by rw [bs_emptyH, bs_emptyH, beq_eq_false_iff_ne]; exact he
          clear he
          go_wp2
          go_region_held3 (fun w' => KQ wr.heap.size wr w') (first
      | with_reducible exact kq_call (by assumption) (by simp) (by assumption)
      | with_reducible exact kq_grown (by assumption) (by simp) (by assumption) (by simp [Value.ownBlock])
      | ((with_reducible refine kq ?_); (repeat (first | (with_reducible exact Below.refl _ _) | (with_reducible refine Below.drew ?_) | (with_reducible refine Below.alloc ?_ (by simp) _) | (with_reducible refine Below.setCell ?_ (by simp) _) | (with_reducible exact (by assumption : KQ _ _ _).1))); done)) (first | (go_at_call 0; skip))
          go_wp2
          go_ret
          exact ⟨ret_bool hT.out, hG⟩
      · have hT : Hid (true = r) := Lib.hid (by
          rw [← hrH.out]; symm; apply decide_eq_true
          rw [List.take_of_length_le (by omega), List.take_of_length_le (by omega)] at htk
          exact htk)
        clear htk
        go_wp2
        go_ret
        exact ⟨ret_bool hT.out, hbr⟩
  · have hT : Hid (false = r) := Lib.hid (by
      rw [← hrH.out]; symm; apply decide_eq_false; rintro rfl; omega)
    have hd : ((n : Int) == (m : Int)) = false := by simpa using hnm
    go_enter Tryd.func10, Tryd.ntmps10
    go_wp2
    go_ret
    exact ⟨ret_bool hT.out, Below.refl _ _⟩
theorem rdS_lit (w : World) (l : List (List UInt8)) (cs : Array Value) (h : cs = (l.map encS).flatten.toArray) : RdS (w.alloc (.cells cs 9)) (w.alloc (.cells cs 9)).heap.size (some ⟨w.heap.size, 0, none⟩) l.length l :=
  Rd.built (xs := l.map encS) encS_len h (by simp)
theorem wk_out1 : outW [[97, 47, 98], [97], [99], [97]] = [[97], [99]] := by rw [← makeR_out]; decide +kernel
theorem wk_out2 : outW [[97], [99]] = [[97], [99]] := by rw [← makeR_out]; decide +kernel
theorem wk_e1 : makeWE [[97, 47, 98], [97], [99], [97]] = 0 := by unfold makeWE; rw [wk_out1]; decide +kernel
theorem wk_m1 : makeW [[97, 47, 98], [97], [99], [97]] = [[97], [99]] := by unfold makeW; rw [wk_e1, wk_out1]; rfl
theorem wk_e2 : minusWE [[97], [99]] [97] = 0 := by unfold minusWE chkW; rw [wk_out2]; decide +kernel
theorem wk_m2 : minusW [[97], [99]] [97] = [[99]] := by unfold minusW; rw [wk_e2]; decide +kernel
theorem wk_e3 : makeWE [[97, 47]] = 3 := by
  unfold makeWE
  rw [if_pos (by decide +kernel)]
  decide +kernel
theorem wk_h1 : hasW [[97], [99]] [97, 47, 114] = true := by decide +kernel
theorem wk_h2 : hasW [[97], [99]] [97, 98, 47, 114] = false := by decide +kernel
theorem wk_h3 : hasW [[]] [120] = true := by decide +kernel
theorem wk_h4 : hasW [] [120] = false := by decide +kernel
theorem wk_v1 : coversW [[97], [99]] [[97, 47, 120]] = true := by decide +kernel
theorem wk_v2 : coversW [[97], [99]] [[]] = false := by decide +kernel
theorem short_lit {l : List (List UInt8)} (h : l.all (fun x => decide (x.length ≤ 1000)) = true) : shortS l := fun x hx => by simpa using List.all_eq_true.1 h x hx
set_option maxRecDepth 100000 in
set_option maxHeartbeats 4000000 in
theorem worksW_any (w : World) (hv : VarM w) :
    Calls Tryd.prog 17 #[] w fun e w' => e = .returned (.bool true) ∧ Below w.heap.size w w' := by
  have c1 := Lib.hid (fun w' (h : Below w.heap.size w w') => tmake_any (some ⟨w'.heap.size, 0, none⟩) 4 4 [[97, 47, 98], [97], [99], [97]] (w'.alloc (.cells #[.string ⟨#[97, 47, 98]⟩, .string ⟨#[97]⟩, .string ⟨#[99]⟩, .string ⟨#[97]⟩] 9)) (rdS_lit _ [[97, 47, 98], [97], [99], [97]] _ rfl) (by decide) (short_lit (by decide)) (hv.below (h.alloc h.size _) hv.lt))
  have c2 := Lib.hid (fun A n c w' (h : Below w.heap.size w w') (h1 : RdS w' w'.heap.size A n [[97], [99]]) (h2 : n ≤ 10000) => show Calls Tryd.prog 18 #[.slice A n c, .string ⟨#[97]⟩] w' (fun e w'' => ∃ A' n' c', e = .returned (.tuple #[.slice A' n' c', .int .i64 (minusWE [[97], [99]] [97])]) ∧ GotS w'' A' n' (minusW [[97], [99]] [97]) ∧ Below w'.heap.size w' w'') from tminus_any A n c [[97], [99]] [97] w' h1 h2 (short_lit (by decide)) (by decide) (hv.below h hv.lt))
  have c3 := Lib.hid (fun w' (h : Below w.heap.size w w') => tmake_any (some ⟨w'.heap.size, 0, none⟩) 1 1 [[97, 47]] (w'.alloc (.cells #[.string ⟨#[97, 47]⟩] 9)) (rdS_lit _ [[97, 47]] _ rfl) (by decide) (short_lit (by decide)) (hv.below (h.alloc h.size _) hv.lt))
  rw [wk_e1, wk_m1] at c1
  rw [wk_e2, wk_m2] at c2
  rw [wk_e3] at c3
  have cS1 := Lib.hid (fun A c w' (h1 : RdS w' w'.heap.size A 2 [[97], [99]]) => show Calls Tryd.prog 10 #[.slice A 2 c, .slice (some ⟨w'.heap.size, 0, none⟩) 2 2] (w'.alloc (.cells #[.string ⟨#[97]⟩, .string ⟨#[99]⟩] 9)) (fun e w'' => e = .returned (.bool true) ∧ Below (w'.alloc (.cells #[.string ⟨#[97]⟩, .string ⟨#[99]⟩] 9)).heap.size (w'.alloc (.cells #[.string ⟨#[97]⟩, .string ⟨#[99]⟩] 9)) w'') from by
    have hb : Below w'.heap.size w' (w'.alloc (.cells #[.string ⟨#[97]⟩, .string ⟨#[99]⟩] 9)) := (Below.refl _ _).alloc (Nat.le_refl _) _
    have h := sameW_any A (some ⟨w'.heap.size, 0, none⟩) 2 2 c 2 [[97], [99]] [[97], [99]] _ ((h1.below hb).more hb.size) (rdS_lit w' [[97], [99]] _ rfl) (by decide) (by decide)
    rw [decide_eq_true rfl] at h
    exact h)
  have cS2 := Lib.hid (fun A c w' (h1 : RdS w' w'.heap.size A 1 [[99]]) => show Calls Tryd.prog 10 #[.slice A 1 c, .slice (some ⟨w'.heap.size, 0, none⟩) 1 1] (w'.alloc (.cells #[.string ⟨#[99]⟩] 9)) (fun e w'' => e = .returned (.bool true) ∧ Below (w'.alloc (.cells #[.string ⟨#[99]⟩] 9)).heap.size (w'.alloc (.cells #[.string ⟨#[99]⟩] 9)) w'') from by
    have hb : Below w'.heap.size w' (w'.alloc (.cells #[.string ⟨#[99]⟩] 9)) := (Below.refl _ _).alloc (Nat.le_refl _) _
    have h := sameW_any A (some ⟨w'.heap.size, 0, none⟩) 1 1 c 1 [[99]] [[99]] _ ((h1.below hb).more hb.size) (rdS_lit w' [[99]] _ rfl) (by decide) (by decide)
    rw [decide_eq_true rfl] at h
    exact h)
  have cH1 := Lib.hid (fun A c w' (h1 : RdS w' w'.heap.size A 2 [[97], [99]]) => show Calls Tryd.prog 13 #[.slice A 2 c, .string ⟨#[97, 47, 114]⟩] w' (fun e w'' => e = .returned (.bool true) ∧ Below w'.heap.size w' w'') from by
    have h9 := thas_any A 2 c [[97], [99]] [97, 47, 114] w' h1 (by decide) (short_lit (by decide)).mid (by decide)
    rw [wk_h1] at h9
    exact h9)
  have cH2 := Lib.hid (fun A c w' (h1 : RdS w' w'.heap.size A 2 [[97], [99]]) => show Calls Tryd.prog 13 #[.slice A 2 c, .string ⟨#[97, 98, 47, 114]⟩] w' (fun e w'' => e = .returned (.bool false) ∧ Below w'.heap.size w' w'') from by
    have h9 := thas_any A 2 c [[97], [99]] [97, 98, 47, 114] w' h1 (by decide) (short_lit (by decide)).mid (by decide)
    rw [wk_h2] at h9
    exact h9)
  have cH3 := Lib.hid (fun (w' : World) => show Calls Tryd.prog 13 #[.slice (some ⟨w'.heap.size, 0, none⟩) 1 1, .string ⟨#[120]⟩] (w'.alloc (.cells #[.string ⟨#[]⟩] 9)) (fun e w'' => e = .returned (.bool true) ∧ Below (w'.alloc (.cells #[.string ⟨#[]⟩] 9)).heap.size (w'.alloc (.cells #[.string ⟨#[]⟩] 9)) w'') from by
    have h9 := thas_any _ 1 1 [[]] [120] _ (rdS_lit w' [[]] _ rfl) (by decide) (short_lit (by decide)).mid (by decide)
    rw [wk_h3] at h9
    exact h9)
  have cH4 := Lib.hid (fun (w' : World) => show Calls Tryd.prog 13 #[.slice none 0 0, .string ⟨#[120]⟩] w' (fun e w'' => e = .returned (.bool false) ∧ Below w'.heap.size w' w'') from by
    have h9 := thas_any none 0 0 [] [120] w' Rd.nil_ (by decide) (short_lit (by decide)).mid (by decide)
    rw [wk_h4] at h9
    exact h9)
  have cC1 := Lib.hid (fun A c w' (h1 : RdS w' w'.heap.size A 2 [[97], [99]]) => show Calls Tryd.prog 15 #[.slice A 2 c, .slice (some ⟨w'.heap.size, 0, none⟩) 1 1] (w'.alloc (.cells #[.string ⟨#[97, 47, 120]⟩] 9)) (fun e w'' => e = .returned (.bool true) ∧ Below (w'.alloc (.cells #[.string ⟨#[97, 47, 120]⟩] 9)).heap.size (w'.alloc (.cells #[.string ⟨#[97, 47, 120]⟩] 9)) w'') from by
    have h9 := tcovers_any A 2 c [[97], [99]] _ 1 1 [[97, 47, 120]] _ ((h1.below ((Below.refl _ _).alloc (Nat.le_refl _) _)).more (by simp)) (rdS_lit w' [[97, 47, 120]] _ rfl) (by decide) (by decide) (short_lit (by decide)).mid (short_lit (by decide)).max
    rw [wk_v1] at h9
    exact h9)
  have cC2 := Lib.hid (fun A c w' (h1 : RdS w' w'.heap.size A 2 [[97], [99]]) => show Calls Tryd.prog 15 #[.slice A 2 c, .slice (some ⟨w'.heap.size, 0, none⟩) 1 1] (w'.alloc (.cells #[.string ⟨#[]⟩] 9)) (fun e w'' => e = .returned (.bool false) ∧ Below (w'.alloc (.cells #[.string ⟨#[]⟩] 9)).heap.size (w'.alloc (.cells #[.string ⟨#[]⟩] 9)) w'') from by
    have h9 := tcovers_any A 2 c [[97], [99]] _ 1 1 [[]] _ ((h1.below ((Below.refl _ _).alloc (Nat.le_refl _) _)).more (by simp)) (rdS_lit w' [[]] _ rfl) (by decide) (by decide) (short_lit (by decide)).mid (short_lit (by decide)).max
    rw [wk_v2] at h9
    exact h9)
  clear hv
  go_enter Tryd.func17, Tryd.ntmps17
  go_wp2_with fail
  refine (c1.out w (Below.refl _ _)).mono ?_
  rintro e w1 ⟨A1, n1, d1, rfl, g1, hv1⟩
  obtain rfl : n1 = 2 := by simpa using g1.1.len.symm
  have hb1 : Below w.heap.size w w1 := ((Below.refl _ w).alloc (Nat.le_refl _) _).trans (hv1.mono (by simp))
  have hz1 := hb1.size
  have r1 := Lib.hid g1.1
  clear hv1 c1 g1
  go_wp2_with fail
  refine (c2.out A1 2 d1 w1 hb1 r1.out (by decide)).mono ?_
  rintro e w2 ⟨A2, n2, d2, rfl, g2, hv2⟩
  obtain rfl : n2 = 1 := by simpa using g2.1.len.symm
  have hb2 := hb1.trans (hv2.mono hz1)
  have hz2 := hb2.size
  have r2 := Lib.hid ((r1.out.below hv2).more hv2.size)
  have q2 := Lib.hid g2.1
  clear hv2 c2 g2 r1
  go_wp2_with fail
  refine (c3.out w2 hb2).mono ?_
  rintro e w3 ⟨A3, n3, d3, rfl, g3, hv3⟩
  have hk3 : Below w2.heap.size w2 w3 := ((Below.refl _ w2).alloc (Nat.le_refl _) _).trans (hv3.mono (by simp))
  have hb3 := hb2.trans (hk3.mono hz2)
  have r3 := Lib.hid ((r2.out.below hk3).more hk3.size)
  have q3 := Lib.hid ((q2.out.below hk3).more hk3.size)
  clear hv3 c3 g3 r2 q2 hk3
  go_wp2_with fail
  refine (cS1.out A1 d1 w3 r3.out).mono ?_
  rintro e w4 ⟨rfl, hv4⟩
  have hk4 : Below w3.heap.size w3 w4 := ((Below.refl _ w3).alloc (Nat.le_refl _) _).trans (hv4.mono (by simp))
  have hb4 := hb3.trans (hk4.mono hb3.size)
  have r4 := Lib.hid ((r3.out.below hk4).more hk4.size)
  have q4 := Lib.hid ((q3.out.below hk4).more hk4.size)
  clear hv4 cS1 r3 q3 hk4
  go_wp2_with fail
  refine (cH1.out A1 d1 w4 r4.out).mono ?_
  rintro e w5 ⟨rfl, hk5⟩
  have hb5 := hb4.trans (hk5.mono hb4.size)
  have r5 := Lib.hid ((r4.out.below hk5).more hk5.size)
  have q5 := Lib.hid ((q4.out.below hk5).more hk5.size)
  clear cH1 r4 q4 hk5
  go_wp2_with fail
  refine (cH2.out A1 d1 w5 r5.out).mono ?_
  rintro e w6 ⟨rfl, hk6⟩
  have hb6 := hb5.trans (hk6.mono hb5.size)
  have r6 := Lib.hid ((r5.out.below hk6).more hk6.size)
  have q6 := Lib.hid ((q5.out.below hk6).more hk6.size)
  clear cH2 r5 q5 hk6
  go_wp2_with fail
  refine (cH3.out w6).mono ?_
  rintro e w7 ⟨rfl, hv7⟩
  have hk7 : Below w6.heap.size w6 w7 := ((Below.refl _ w6).alloc (Nat.le_refl _) _).trans (hv7.mono (by simp))
  have hb7 := hb6.trans (hk7.mono hb6.size)
  have r7 := Lib.hid ((r6.out.below hk7).more hk7.size)
  have q7 := Lib.hid ((q6.out.below hk7).more hk7.size)
  clear cH3 r6 q6 hk7 hv7
  go_wp2_with fail
  refine (cH4.out w7).mono ?_
  rintro e w8 ⟨rfl, hk8⟩
  have hb8 := hb7.trans (hk8.mono hb7.size)
  have r8 := Lib.hid ((r7.out.below hk8).more hk8.size)
  have q8 := Lib.hid ((q7.out.below hk8).more hk8.size)
  clear cH4 r7 q7 hk8
  go_wp2_with fail
  refine (cS2.out A2 d2 w8 q8.out).mono ?_
  rintro e w9 ⟨rfl, hv9⟩
  have hk9 : Below w8.heap.size w8 w9 := ((Below.refl _ w8).alloc (Nat.le_refl _) _).trans (hv9.mono (by simp))
  have hb9 := hb8.trans (hk9.mono hb8.size)
  have r9 := Lib.hid ((r8.out.below hk9).more hk9.size)
  clear cS2 r8 q8 hk9 hv9
  go_wp2_with fail
  refine (cC1.out A1 d1 w9 r9.out).mono ?_
  rintro e w10 ⟨rfl, hv10⟩
  have hk10 : Below w9.heap.size w9 w10 := ((Below.refl _ w9).alloc (Nat.le_refl _) _).trans (hv10.mono (by simp))
  have hb10 := hb9.trans (hk10.mono hb9.size)
  have r10 := Lib.hid ((r9.out.below hk10).more hk10.size)
  clear cC1 r9 hk10 hv10
  go_wp2_with fail
  refine (cC2.out A1 d1 w10 r10.out).mono ?_
  rintro e w11 ⟨rfl, hv11⟩
  have hk11 : Below w10.heap.size w10 w11 := ((Below.refl _ w10).alloc (Nat.le_refl _) _).trans (hv11.mono (by simp))
  have hb11 := hb10.trans (hk11.mono hb10.size)
  clear cC2 r10 hk11 hv11
  go_wp2
  go_ret
  exact ⟨rfl, hb11⟩
end Go.Proofs.YtdoojgehlnpcnaaDoor
