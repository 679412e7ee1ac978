/- inst, small functions: numbers of members, places, ballots; equal lists of numbers. -/
import Derived.Test.YtfhandglpjnonaaGreatDoorN10
set_option maxRecDepth 100000
set_option maxHeartbeats 16000000
namespace Go.Proofs.YtfhandglpjnonaaGreatDoor
open Go.RowKit
def eZ (x : Int) : List Value := [.int .i64 x]
theorem eZ_len {xs : List Int} : ∀ x ∈ xs.map eZ, x.length = 1 := by intro x hx; obtain ⟨t, _, rfl⟩ := List.mem_map.1 hx; rfl
theorem eZ_one {xs : List Int} : ∀ x ∈ xs.map eZ, ∀ u ∈ x, u.oneCell' = true := by
 intro x hx u hu; obtain ⟨t, _, rfl⟩ := List.mem_map.1 hx
 obtain rfl := List.mem_singleton.1 hu; rfl
theorem jR {a b : Int} (h : a = b) : Ending.returned (.int .i64 a) = .returned (.int .i64 b) := by rw [h]
theorem jQ {a b : Bool} (h : a = b) : Ending.returned (.bool a) = .returned (.bool b) := by rw [h]
theorem sameZ_any (A B : Option Addr) (n m c d : Nat) (xs ys : List Int) (w : World) (hA : Rd w w.heap.size 1 A n (xs.map eZ)) (hB : Rd w w.heap.size 1 B m (ys.map eZ)) (hn : n ≤ maxLen) (hm : m ≤ maxLen) :
 Calls Tryz.prog 48 #[.slice A n c, .slice B m d] w fun e w' => e = .returned (.bool (decide (xs = ys))) ∧ Below w.heap.size w w' := by
 have hl : xs.length = n := by simpa using hA.1
 have hl2 : ys.length = m := by simpa using hB.1
 unfold maxLen at hn hm
 generalize hr : decide (xs = ys) = r
 have hrH := jH hr
 clear hr
 by_cases hnm : (n : Int) = (m : Int)
 ·
  obtain rfl : n = m := by omega
  clear hnm
  go_enter Tryz.func48, Tryz.ntmps48
  go_wp2
  go_loopg [5] (n + 1) (fun g i wr => ∃ k : Nat, k ≤ n ∧ g = n + 1 - k ∧ i = .int .i64 (k : Int) ∧ xs.take k = ys.take k ∧ Below w.heap.size w wr)
  case atStart => exact ⟨0, Nat.zero_le _, rfl, rfl, rfl, Below.refl _ _⟩
  case round =>
   obtain ⟨k, hk, rfl, rfl, htk, hbr⟩ := hrel
   have hz := hbr.size
   by_cases hlt : k < n
   ·
    have hkn1 : IntKind.i64.wrap ((k : Int) + 1) = ((k + 1 : Nat) : Int) := by rw [IntWalk.i64_in _ (by omega)]; omega
    obtain ⟨bA, oA, x, rfl, hbA, hp, hcp⟩ := Rd.at_ (enc := eZ) (hA.below hbr) hlt
    obtain ⟨bB, oB, y, rfl, hbB, hq, hcq⟩ := Rd.at_ (enc := eZ) (hB.below hbr) hlt
    have hlti : (k : Int) < (n : Int) := by omega
    have p0 := hcp 0 _ rfl
    have q0 := hcq 0 _ rfl
    rw [Nat.mul_one, Nat.add_zero] at p0 q0
    have hbA2 : bA < wr.heap.size := by omega
    have hbB2 : bB < wr.heap.size := by omega
    have htkH := jH htk
    have hpH := jH hp
    have hqH := jH hq
    clear htk hp hq hcp hcq
    have hG : Below w.heap.size w wr.drew := hbr.drew
    by_cases he : x = y
    ·
     subst he
     have hT : Hid (xs.take (k + 1) = ys.take (k + 1)) := jH (by rw [List.take_add_one, List.take_add_one, htkH.out, hpH.out, hqH.out])
     go_wp2
     go_region
     go_wp2
     go_roundg (n + 1 - (k + 1))
     case measure => omega
     case rel => exact ⟨k + 1, by omega, rfl, by go_num, hT.out, hG⟩
    ·
     have hT : Hid (false = r) := jH (by
      rw [← hrH.out]; symm; apply decide_eq_false; intro e; subst e
      have := hpH.out.symm.trans hqH.out
      injection this with this; exact he this)
     have hsn : (x == y) = false := by rw [beq_eq_false_iff_ne]; exact he
     clear he
     go_wp2
     go_region
     go_wp2
     go_ret
     exact ⟨jQ hT.out, hG⟩
   ·
    have hnlt : ¬ (k : Int) < (n : Int) := by omega
    have hT : Hid (true = r) := jH (by
     rw [← hrH.out]; symm; apply decide_eq_true
     rw [List.take_of_length_le (by omega), List.take_of_length_le (by omega)] at htk
     exact htk)
    clear htk
    go_wp2
    go_ret
    exact ⟨jQ hT.out, hbr⟩
 ·
  have hT : Hid (false = r) := jH (by
   rw [← hrH.out]; symm; apply decide_eq_false; rintro rfl; omega)
  have hd : ((n : Int) == (m : Int)) = false := by simpa using hnm
  go_enter Tryz.func48, Tryz.ntmps48
  go_wp2
  go_ret
  exact ⟨jQ hT.out, Below.refl _ _⟩
theorem equalZ_any (A B : Option Addr) (n m c d : Nat) (xs ys : List Int) (w : World) (hA : Rd w w.heap.size 1 A n (xs.map eZ)) (hB : Rd w w.heap.size 1 B m (ys.map eZ)) (hn : n ≤ maxLen) (hm : m ≤ maxLen) :
 Calls Tryz.prog 45 #[.slice A n c, .slice B m d] w fun e w' => e = .returned (.bool (decide (xs = ys))) ∧ Below w.heap.size w w' := by
 have hl : xs.length = n := by simpa using hA.1
 have hl2 : ys.length = m := by simpa using hB.1
 unfold maxLen at hn hm
 generalize hr : decide (xs = ys) = r
 have hrH := jH hr
 clear hr
 by_cases hnm : (n : Int) = (m : Int)
 ·
  obtain rfl : n = m := by omega
  clear hnm
  go_enter Tryz.func45, Tryz.ntmps45
  go_wp2
  go_loopg [13] (n + 1) (fun g i wr => ∃ k : Nat, k ≤ n ∧ g = n + 1 - k ∧ i = .int .i64 (k : Int) ∧ xs.take k = ys.take k ∧ Below w.heap.size w wr)
  case atStart => exact ⟨0, Nat.zero_le _, rfl, rfl, rfl, Below.refl _ _⟩
  case round =>
   obtain ⟨k, hk, rfl, rfl, htk, hbr⟩ := hrel
   have hz := hbr.size
   by_cases hlt : k < n
   ·
    have hkn1 : IntKind.i64.wrap ((k : Int) + 1) = ((k + 1 : Nat) : Int) := by rw [IntWalk.i64_in _ (by omega)]; omega
    obtain ⟨bA, oA, x, rfl, hbA, hp, hcp⟩ := Rd.at_ (enc := eZ) (hA.below hbr) hlt
    obtain ⟨bB, oB, y, rfl, hbB, hq, hcq⟩ := Rd.at_ (enc := eZ) (hB.below hbr) hlt
    have hlti : (k : Int) < (n : Int) := by omega
    have p0 := hcp 0 _ rfl
    have q0 := hcq 0 _ rfl
    rw [Nat.mul_one, Nat.add_zero] at p0 q0
    have hbA2 : bA < wr.heap.size := by omega
    have hbB2 : bB < wr.heap.size := by omega
    have htkH := jH htk
    have hpH := jH hp
    have hqH := jH hq
    clear htk hp hq hcp hcq
    have hG : Below w.heap.size w wr.drew := hbr.drew
    by_cases he : x = y
    ·
     subst he
     have hT : Hid (xs.take (k + 1) = ys.take (k + 1)) := jH (by rw [List.take_add_one, List.take_add_one, htkH.out, hpH.out, hqH.out])
     go_wp2
     go_region
     go_wp2
     go_roundg (n + 1 - (k + 1))
     case measure => omega
     case rel => exact ⟨k + 1, by omega, rfl, by go_num, hT.out, hG⟩
    ·
     have hT : Hid (false = r) := jH (by
      rw [← hrH.out]; symm; apply decide_eq_false; intro e; subst e
      have := hpH.out.symm.trans hqH.out
      injection this with this; exact he this)
     have hsn : (x == y) = false := by rw [beq_eq_false_iff_ne]; exact he
     clear he
     go_wp2
     go_region
     go_wp2
     go_ret
     exact ⟨jQ hT.out, hG⟩
   ·
    have hnlt : ¬ (k : Int) < (n : Int) := by omega
    have hT : Hid (true = r) := jH (by
     rw [← hrH.out]; symm; apply decide_eq_true
     rw [List.take_of_length_le (by omega), List.take_of_length_le (by omega)] at htk
     exact htk)
    clear htk
    go_wp2
    go_ret
    exact ⟨jQ hT.out, hbr⟩
 ·
  have hT : Hid (false = r) := jH (by
   rw [← hrH.out]; symm; apply decide_eq_false; rintro rfl; omega)
  have hd : ((n : Int) == (m : Int)) = false := by simpa using hnm
  go_enter Tryz.func45, Tryz.ntmps45
  go_wp2
  go_ret
  exact ⟨jQ hT.out, Below.refl _ _⟩
def membP (n : Int) : Bool := decide (0 ≤ n) && decide (n ≤ 7)
theorem member_any (n : Int) (w : World) : Calls Tryz.prog 26 #[.int .i64 n] w fun e w' => e = .returned (.bool (membP n)) ∧ Below w.heap.size w w' := by
 unfold membP
 cases h : decide (0 ≤ n)
 ·
  go_enter Tryz.func26, Tryz.ntmps26
  go_wp2
  go_ret
  exact ⟨rfl, Below.refl _ _⟩
 ·
  go_enter Tryz.func26, Tryz.ntmps26
  go_wp2
  go_ret
  exact ⟨jQ (by simp), Below.refl _ _⟩
def snapE (n : Int) : Int := if n < 0 then 2 else if 1048576 < n then 2 else 0
theorem chksnap_any (n : Int) (w : World) : Calls Tryz.prog 84 #[.int .i64 n] w fun e w' => e = .returned (.int .i64 (snapE n)) ∧ Below w.heap.size w w' := by
 generalize hR : snapE n = R
 unfold snapE at hR
 have hRH := jH hR
 clear hR
 by_cases h : n < 0
 ·
  have hd : decide (n < 0) = true := decide_eq_true h
  have hT : Hid ((2 : Int) = R) := jH (by rw [← hRH.out, if_pos h])
  go_enter Tryz.func84, Tryz.ntmps84
  go_wp2
  go_ret
  exact ⟨jR hT.out, Below.refl _ _⟩
 have hd : decide (n < 0) = false := decide_eq_false h
 by_cases h2 : 1048576 < n
 ·
  have hd2 : decide ((1048576 : Int) < n) = true := decide_eq_true h2
  have hT : Hid ((2 : Int) = R) := jH (by rw [← hRH.out, if_neg h, if_pos h2])
  go_enter Tryz.func84, Tryz.ntmps84
  go_wp2
  go_ret
  exact ⟨jR hT.out, Below.refl _ _⟩
 ·
  have hd2 : decide ((1048576 : Int) < n) = false := decide_eq_false h2
  have hT : Hid ((0 : Int) = R) := jH (by rw [← hRH.out, if_neg h, if_neg h2])
  go_enter Tryz.func84, Tryz.ntmps84
  go_wp2
  go_ret
  exact ⟨jR hT.out, Below.refl _ _⟩
def balE (a b : Int) : Int := if 1048576 < a then 2 else if b < 0 then 2 else if 7 < b then 2 else if a = 0 ∧ b ≠ 0 then 2 else 0
theorem bfirst_any (a b : Int) (w : World) : Calls Tryz.prog 114 #[.agg #[.int .u32 a, .int .i64 b]] w fun e w' => e = .returned (.bool (a == 0)) ∧ Below w.heap.size w w' := by
 have hb : Below w.heap.size w (w.alloc (.cells #[.int .u32 a, .int .i64 b] 42)) := (Below.refl _ w).alloc (Nat.le_refl _) _
 go_enter Tryz.func114, Tryz.ntmps114
 go_wp2
 go_ret
 exact ⟨rfl, hb⟩
theorem bchk_any (a b : Int) (w : World) : Calls Tryz.prog 81 #[.agg #[.int .u32 a, .int .i64 b]] w fun e w' => e = .returned (.int .i64 (balE a b)) ∧ Below w.heap.size w w' := by
 generalize hR : balE a b = R
 unfold balE at hR
 have hRH := jH hR
 clear hR
 have hb : Below w.heap.size w (w.alloc (.cells #[.int .u32 a, .int .i64 b] 42)) := (Below.refl _ w).alloc (Nat.le_refl _) _
 have hh : (w.alloc (.cells #[.int .u32 a, .int .i64 b] 42)).heap[w.heap.size]? = some (.cells #[.int .u32 a, .int .i64 b] 42 (0, 0)) := jT _ _ rfl
 have cF := jH (bfirst_any a b (w.alloc (.cells #[.int .u32 a, .int .i64 b] 42)))
 by_cases h1 : 1048576 < a
 ·
  have hd1 : decide ((1048576 : Int) < a) = true := decide_eq_true h1
  have hT : Hid ((2 : Int) = R) := jH (by rw [← hRH.out, if_pos h1])
  go_enter Tryz.func81, Tryz.ntmps81
  go_wp2
  go_ret
  exact ⟨jR hT.out, hb⟩
 have hd1 : decide ((1048576 : Int) < a) = false := decide_eq_false h1
 by_cases h2 : b < 0
 ·
  have hd2 : decide (b < 0) = true := decide_eq_true h2
  have hT : Hid ((2 : Int) = R) := jH (by rw [← hRH.out, if_neg h1, if_pos h2])
  go_enter Tryz.func81, Tryz.ntmps81
  go_wp2
  go_ret
  exact ⟨jR hT.out, hb⟩
 have hd2 : decide (b < 0) = false := decide_eq_false h2
 by_cases h3 : 7 < b
 ·
  have hd3 : decide ((7 : Int) < b) = true := decide_eq_true h3
  have hT : Hid ((2 : Int) = R) := jH (by rw [← hRH.out, if_neg h1, if_neg h2, if_pos h3])
  go_enter Tryz.func81, Tryz.ntmps81
  go_wp2
  go_ret
  exact ⟨jR hT.out, hb⟩
 have hd3 : decide ((7 : Int) < b) = false := decide_eq_false h3
 by_cases h4 : a = 0
 case neg =>
  have hd4 : (a == 0) = false := by simpa using h4
  have hT : Hid ((0 : Int) = R) := jH (by rw [← hRH.out, if_neg h1, if_neg h2, if_neg h3, if_neg (fun e => h4 e.1)])
  go_enter Tryz.func81, Tryz.ntmps81
  go_wp2_with fail
  refine cF.out.mono ?_
  rintro e w1 ⟨rfl, hb1⟩
  have hG := hb.trans (hb1.mono hb.size)
  go_wp2
  go_ret
  exact ⟨jR hT.out, hG⟩
 subst h4
 have hd4 : ((0 : Int) == 0) = true := by decide
 rw [hd4] at cF
 by_cases h5 : b = 0
 ·
  have hT : Hid ((0 : Int) = R) := jH (by rw [← hRH.out, if_neg h1, if_neg h2, if_neg h3, if_neg (fun e => e.2 h5)])
  have hd5 : decide (0 < b) = false := decide_eq_false (by omega)
  have hi5 : ¬ 0 < b := by omega
  replace h5 := jH h5
  go_enter Tryz.func81, Tryz.ntmps81
  go_wp2_with fail
  refine cF.out.mono ?_
  rintro e w1 ⟨rfl, hb1⟩
  have hG := hb.trans (hb1.mono hb.size)
  have hh1 := jD hh hb1
  have z0 := jA hh1 0
  have z1 := jA hh1 1
  simp at z0 z1
  have hlz := jB hh1
  go_wp2
  go_ret
  exact ⟨jR hT.out, hG⟩
 ·
  have hT : Hid ((2 : Int) = R) := jH (by rw [← hRH.out, if_neg h1, if_neg h2, if_neg h3, if_pos ⟨rfl, h5⟩])
  have hd5 : decide (0 < b) = true := decide_eq_true (by omega)
  have hi5 : 0 < b := by omega
  go_enter Tryz.func81, Tryz.ntmps81
  go_wp2_with fail
  refine cF.out.mono ?_
  rintro e w1 ⟨rfl, hb1⟩
  have hG := hb.trans (hb1.mono hb.size)
  have hh1 := jD hh hb1
  have z0 := jA hh1 0
  have z1 := jA hh1 1
  simp at z0 z1
  have hlz := jB hh1
  go_wp2
  go_ret
  exact ⟨jR hT.out, hG⟩
end Go.Proofs.YtfhandglpjnonaaGreatDoor
