/- The document's Check of a list of who each comes behind. -/
import Derived.Test.YtebpghpeeedgcaaKp
namespace Go.Proofs.Ytebpghpeeedgcaa
open Go.RowKit

theorem ret_boolN {a b : Bool} (h : a = b) : Ending.returned (.bool a) = .returned (.bool b) := by rw [h]
theorem sumL_at {rs : List Rw} {r : Rw} (h : r ∈ rs) : r.l ≤ sumL rs := by
  unfold sumL
  obtain ⟨k, hk⟩ := List.mem_iff_getElem?.1 h
  have h1 := sumL_take rs hk
  have h2 := sumL_le rs (k + 1)
  unfold sumL at h1 h2
  omega
set_option maxRecDepth 100000 in
theorem rlong_any (A : Option Addr) (n c : Nat) (rs : List Rw) (w : World) (hA : RdG w w.heap.size A n rs) (hn : n ≤ maxLen) (hm : ∀ r ∈ rs, r.l ≤ 100000000) :
    Calls Try.prog 25 #[.slice A n c] w fun e w' => e = .returned (.bool (longP n rs)) ∧ Below w.heap.size w w' := by
  unfold maxLen at hn
  have hl := hA.len
  have hmH := Lib.hid hm
  have hAH := Lib.hid hA
  obtain ⟨R, hR⟩ : ∃ R, longP n rs = R := ⟨_, rfl⟩
  rw [hR]
  replace hR := Lib.hid hR
  clear hm hA
  go_enter Try.func25, Try.ntmps25
  go_wp2
  go_loopg [3, 4] (n + 1) (fun g q i wr => ∃ (k : Nat) (z : Int), k ≤ n ∧ g = n + 1 - k ∧ i = .int .i64 k ∧ q = .int .i64 z ∧ z = (sumL (rs.take k) : Int) ∧ z ≤ 65536 ∧ Below w.heap.size w wr)
  case atStart => exact ⟨0, 0, Nat.zero_le _, rfl, rfl, rfl, by simp [sumL], by omega, Below.refl _ _⟩
  case round =>
    obtain ⟨k, z, hk, rfl, rfl, rfl, hz, hz2, hbr⟩ := hrel
    by_cases hlt : k < n
    · have hlti : (k : Int) < (n : Int) := by omega
      obtain ⟨bA, oA, r, rfl, hbA, hq, hcp, _⟩ := (hAH.out.below hbr).at_ hlt
      have hm := hmH.out r (List.mem_of_getElem? hq)
      have hs := sumL_take rs hq
      have hle := sumL_le rs (k + 1)
      have hw : IntKind.i64.wrap (z + (r.l : Int)) = z + (r.l : Int) := IntWalk.i64_in _ (by omega)
      have hz0 : 0 ≤ z := by omega
      have hTT : 65536 < z + (r.l : Int) → Hid (true = R) := fun hg => Lib.hid (by
        rw [← hR.out]; unfold longP
        rw [decide_eq_true (show 65536 < sumL rs by omega), Bool.or_true])
      by_cases hg0 : 65536 < r.l
      · have hg0i : (65536 : Int) < (r.l : Int) := by omega
        have hT := hTT (by omega)
        clear hs hz hTT hle
        go_wp2
        go_ret
        exact ⟨ret_boolN hT.out, hbr⟩
      have hg0i : ¬ (65536 : Int) < (r.l : Int) := by omega
      by_cases hg : 65536 < z + (r.l : Int)
      · have hT := hTT hg
        clear hs hz hle hTT
        go_wp2
        go_ret
        exact ⟨ret_boolN hT.out, hbr⟩
      · have hT : Hid (z + (r.l : Int) = (sumL (rs.take (k + 1)) : Int)) := Lib.hid (by omega)
        clear hs hz hTT hle
        go_wp2
        go_roundg (n + 1 - (k + 1))
        case measure => omega
        case rel => exact ⟨k + 1, _, by omega, rfl, by go_num, rfl, hT.out, by omega, hbr⟩
    · have hnlt : ¬ (k : Int) < (n : Int) := by omega
      have hs : sumL rs ≤ 65536 := by rw [List.take_of_length_le (by omega)] at hz; omega
      have hT : Hid (decide ((1024 : Int) < (n : Int)) = R) := Lib.hid (by
        rw [← hR.out]; unfold longP
        rw [decide_eq_false (show ¬ 65536 < sumL rs by omega), Bool.or_false, Bool.eq_iff_iff, decide_eq_true_iff, decide_eq_true_iff]
        omega)
      clear hz hs
      go_wp2
      go_ret
      exact ⟨ret_boolN hT.out, hbr⟩
set_option maxRecDepth 100000 in
set_option maxHeartbeats 1000000 in
theorem rscheck_any (A : Option Addr) (n c : Nat) (rs : List Rw) (w : World) (hA : RdG w w.heap.size A n rs) (hn : n ≤ maxLen) (hm : ∀ r ∈ rs, r.l ≤ 1000000) :
    Calls Try.prog 11 #[.slice A n c] w fun e w' => e = .returned (.int .i64 (checkS n rs)) ∧ Below w.heap.size w w' := by
  have hl := Lib.hid hA.len
  have hAH := Lib.hid hA
  have hmH := Lib.hid hm
  have cL := Lib.hid (rlong_any A n c rs w hA hn (fun r hr => Nat.le_trans (hm r hr) (by decide)))
  unfold checkS
  clear hA hm
  cases hL : longP n rs with
  | true =>
    rw [hL] at cL
    rw [if_pos rfl]
    clear hL
    go_enter Try.func11, Try.ntmps11
    go_wp2_with fail
    refine cL.out.mono ?_
    rintro e w1 ⟨rfl, hb1⟩
    go_wp2
    go_ret
    exact ⟨rfl, hb1⟩
  | false =>
  rw [hL] at cL
  rw [if_neg (by decide)]
  have hn1 : n ≤ 1024 := by
    unfold longP at hL
    rw [Bool.or_eq_false_iff, decide_eq_false_iff_not] at hL
    omega
  obtain ⟨R, hR⟩ : ∃ R : Int, (if okX n rs = true then 0 else 2) = R := ⟨_, rfl⟩
  rw [hR]
  replace hR := Lib.hid hR
  clear hL hn
  go_enter Try.func11, Try.ntmps11
  go_wp2_with fail
  refine cL.out.mono ?_
  rintro e w1 ⟨rfl, hb1⟩
  have hb1H := Lib.hid hb1
  clear hb1 cL
  go_wp2_with fail
  go_loopg [3] (n + 1) (fun g i wr => ∃ k : Nat, k ≤ n ∧ g = n + 1 - k ∧ i = .int .i64 k ∧ (∀ r ∈ rs.take k, (r.xs.all fun x => inR n x) = true) ∧ Below w.heap.size w wr)
  case atStart => exact ⟨0, Nat.zero_le _, rfl, rfl, by simp, hb1H.out⟩
  case round =>
    obtain ⟨k, hk, rfl, rfl, hno, hbr⟩ := hrel
    obtain ⟨wv, hwv⟩ : ∃ wv, wv = wr := ⟨_, rfl⟩
    obtain rfl := hwv
    have hnoH := Lib.hid hno
    clear hno
    by_cases hlt : k < n
    · have hlti : (k : Int) < (n : Int) := by omega
      obtain ⟨bA, oA, r, hAe, hbA, hq, hcp, hrk⟩ := (hAH.out.below hbr).at_ hlt
      subst hAe
      have hm := hmH.out r (List.mem_of_getElem? hq)
      have hqH := Lib.hid hq
      have hrl := Lib.hid hrk.len
      have hrkH := Lib.hid hrk
      clear hq hrk
      go_wp2_with fail
      go_loopg [4] (r.l + 1) (fun g j wx => ∃ m : Nat, m ≤ r.l ∧ g = r.l + 1 - m ∧ j = .int .i64 m ∧ (∀ x ∈ r.xs.take m, inR n x = true) ∧ wx = wv)
      case atStart => exact ⟨0, Nat.zero_le _, rfl, rfl, by simp, rfl⟩
      case round =>
        obtain ⟨m, hmk, rfl, rfl, hmo, rfl⟩ := hrel
        have hmoH := Lib.hid hmo
        clear hmo
        by_cases hlt2 : m < r.l
        · have hlt2i : (m : Int) < (r.l : Int) := by omega
          obtain ⟨b2, o2, x, he2, hb2, hx, hcx⟩ := hrkH.out.at_ hlt2
          rw [he2] at hcp
          have hxH := Lib.hid hx
          clear hx
          by_cases h0 : x < 0
          · have hT : Hid ((2 : Int) = R) := Lib.hid (by
              rw [← hR.out, if_neg]
              intro h
              unfold okX at h
              have h1 := List.all_eq_true.1 (List.all_eq_true.1 h r (List.mem_of_getElem? hqH.out)) x (List.mem_of_getElem? hxH.out)
              unfold inR at h1
              rw [decide_eq_false (by omega)] at h1
              cases h1)
            go_wp2
            go_ret
            exact ⟨ret_intN hT.out, hbr⟩
          have h0d : decide (x < 0) = false := decide_eq_false h0
          by_cases hge : (n : Int) ≤ x
          · have hT : Hid ((2 : Int) = R) := Lib.hid (by
              rw [← hR.out, if_neg]
              intro h
              unfold okX at h
              have h1 := List.all_eq_true.1 (List.all_eq_true.1 h r (List.mem_of_getElem? hqH.out)) x (List.mem_of_getElem? hxH.out)
              unfold inR at h1
              rw [decide_eq_false (show ¬ x < (n : Int) by omega), Bool.and_false] at h1
              cases h1)
            go_wp2
            go_ret
            exact ⟨ret_intN hT.out, hbr⟩
          · have hT : Hid (inR n x = true) := Lib.hid (by unfold inR; rw [decide_eq_true (by omega), decide_eq_true (by omega)]; rfl)
            go_wp2
            go_roundg (r.l + 1 - (m + 1))
            case measure => omega
            case rel => exact ⟨m + 1, by omega, rfl, by go_num, all_take_succ hmoH.out hxH.out hT.out, rfl⟩
        · have hnlt2 : ¬ (m : Int) < (r.l : Int) := by omega
          have hT : Hid ((r.xs.all fun x => inR n x) = true) := Lib.hid (List.all_eq_true.2 (all_take_all (by rw [show m = r.l from by omega] at hmoH; exact hmoH.out) hrl.out))
          go_wp2
          go_roundg (n + 1 - (k + 1))
          case measure => omega
          case rel => exact ⟨k + 1, by omega, rfl, by go_num, all_take_succ hnoH.out hqH.out hT.out, hbr⟩
    · have hnlt : ¬ (k : Int) < (n : Int) := by omega
      have hT : Hid ((0 : Int) = R) := Lib.hid (by
        rw [← hR.out, if_pos]
        unfold okX
        exact List.all_eq_true.2 (all_take_all (by rw [show k = n from by omega] at hnoH; exact hnoH.out) hl.out))
      go_wp2
      go_ret
      exact ⟨ret_intN hT.out, hbr⟩
end Go.Proofs.Ytebpghpeeedgcaa
