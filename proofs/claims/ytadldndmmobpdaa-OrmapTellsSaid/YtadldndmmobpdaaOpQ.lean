/- The statements' own items of maps; SameItems. -/
import Derived.Test.YtadldndmmobpdaaOpN
namespace Go.Proofs.Ytadldndmmobpdaa
open Go.RowKit

set_option maxRecDepth 100000 in
set_option maxHeartbeats 1000000 in
theorem sameitems_any (A B : Option Addr) (n m c d : Nat) (xs ys : List Itm) (w : World) (hA : RdIt w w.heap.size A n xs) (hB : RdIt w w.heap.size B m ys) (hn : n ≤ maxLen) (hm : m ≤ maxLen) :
    Calls Try.prog 34 #[.slice A n c, .slice B m d] w fun e w' => e = .returned (.bool (decide (xs = ys))) ∧ Below w.heap.size w w' := by
  have hl := hA.len
  have hl2 := hB.len
  unfold maxLen at hn hm
  generalize hr : decide (xs = ys) = r
  have hrH := Lib.hid hr
  clear hr
  by_cases hnm : (n : Int) = (m : Int)
  · obtain rfl : n = m := by omega
    clear hnm
    go_enter Try.func34, Try.ntmps34
    go_wp2
    go_loopg [5] (n + 1) (fun g i wr => ∃ k : Nat, k ≤ n ∧ g = n + 1 - k ∧ i = .int .i64 (k : Int) ∧ xs.take k = ys.take k ∧ Below w.heap.size w wr)
    case atStart => exact ⟨0, Nat.zero_le _, rfl, rfl, rfl, Below.refl _ _⟩
    case round =>
      obtain ⟨k, hk, rfl, rfl, htk, hbr⟩ := hrel
      have hz := hbr.size
      by_cases hlt : k < n
      · obtain ⟨bA, oA, x, rfl, hbA, hp, hcp⟩ := (hA.below hbr).at_ hlt
        obtain ⟨bB, oB, y, rfl, hbB, hq, hcq⟩ := (hB.below hbr).at_ hlt
        have p0 := hcp 0 _ rfl
        have p1 := hcp 1 _ rfl
        have q0 := hcq 0 _ rfl
        have q1 := hcq 1 _ rfl
        rw [Nat.add_zero] at p0 q0
        clear hcp hcq
        have hbA2 : bA < wr.heap.size := by omega
        have hbB2 : bB < wr.heap.size := by omega
        have htkH := Lib.hid htk
        have hpH := Lib.hid hp
        have hqH := Lib.hid hq
        clear htk hp hq
        have hq0 : KQ wr.heap.size wr wr := kq (Below.refl _ _)
        obtain ⟨x1, x2⟩ := x
        obtain ⟨y1, y2⟩ := y
        dsimp only at p0 p1 q0 q1
        by_cases he : x1 = y1 ∧ x2 = y2
        · obtain ⟨rfl, rfl⟩ := he
          have hT : Hid (xs.take (k + 1) = ys.take (k + 1)) := Lib.hid (by rw [List.take_add_one, List.take_add_one, htkH.out, hpH.out, hqH.out])
          have hqb : ((bs x1).toList == (bs x1).toList) = true := by simp
          go_wp2
          go_region_held3 (fun w' => KQ wr.heap.size wr w') (first
      | with_reducible exact kq_call (by assumption) (by simp) (by assumption)
      | with_reducible exact kq_grown (by assumption) (by simp) (by assumption) (by simp [Value.ownBlock])
      | ((with_reducible refine kq ?_); (repeat (first | (with_reducible exact Below.refl _ _) | (with_reducible refine Below.drew ?_) | (with_reducible refine Below.alloc ?_ (by simp) _) | (with_reducible refine Below.setCell ?_ (by simp) _) | (with_reducible exact (by assumption : KQ _ _ _).1))); done)) (first | (go_at_call 0; skip))
          have hG : Below w.heap.size w wr.drew := hbr.drew
          go_wp2
          go_roundg (n + 1 - (k + 1))
          case measure => omega
          case rel => exact ⟨k + 1, by omega, rfl, by go_num, hT.out, hG⟩
        · have hT : Hid (false = r) := Lib.hid (by
            rw [← hrH.out]; symm; apply decide_eq_false; intro e; subst e
            have := hpH.out.symm.trans hqH.out
            simp at this; exact he ⟨this.1, this.2⟩)
          have hG : Below w.heap.size w wr.drew := hbr.drew
          by_cases h1 : x1 = y1
          · subst h1
            have h2 : ¬ x2 = y2 := fun e => he ⟨rfl, e⟩
            have hqb : ((bs x1).toList == (bs x1).toList) = true := by simp
            clear he
            go_wp2
            go_region_held3 (fun w' => KQ wr.heap.size wr w') (first
      | with_reducible exact kq_call (by assumption) (by simp) (by assumption)
      | with_reducible exact kq_grown (by assumption) (by simp) (by assumption) (by simp [Value.ownBlock])
      | ((with_reducible refine kq ?_); (repeat (first | (with_reducible exact Below.refl _ _) | (with_reducible refine Below.drew ?_) | (with_reducible refine Below.alloc ?_ (by simp) _) | (with_reducible refine Below.setCell ?_ (by simp) _) | (with_reducible exact (by assumption : KQ _ _ _).1))); done)) (first | (go_at_call 0; skip))
            go_wp2
            go_ret
            exact ⟨ret_bool hT.out, hG⟩
          · have hqb : ((bs x1).toList == (bs y1).toList) = false := by rw [bs_empty, bs_empty, beq_eq_false_iff_ne]; exact h1
            clear he
            go_wp2
            go_region_held3 (fun w' => KQ wr.heap.size wr w') (first
      | with_reducible exact kq_call (by assumption) (by simp) (by assumption)
      | with_reducible exact kq_grown (by assumption) (by simp) (by assumption) (by simp [Value.ownBlock])
      | ((with_reducible refine kq ?_); (repeat (first | (with_reducible exact Below.refl _ _) | (with_reducible refine Below.drew ?_) | (with_reducible refine Below.alloc ?_ (by simp) _) | (with_reducible refine Below.setCell ?_ (by simp) _) | (with_reducible exact (by assumption : KQ _ _ _).1))); done)) (first | (go_at_call 0; skip))
            go_wp2
            go_ret
            exact ⟨ret_bool hT.out, hG⟩
      · have hT : Hid (true = r) := Lib.hid (by
          rw [← hrH.out]; symm; apply decide_eq_true
          rw [List.take_of_length_le (by omega), List.take_of_length_le (by omega)] at htk
          exact htk)
        have hnl : ¬ ((k : Int) < (n : Int)) := by omega
        clear hA hB hl hl2
        go_wp2
        go_ret
        exact ⟨ret_bool hT.out, hbr⟩
  · have hT : Hid (false = r) := Lib.hid (by
      rw [← hrH.out]; symm; apply decide_eq_false; rintro rfl; omega)
    have hd : ((n : Int) != (m : Int)) = true := by simpa using hnm
    clear hA hB hl hl2
    go_enter Try.func34, Try.ntmps34
    go_wp2
    go_ret
    exact ⟨ret_bool hT.out, Below.refl _ _⟩
set_option maxRecDepth 100000 in
set_option maxHeartbeats 1000000 in
theorem mlitems_any (A : Option Addr) (n c : Nat) (gs : List Itm) (w : World) (hA : RdIt w w.heap.size A n gs) (hn : n ≤ 100000) :
    Calls Try.prog 35 #[.slice A n c] w fun r w' => ∃ T t c', r = .returned (.slice T t c') ∧ Ow w' w.heap.size 135 2 (.slice T t c') (gs.map Itm.enc) ∧ Below w.heap.size w w' := by
  have hlH := Lib.hid hA.len
  have hAr := Lib.hid (fun w' (h : Below w.heap.size w w') => hA.below h)
  clear hA
  go_enter Try.func35, Try.ntmps35
  go_wp2_with fail
  go_loopg [3, 4] (n + 1) (fun g o i wr => ∃ (k : Nat) (T : Option Addr) (c' : Nat), k ≤ n ∧ g = n + 1 - k ∧ o = .slice T k c' ∧ i = .int .i64 (k : Int) ∧ Ow wr w.heap.size 135 2 (.slice T k c') ((gs.take k).map Itm.enc) ∧ Below w.heap.size w wr)
  case atStart => exact ⟨0, none, 0, Nat.zero_le _, rfl, rfl, rfl, Ow.nil_ _ _ _ _, Below.refl _ _⟩
  case round =>
    obtain ⟨k, T, c', hk, rfl, rfl, rfl, hown, hbr⟩ := hrel
    have hz := hbr.size
    by_cases hlt : k < n
    · obtain ⟨bA, oA, u, rfl, hbA, hq, hcp⟩ := (hAr.out wr hbr).at_ hlt
      have p0 := hcp 0 _ rfl
      have p1 := hcp 1 _ rfl
      rw [Nat.add_zero] at p0
      clear hcp
      have hst : Hid ((gs.take (k + 1)).map Itm.enc = (gs.take k).map Itm.enc ++ [[.string (bs u.1), .int .i64 u.2]]) := Lib.hid (by rw [List.take_add_one, hq]; simp [Itm.enc])
      have hlk : Hid (((gs.take k).map Itm.enc).length = k) := Lib.hid (by simp; have := hlH.out; omega)
      have hlti : (k : Int) < (n : Int) := by omega
      have hlen1 : Hid (∀ y ∈ ([[.string (bs u.1), .int .i64 u.2]] : List (List Value)), y.length = 2) := Lib.hid (by simp)
      have hone1 : Hid (∀ y ∈ ([[.string (bs u.1), .int .i64 u.2]] : List (List Value)), ∀ v ∈ y, v.oneCell' = true) := Lib.hid (by simp [Value.oneCell'])
      have hbA2 : bA < wr.heap.size := by omega
      clear hq
      have hbkH := Lib.hid hown.block
      have hownH := Lib.hid hown
      have hq0 : KQ w.heap.size wr wr := kq (Below.refl _ _)
      have hzH := Lib.hid hz
      clear hown
      go_wp2
      go_region_held3 (fun w' => KQ w.heap.size wr w') (first | (with_reducible assumption) | ((with_reducible refine kq ?_); (repeat (first | (with_reducible exact Below.refl _ _) | (with_reducible refine Below.drew ?_) | (with_reducible refine Below.alloc ?_ (by first | omega | (simp; omega) | fail) _))); done))
        (first
          | (refine step_append_rd _ rfl _ _ _ rfl eItmR (base := w.heap.size) (v := .slice T k c') (xs := (gs.take k).map Itm.enc) rfl (hownH.out.below (by repeat (first | (with_reducible exact Below.refl _ _) | (with_reducible refine Below.drew ?_) | (with_reducible refine Below.alloc ?_ (by simp) _) | (with_reducible refine Below.setCell ?_ (by simp) _) | (with_reducible exact (by assumption : KQ _ _ _).1)))) rfl (Rd.one' [.string (bs u.1), .int .i64 u.2] (by simp)) hlen1.out hone1.out (by rw [hlk.out]; unfold maxLen; omega) (by rw [hlk.out]; omega) (by simp; have := hzH.out; omega) ?_
             intro A2 n2 c2 w4 hn2 hown4 hg4 hat4
             obtain rfl : n2 = k + 1 := by rw [hn2, hlk.out]
             clear hn2 hat4
             have hk4 : KQ w.heap.size wr w4 := kq_grown (by first | (with_reducible assumption) | ((with_reducible refine kq ?_); (repeat (first | (with_reducible exact Below.refl _ _) | (with_reducible refine Below.drew ?_) | (with_reducible refine Below.alloc ?_ (by first | omega | (simp; omega) | fail) _))); done) | fail) hzH.out hg4 (fun q e => (hbkH.out q e).1)
            )
          | fail "no arm")
      all_goals
        (have hfin : Below w.heap.size w w4 := hbr.trans hk4.1
         go_wp2
         go_roundg (n + 1 - (k + 1))
         case measure => omega
         case rel => exact ⟨k + 1, A2, c2, by omega, rfl, rfl, by go_num, by rw [hst.out]; exact hown4, hfin⟩)
    · obtain rfl : k = n := by omega
      have hnli : ¬ (k : Int) < (k : Int) := by omega
      rw [List.take_of_length_le (by have := hlH.out; omega)] at hown
      go_wp2
      go_ret
      exact ⟨T, k, c', rfl, hown, hbr⟩
end Go.Proofs.Ytadldndmmobpdaa
