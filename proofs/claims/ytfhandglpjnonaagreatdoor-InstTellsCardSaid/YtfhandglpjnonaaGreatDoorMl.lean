/- slices.Grow and Concat at parts; slices.Equal at tags. -/
import Derived.Test.YtfhandglpjnonaaGreatDoorM39
import Derived.Test.YtfhandglpjnonaaGreatDoorN14
import Derived.Lib.AppendZeros
namespace Go.Proofs.YtfhandglpjnonaaGreatDoor
open Go.RowKit

theorem take_succ_eqX {α : Type} {xs ys : List α} {k : Nat} {x y : α} (h : xs.take k = ys.take k) (hx : xs[k]? = some x) (hy : ys[k]? = some y) : xs.take (k + 1) = ys.take (k + 1) ↔ x = y := by
  rw [List.take_add_one, List.take_add_one, h, hx, hy]
  simp
set_option maxRecDepth 100000 in
theorem equalT_any (A B : Option Addr) (n m c d : Nat) (xs ys : List Tm) (w : World) (hA : RdT w w.heap.size A n xs) (hB : RdT w w.heap.size B m ys) (hn : n ≤ maxLen) (hm : m ≤ maxLen) :
    Calls Tryz.prog 90 #[.slice A n c, .slice B m d] w fun e w' => e = .returned (.bool (decide (xs = ys))) ∧ Below w.heap.size w w' := by
  have hl := hA.len
  have hl2 := hB.len
  unfold maxLen at hn hm
  generalize hr : decide (xs = ys) = r
  have hrH := Lib.hid hr
  clear hr
  by_cases hnm : (n : Int) = (m : Int)
  · obtain rfl : n = m := by omega
    clear hnm
    go_enter Tryz.func90, Tryz.ntmps90
    go_wp2
    go_loopg [13] (n + 1) (fun g i wr => ∃ k : Nat, k ≤ n ∧ g = n + 1 - k ∧ i = .int .i64 (k : Int) ∧ xs.take k = ys.take k ∧ Below w.heap.size w wr)
    case atStart => exact ⟨0, Nat.zero_le _, rfl, rfl, rfl, Below.refl _ _⟩
    case round =>
      obtain ⟨k, hk, rfl, rfl, htk, hbr⟩ := hrel
      have hz := hbr.size
      by_cases hlt : k < n
      · obtain ⟨bA, oA, x, rfl, hbA, hp, hcp⟩ := (hA.below hbr).at_ hlt
        obtain ⟨bB, oB, y, rfl, hbB, hq, hcq⟩ := (hB.below hbr).at_ hlt
        have p0 := hcp 0 _ rfl
        have p1 := hcp 1 _ rfl
        have p2 := hcp 2 _ rfl
        have q0 := hcq 0 _ rfl
        have q1 := hcq 1 _ rfl
        have q2 := hcq 2 _ rfl
        rw [Nat.add_zero] at p0 q0
        clear hcp hcq
        have hbA2 : bA < wr.heap.size := by omega
        have hbB2 : bB < wr.heap.size := by omega
        have hiff := Lib.hid (take_succ_eqX htk hp hq)
        have hpH := Lib.hid hp
        have hqH := Lib.hid hq
        clear htk hp hq
        have hq0 : KQ wr.heap.size wr wr := kq (Below.refl _ _)
        obtain ⟨⟨x1, x2⟩, x3⟩ := x
        obtain ⟨⟨y1, y2⟩, y3⟩ := y
        dsimp only at p0 p1 p2 q0 q1 q2
        by_cases h1 : x1 = y1
        · subst h1
          by_cases h2 : x2 = y2
          · subst h2
            by_cases h3 : x3 = y3
            · subst h3
              have hT := Lib.hid (hiff.out.2 rfl)
              clear hiff
              go_wp2
              go_region_held3 (fun w' => KQ wr.heap.size wr w') (first
      | with_reducible exact kq_call (by assumption) (by simp) (by assumption)
      | with_reducible exact kq_grown (by assumption) (by simp) (by assumption) (by simp [Value.ownBlock])
      | ((with_reducible refine kq ?_); (repeat (first | (with_reducible exact Below.refl _ _) | (with_reducible refine Below.drew ?_) | (with_reducible refine Below.alloc ?_ (by simp) _) | (with_reducible refine Below.setCell ?_ (by simp) _) | (with_reducible exact (by assumption : KQ _ _ _).1))); done)) (first | (go_at_call 0; skip))
              have hG : Below w.heap.size w wr.drew := hbr.drew
              go_wp2
              go_roundg (n + 1 - (k + 1))
              case measure => omega
              case rel => exact ⟨k + 1, by omega, rfl, by go_num, hT.out, hG⟩
            · have hT : Hid (false = r) := Lib.hid (by
                rw [← hrH.out]; symm; apply decide_eq_false; intro e; subst e
                have := hpH.out.symm.trans hqH.out
                simp at this; exact h3 this)
              clear hiff
              go_wp2
              go_region_held3 (fun w' => KQ wr.heap.size wr w') (first
      | with_reducible exact kq_call (by assumption) (by simp) (by assumption)
      | with_reducible exact kq_grown (by assumption) (by simp) (by assumption) (by simp [Value.ownBlock])
      | ((with_reducible refine kq ?_); (repeat (first | (with_reducible exact Below.refl _ _) | (with_reducible refine Below.drew ?_) | (with_reducible refine Below.alloc ?_ (by simp) _) | (with_reducible refine Below.setCell ?_ (by simp) _) | (with_reducible exact (by assumption : KQ _ _ _).1))); done)) (first | (go_at_call 0; skip))
              have hG : Below w.heap.size w wr.drew := hbr.drew
              go_wp2
              go_ret
              exact ⟨ret_bool hT.out, hG⟩
          · have hT : Hid (false = r) := Lib.hid (by
              rw [← hrH.out]; symm; apply decide_eq_false; intro e; subst e
              have := hpH.out.symm.trans hqH.out
              simp at this; exact h2 this.1)
            clear hiff
            go_wp2
            go_region_held3 (fun w' => KQ wr.heap.size wr w') (first
      | with_reducible exact kq_call (by assumption) (by simp) (by assumption)
      | with_reducible exact kq_grown (by assumption) (by simp) (by assumption) (by simp [Value.ownBlock])
      | ((with_reducible refine kq ?_); (repeat (first | (with_reducible exact Below.refl _ _) | (with_reducible refine Below.drew ?_) | (with_reducible refine Below.alloc ?_ (by simp) _) | (with_reducible refine Below.setCell ?_ (by simp) _) | (with_reducible exact (by assumption : KQ _ _ _).1))); done)) (first | (go_at_call 0; skip))
            have hG : Below w.heap.size w wr.drew := hbr.drew
            go_wp2
            go_ret
            exact ⟨ret_bool hT.out, hG⟩
        · have hT : Hid (false = r) := Lib.hid (by
              rw [← hrH.out]; symm; apply decide_eq_false; intro e; subst e
              have := hpH.out.symm.trans hqH.out
              simp at this; exact h1 this.1.1)
          clear hiff
          go_wp2
          go_region_held3 (fun w' => KQ wr.heap.size wr w') (first
      | with_reducible exact kq_call (by assumption) (by simp) (by assumption)
      | with_reducible exact kq_grown (by assumption) (by simp) (by assumption) (by simp [Value.ownBlock])
      | ((with_reducible refine kq ?_); (repeat (first | (with_reducible exact Below.refl _ _) | (with_reducible refine Below.drew ?_) | (with_reducible refine Below.alloc ?_ (by simp) _) | (with_reducible refine Below.setCell ?_ (by simp) _) | (with_reducible exact (by assumption : KQ _ _ _).1))); done)) (first | (go_at_call 0; skip))
          have hG : Below w.heap.size w wr.drew := hbr.drew
          go_wp2
          go_ret
          exact ⟨ret_bool hT.out, hG⟩
      · have hT : Hid (true = r) := Lib.hid (by
          rw [← hrH.out]; symm; apply decide_eq_true
          rw [List.take_of_length_le (by omega), List.take_of_length_le (by omega)] at htk
          exact htk)
        go_wp2
        go_ret
        exact ⟨ret_bool hT.out, hbr⟩
  · have hT : Hid (false = r) := Lib.hid (by
      rw [← hrH.out]; symm; apply decide_eq_false; rintro rfl; omega)
    have hd : ((n : Int) != (m : Int)) = true := by simpa using hnm
    go_enter Tryz.func90, Tryz.ntmps90
    go_wp2
    go_ret
    exact ⟨ret_bool hT.out, Below.refl _ _⟩

end Go.Proofs.YtfhandglpjnonaaGreatDoor
