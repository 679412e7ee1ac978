/- Interests: SameTexts, and 'works' of the statements. -/
import Derived.Test.YtpolplmniaoikaaGreatDoorM44
namespace Go.Proofs.YtpolplmniaoikaaGreatDoor
open Go.RowKit

set_option maxRecDepth 100000 in
theorem sameW_any (A B : Option Addr) (n m c d : Nat) (xs ys : List (List UInt8)) (w : World) (hA : RdS w w.heap.size A n xs) (hB : RdS w w.heap.size B m ys) (hn : n ≤ maxLen) (hm : m ≤ maxLen) :
    Calls Tryz.prog 21 #[.slice A n c, .slice B m d] w fun e w' => e = .returned (.bool (decide (xs = ys))) ∧ Below w.heap.size w w' := by
  have hl := hA.len
  have hl2 := hB.len
  unfold maxLen at hn hm
  generalize hr : decide (xs = ys) = r
  have hrH := Lib.hid hr
  clear hr
  by_cases hnm : (n : Int) = (m : Int)
  · obtain rfl : n = m := by omega
    clear hnm
    go_enter Tryz.func21, Tryz.ntmps21
    go_wp2
    go_loopg [5] (n + 1) (fun g i wr => ∃ k : Nat, k ≤ n ∧ g = n + 1 - k ∧ i = .int .i64 (k : Int) ∧ xs.take k = ys.take k ∧ Below w.heap.size w wr)
    case atStart => exact ⟨0, Nat.zero_le _, rfl, rfl, rfl, Below.refl _ _⟩
    case round =>
      obtain ⟨k, hk, rfl, rfl, htk, hbr⟩ := hrel
      have hz := hbr.size
      by_cases hlt : k < n
      · obtain ⟨bA, oA, x, rfl, hbA, hp, hcp⟩ := (hA.below hbr).at_ hlt
        obtain ⟨bB, oB, y, rfl, hbB, hq, hcq⟩ := (hB.below hbr).at_ hlt
        have p0 := hcp 0 _ rfl
        have q0 := hcq 0 _ rfl
        rw [Nat.add_zero, Nat.mul_one] at p0 q0
        clear hcp hcq
        have hbA2 : bA < wr.heap.size := by omega
        have hbB2 : bB < wr.heap.size := by omega
        have htkH := Lib.hid htk
        have hpH := Lib.hid hp
        have hqH := Lib.hid hq
        clear htk hp hq
        have hq0 : KQ wr.heap.size wr wr := kq (Below.refl _ _)
        by_cases he : x = y
        · subst he
          have hT : Hid (xs.take (k + 1) = ys.take (k + 1)) := Lib.hid (by rw [List.take_add_one, List.take_add_one, htkH.out, hpH.out, hqH.out])
          go_wp2
          go_region_held3 (fun w' => KQ wr.heap.size wr w') (first
      | with_reducible exact kq_call (by assumption) (by simp) (by assumption)
      | with_reducible exact kq_grown (by assumption) (by simp) (by assumption) (by simp [Value.ownBlock])
      | ((with_reducible refine kq ?_); (repeat (first | (with_reducible exact Below.refl _ _) | (with_reducible refine Below.drew ?_) | (with_reducible refine Below.alloc ?_ (by simp) _) | (with_reducible refine Below.setCell ?_ (by simp) _) | (with_reducible exact (by assumption : KQ _ _ _).1))); done)) (first | (go_at_call 0; skip))
          have hG : Below w.heap.size w wr.drew := hbr.drew
          go_wp2
          go_roundg (n + 1 - (k + 1))
          case measure => omega
          case rel => exact ⟨k + 1, by omega, rfl, by go_num, hT.out, hG⟩
        · have hT : Hid (false = r) := Lib.hid (by
            rw [← hrH.out]; symm; apply decide_eq_false; intro e; subst e
            have := hpH.out.symm.trans hqH.out
            injection this with this; exact he this)
          have hG : Below w.heap.size w wr.drew := hbr.drew
          have hsn : ((bs x).toList == (bs y).toList) = false := by rw [bs_emptyH, bs_emptyH, beq_eq_false_iff_ne]; exact he
          clear he
          go_wp2
          go_region_held3 (fun w' => KQ wr.heap.size wr w') (first
      | with_reducible exact kq_call (by assumption) (by simp) (by assumption)
      | with_reducible exact kq_grown (by assumption) (by simp) (by assumption) (by simp [Value.ownBlock])
      | ((with_reducible refine kq ?_); (repeat (first | (with_reducible exact Below.refl _ _) | (with_reducible refine Below.drew ?_) | (with_reducible refine Below.alloc ?_ (by simp) _) | (with_reducible refine Below.setCell ?_ (by simp) _) | (with_reducible exact (by assumption : KQ _ _ _).1))); done)) (first | (go_at_call 0; skip))
          go_wp2
          go_ret
          exact ⟨ret_bool hT.out, hG⟩
      · have hT : Hid (true = r) := Lib.hid (by
          rw [← hrH.out]; symm; apply decide_eq_true
          rw [List.take_of_length_le (by omega), List.take_of_length_le (by omega)] at htk
          exact htk)
        clear htk
        go_wp2
        go_ret
        exact ⟨ret_bool hT.out, hbr⟩
  · have hT : Hid (false = r) := Lib.hid (by
      rw [← hrH.out]; symm; apply decide_eq_false; rintro rfl; omega)
    have hd : ((n : Int) == (m : Int)) = false := by simpa using hnm
    go_enter Tryz.func21, Tryz.ntmps21
    go_wp2
    go_ret
    exact ⟨ret_bool hT.out, Below.refl _ _⟩
theorem rdS_lit (w : World) (l : List (List UInt8)) (cs : Array Value) (h : cs = (l.map encS).flatten.toArray) : RdS (w.alloc (.cells cs 9)) (w.alloc (.cells cs 9)).heap.size (some ⟨w.heap.size, 0, none⟩) l.length l :=
  Rd.built (xs := l.map encS) encS_len h (by simp)
theorem wk_out1 : outW [[97, 47, 98], [97], [99], [97]] = [[97], [99]] := by rw [← makeR_out]; decide +kernel
theorem wk_out2 : outW [[97], [99]] = [[97], [99]] := by rw [← makeR_out]; decide +kernel
theorem wk_e1 : makeWE [[97, 47, 98], [97], [99], [97]] = 0 := by unfold makeWE; rw [wk_out1]; decide +kernel
theorem wk_m1 : makeW [[97, 47, 98], [97], [99], [97]] = [[97], [99]] := by unfold makeW; rw [wk_e1, wk_out1]; rfl
theorem wk_e2 : minusWE [[97], [99]] [97] = 0 := by unfold minusWE chkW; rw [wk_out2]; decide +kernel
theorem wk_m2 : minusW [[97], [99]] [97] = [[99]] := by unfold minusW; rw [wk_e2]; decide +kernel
theorem wk_e3 : makeWE [[97, 47]] = 3 := by
  unfold makeWE
  rw [if_pos (by decide +kernel)]
  decide +kernel
theorem wk_h1 : hasW [[97], [99]] [97, 47, 114] = true := by decide +kernel
theorem wk_h2 : hasW [[97], [99]] [97, 98, 47, 114] = false := by decide +kernel
theorem wk_h3 : hasW [[]] [120] = true := by decide +kernel
theorem wk_h4 : hasW [] [120] = false := by decide +kernel
theorem wk_v1 : coversW [[97], [99]] [[97, 47, 120]] = true := by decide +kernel
theorem wk_v2 : coversW [[97], [99]] [[]] = false := by decide +kernel
theorem short_lit {l : List (List UInt8)} (h : l.all (fun x => decide (x.length ≤ 1000)) = true) : shortS l := fun x hx => by simpa using List.all_eq_true.1 h x hx
end Go.Proofs.YtpolplmniaoikaaGreatDoor
