/- The document's Same of sets of additions. -/
import Derived.Test.YtadldndmmobpdaaOsT
namespace Go.Proofs.Ytadldndmmobpdaa
open Go.RowKit

set_option maxRecDepth 100000 in
set_option maxHeartbeats 1000000 in
theorem osame_any (A : Option Addr) (n c : Nat) (xs : List Am) (B : Option Addr) (m d : Nat) (gs : List Tm) (A2 : Option Addr) (n2 c2 : Nat) (ys : List Am) (B2 : Option Addr) (m2 d2 : Nat) (hs : List Tm) (w : World) (hA : RdA w w.heap.size A n xs) (hB : RdT w w.heap.size B m gs) (hA2 : RdA w w.heap.size A2 n2 ys) (hB2 : RdT w w.heap.size B2 m2 hs) (hn : n ≤ maxLen) (hm : m ≤ maxLen) (hn2 : n2 ≤ maxLen) (hm2 : m2 ≤ maxLen) :
    Calls Try.prog 16 #[.agg #[.slice A n c, .slice B m d], .agg #[.slice A2 n2 c2, .slice B2 m2 d2]] w fun e w' => e = .returned (.bool (decide (xs = ys) && decide (gs = hs))) ∧ Below w.heap.size w w' := by
  have hb0 : Below w.heap.size w ((w.alloc (.cells #[.slice A n c, .slice B m d] 25)).alloc (.cells #[.slice A2 n2 c2, .slice B2 m2 d2] 25)) := ((Below.refl _ w).alloc (Nat.le_refl _) _).alloc (by simp) _
  have hbA : ((w.alloc (.cells #[.slice A n c, .slice B m d] 25)).alloc (.cells #[.slice A2 n2 c2, .slice B2 m2 d2] 25)).heap[w.heap.size]? = some (.cells #[.slice A n c, .slice B m d] 25 (0, 0)) := heap_old _ (by simp) (heap_at _ _ rfl)
  have hbB : ((w.alloc (.cells #[.slice A n c, .slice B m d] 25)).alloc (.cells #[.slice A2 n2 c2, .slice B2 m2 d2] 25)).heap[w.heap.size + 1]? = some (.cells #[.slice A2 n2 c2, .slice B2 m2 d2] 25 (0, 0)) := heap_at _ _ (by simp)
  generalize hW : ((w.alloc (.cells #[.slice A n c, .slice B m d] 25)).alloc (.cells #[.slice A2 n2 c2, .slice B2 m2 d2] 25)) = W at hb0 hbA hbB
  have cS := Lib.hid (sametags_any B B2 m m2 d d2 gs hs W ((hB.below hb0).more hb0.size) ((hB2.below hb0).more hb0.size) hm hm2)
  have hl := hA.len
  have hl2 := hA2.len
  have hAr := Lib.hid (fun w' (h : Below w.heap.size w w') => hA.below h)
  have hA2r := Lib.hid (fun w' (h : Below w.heap.size w w') => hA2.below h)
  have hltA := blk_lt hbA
  have hltB := blk_lt hbB
  have s0 := blk_cell hbA 0
  have s1 := blk_cell hbA 1
  have t0 := blk_cell hbB 0
  have t1 := blk_cell hbB 1
  simp at s0 s1 t0 t1
  have hbAH := Lib.hid hbA
  have hbBH := Lib.hid hbB
  generalize hr : (decide (xs = ys) && decide (gs = hs)) = r
  have hrH := Lib.hid hr
  unfold maxLen at hn hn2
  clear hA hA2 hB hB2 hbA hbB hr
  by_cases hnm : (n : Int) = (n2 : Int)
  case neg =>
    have hT : Hid (false = r) := Lib.hid (by
      rw [← hrH.out]; symm; rw [decide_eq_false (by rintro rfl; omega)]; rfl)
    have hd : ((n : Int) != (n2 : Int)) = true := by simpa using hnm
    clear hl hl2
    go_enter Try.func16, Try.ntmps16
    go_wp2
    go_ret
    exact ⟨ret_bool hT.out, hb0⟩
  obtain rfl : n = n2 := by omega
  clear hnm
  by_cases hg : gs = hs
  case neg =>
    rw [decide_eq_false hg] at cS
    have hT : Hid (false = r) := Lib.hid (by rw [← hrH.out, decide_eq_false hg]; simp)
    clear hl hl2
    go_enter Try.func16, Try.ntmps16
    go_wp2_with fail
    refine cS.out.mono ?_
    rintro e w1 ⟨rfl, hb1⟩
    have hG := hb0.trans (hb1.mono hb0.size)
    go_wp2
    go_ret
    exact ⟨ret_bool hT.out, hG⟩
  rw [decide_eq_true hg] at cS
  have hrX : Hid (decide (xs = ys) = r) := Lib.hid (by rw [← hrH.out, decide_eq_true hg]; simp)
  have hlH := Lib.hid hl
  have hl2H := Lib.hid hl2
  clear hl hl2 hg
  go_enter Try.func16, Try.ntmps16
  go_wp2_with fail
  refine cS.out.mono ?_
  rintro e w1 ⟨rfl, hb1⟩
  have hG1 := hb0.trans (hb1.mono hb0.size)
  clear s0 s1 t0 t1
  go_wp2_with fail
  go_loopg [5] (n + 1) (fun g i wr => ∃ k : Nat, k ≤ n ∧ g = n + 1 - k ∧ i = .int .i64 (k : Int) ∧ xs.take k = ys.take k ∧ Below w1.heap.size w1 wr)
  case atStart => exact ⟨0, Nat.zero_le _, rfl, rfl, rfl, Below.refl _ _⟩
  case round =>
    obtain ⟨k, hk, rfl, rfl, htk, hbr⟩ := hrel
    have hG := hG1.trans (hbr.mono hG1.size)
    have hz := hG.size
    have hbA1 := blk_below (blk_below hbAH.out hb1) hbr
    have hbB1 := blk_below (blk_below hbBH.out hb1) hbr
    have hltA1 := blk_lt hbA1
    have hltB1 := blk_lt hbB1
    have s0 := blk_cell hbA1 0
    have t0 := blk_cell hbB1 0
    simp at s0 t0
    clear hbA1 hbB1
    have htkH := Lib.hid htk
    clear htk
    by_cases hlt : k < n
    · obtain ⟨bA, oA, x, rfl, hbA, hp, hcp⟩ := (hAr.out wr hG).at_ hlt
      obtain ⟨bB, oB, y, rfl, hbB, hq, hcq⟩ := (hA2r.out wr hG).at_ hlt
      have p0 := hcp 0 _ rfl
      have p1 := hcp 1 _ rfl
      have p2 := hcp 2 _ rfl
      have p3 := hcp 3 _ rfl
      have q0 := hcq 0 _ rfl
      have q1 := hcq 1 _ rfl
      have q2 := hcq 2 _ rfl
      have q3 := hcq 3 _ rfl
      rw [Nat.add_zero] at p0 q0
      clear hcp hcq
      have hbA2 : bA < wr.heap.size := by omega
      have hbB2 : bB < wr.heap.size := by omega
      have hlti : (k : Int) < (n : Int) := by omega
      have hpH := Lib.hid hp
      have hqH := Lib.hid hq
      clear hp hq
      have hq0 : KQ wr.heap.size wr wr := kq (Below.refl _ _)
      by_cases he : x = y
      · subst he
        have hT : Hid (xs.take (k + 1) = ys.take (k + 1)) := Lib.hid (by rw [List.take_add_one, List.take_add_one, htkH.out, hpH.out, hqH.out])
        go_wp2
        go_region_held3 (fun w' => KQ wr.heap.size wr w') (first
      | with_reducible exact kq_call (by assumption) (by simp) (by assumption)
      | with_reducible exact kq_grown (by assumption) (by simp) (by assumption) (by simp [Value.ownBlock])
      | ((with_reducible refine kq ?_); (repeat (first | (with_reducible exact Below.refl _ _) | (with_reducible refine Below.drew ?_) | (with_reducible refine Below.alloc ?_ (by simp) _) | (with_reducible refine Below.setCell ?_ (by simp) _) | (with_reducible exact (by assumption : KQ _ _ _).1))); done)) (first | (go_at_call 0; skip))
        have hGr : Below w1.heap.size w1 wr.drew := hbr.drew
        go_wp2
        go_roundg (n + 1 - (k + 1))
        case measure => omega
        case rel => exact ⟨k + 1, by omega, rfl, by go_num, hT.out, hGr⟩
      · have hT : Hid (false = r) := Lib.hid (by
          rw [← hrX.out]; symm; apply decide_eq_false; intro e; subst e
          have := hpH.out.symm.trans hqH.out
          injection this with this; exact he this)
        obtain ⟨⟨⟨x1, x2⟩, x3⟩, x4⟩ := x
        obtain ⟨⟨⟨y1, y2⟩, y3⟩, y4⟩ := y
        dsimp only at p0 p1 p2 p3 q0 q1 q2 q3
        by_cases h1 : x1 = y1
        · subst h1
          by_cases h2 : x2 = y2
          · subst h2
            by_cases h3 : x3 = y3
            · subst h3
              have h4 : ((bs x4).toList == (bs y4).toList) = false := by
                rw [bs_empty, bs_empty, beq_eq_false_iff_ne]; rintro rfl; exact he rfl
              clear he
              go_wp2
              go_region_held3 (fun w' => KQ wr.heap.size wr w') (first
      | with_reducible exact kq_call (by assumption) (by simp) (by assumption)
      | with_reducible exact kq_grown (by assumption) (by simp) (by assumption) (by simp [Value.ownBlock])
      | ((with_reducible refine kq ?_); (repeat (first | (with_reducible exact Below.refl _ _) | (with_reducible refine Below.drew ?_) | (with_reducible refine Below.alloc ?_ (by simp) _) | (with_reducible refine Below.setCell ?_ (by simp) _) | (with_reducible exact (by assumption : KQ _ _ _).1))); done)) (first | (go_at_call 0; skip))
              have hGr : Below w.heap.size w wr.drew := hG.drew
              go_wp2
              go_ret
              exact ⟨ret_bool hT.out, hGr⟩
            · skip
              clear he
              go_wp2
              go_region_held3 (fun w' => KQ wr.heap.size wr w') (first
      | with_reducible exact kq_call (by assumption) (by simp) (by assumption)
      | with_reducible exact kq_grown (by assumption) (by simp) (by assumption) (by simp [Value.ownBlock])
      | ((with_reducible refine kq ?_); (repeat (first | (with_reducible exact Below.refl _ _) | (with_reducible refine Below.drew ?_) | (with_reducible refine Below.alloc ?_ (by simp) _) | (with_reducible refine Below.setCell ?_ (by simp) _) | (with_reducible exact (by assumption : KQ _ _ _).1))); done)) (first | (go_at_call 0; skip))
              have hGr : Below w.heap.size w wr.drew := hG.drew
              go_wp2
              go_ret
              exact ⟨ret_bool hT.out, hGr⟩
          · skip
            clear he
            go_wp2
            go_region_held3 (fun w' => KQ wr.heap.size wr w') (first
      | with_reducible exact kq_call (by assumption) (by simp) (by assumption)
      | with_reducible exact kq_grown (by assumption) (by simp) (by assumption) (by simp [Value.ownBlock])
      | ((with_reducible refine kq ?_); (repeat (first | (with_reducible exact Below.refl _ _) | (with_reducible refine Below.drew ?_) | (with_reducible refine Below.alloc ?_ (by simp) _) | (with_reducible refine Below.setCell ?_ (by simp) _) | (with_reducible exact (by assumption : KQ _ _ _).1))); done)) (first | (go_at_call 0; skip))
            have hGr : Below w.heap.size w wr.drew := hG.drew
            go_wp2
            go_ret
            exact ⟨ret_bool hT.out, hGr⟩
        · skip
          clear he
          go_wp2
          go_region_held3 (fun w' => KQ wr.heap.size wr w') (first
      | with_reducible exact kq_call (by assumption) (by simp) (by assumption)
      | with_reducible exact kq_grown (by assumption) (by simp) (by assumption) (by simp [Value.ownBlock])
      | ((with_reducible refine kq ?_); (repeat (first | (with_reducible exact Below.refl _ _) | (with_reducible refine Below.drew ?_) | (with_reducible refine Below.alloc ?_ (by simp) _) | (with_reducible refine Below.setCell ?_ (by simp) _) | (with_reducible exact (by assumption : KQ _ _ _).1))); done)) (first | (go_at_call 0; skip))
          have hGr : Below w.heap.size w wr.drew := hG.drew
          go_wp2
          go_ret
          exact ⟨ret_bool hT.out, hGr⟩
    · have hT : Hid (true = r) := Lib.hid (by
        rw [← hrX.out]; symm; apply decide_eq_true
        have := htkH.out
        rw [List.take_of_length_le (by have := hlH.out; omega), List.take_of_length_le (by have := hl2H.out; omega)] at this
        exact this)
      go_wp2
      go_ret
      exact ⟨ret_bool hT.out, hG⟩
end Go.Proofs.Ytadldndmmobpdaa
