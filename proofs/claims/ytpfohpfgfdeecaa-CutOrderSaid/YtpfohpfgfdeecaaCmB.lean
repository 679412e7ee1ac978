/- Has of cuts, both; slices.Equal at names, cut.Same. -/
import Derived.Test.YtpfohpfgfdeecaaDtF
import Derived.Test.YtpfohpfgfdeecaaDmA
import Derived.Test.YtpfohpfgfdeecaaPdg
namespace Go.Proofs.Ytpfohpfgfdeecaa
open Go.RowKit
set_option maxRecDepth 100000 in
set_option maxHeartbeats 1000000 in
theorem chas_any (v : Vm) (A : Option Addr) (n c : Nat) (xs : List Im) (x : Im) (w : World) (hA : RdI w w.heap.size A n xs) (hn : n ≤ 1100) (hx : x.wf) :
    Calls Try.prog 11 #[.agg #[.int .u32 v.d0, .int .u32 v.d1, .int .u32 v.d2, .int .u32 v.d3, .int .u32 v.d4, .int .u32 v.d5, .int .u32 v.d6, .int .u32 v.d7, .slice A n c], .agg #[.int .i64 x.1, .int .u32 x.2]] w fun e w' => e = .returned (.bool (hasC v xs x)) ∧ Below w.heap.size w w' := by
  have hb0 : Below w.heap.size w ((w.alloc (.cells #[.int .u32 v.d0, .int .u32 v.d1, .int .u32 v.d2, .int .u32 v.d3, .int .u32 v.d4, .int .u32 v.d5, .int .u32 v.d6, .int .u32 v.d7, .slice A n c] 30)).alloc (.cells #[.int .i64 x.1, .int .u32 x.2] 37)) := ((Below.refl _ w).alloc (Nat.le_refl _) _).alloc (by simp) _
  have hbA : ((w.alloc (.cells #[.int .u32 v.d0, .int .u32 v.d1, .int .u32 v.d2, .int .u32 v.d3, .int .u32 v.d4, .int .u32 v.d5, .int .u32 v.d6, .int .u32 v.d7, .slice A n c] 30)).alloc (.cells #[.int .i64 x.1, .int .u32 x.2] 37)).heap[w.heap.size]? = some (.cells #[.int .u32 v.d0, .int .u32 v.d1, .int .u32 v.d2, .int .u32 v.d3, .int .u32 v.d4, .int .u32 v.d5, .int .u32 v.d6, .int .u32 v.d7, .slice A n c] 30 (0, 0)) := heap_old _ (by simp) (heap_at _ _ rfl)
  have hbB : ((w.alloc (.cells #[.int .u32 v.d0, .int .u32 v.d1, .int .u32 v.d2, .int .u32 v.d3, .int .u32 v.d4, .int .u32 v.d5, .int .u32 v.d6, .int .u32 v.d7, .slice A n c] 30)).alloc (.cells #[.int .i64 x.1, .int .u32 x.2] 37)).heap[w.heap.size + 1]? = some (.cells #[.int .i64 x.1, .int .u32 x.2] 37 (0, 0)) := heap_at _ _ (by simp)
  generalize hW : ((w.alloc (.cells #[.int .u32 v.d0, .int .u32 v.d1, .int .u32 v.d2, .int .u32 v.d3, .int .u32 v.d4, .int .u32 v.d5, .int .u32 v.d6, .int .u32 v.d7, .slice A n c] 30)).alloc (.cells #[.int .i64 x.1, .int .u32 x.2] 37)) = W at hb0 hbA hbB
  have hltA := blk_lt hbA
  have hltB := blk_lt hbB
  have c1 := vhas_any v x hx
  generalize hr : hasC v xs x = r
  unfold hasC at hr
  have hAk := Lib.hid hbA
  have hBk := Lib.hid hbB
  have q0 := blk_cell hbA 0
  have q1 := blk_cell hbA 1
  have q2 := blk_cell hbA 2
  have q3 := blk_cell hbA 3
  have q4 := blk_cell hbA 4
  have q5 := blk_cell hbA 5
  have q6 := blk_cell hbA 6
  have q7 := blk_cell hbA 7
  have q8 := blk_cell hbA 8
  simp at q0 q1 q2 q3 q4 q5 q6 q7 q8
  have s0 := blk_cell hbB 0
  have s1 := blk_cell hbB 1
  simp at s0 s1
  clear hbA hbB
  cases h1 : hasV v x with
  | true =>
    rw [h1, Bool.true_or] at hr
    subst hr
    rw [h1] at c1
    have c1 := Lib.hid c1
    go_enter Try.func11, Try.ntmps11
    go_wp2_with fail
    refine (c1.out _).mono ?_
    rintro e w1 ⟨rfl, hb⟩
    have hG := hb0.trans (hb.mono hb0.size)
    go_wp2
    go_ret
    exact ⟨rfl, hG⟩
  | false =>
    rw [h1, Bool.false_or] at hr
    rw [h1] at c1
    have c2 := fun w1 (hb : Below w.heap.size w w1) => has_any A n c xs x w1 ((hA.below hb).more hb.size) (by simp [maxLen]; omega)
    rw [hr] at c2
    have c1 := Lib.hid c1
    have c2 := Lib.hid c2
    go_enter Try.func11, Try.ntmps11
    go_wp2_with fail
    refine (c1.out _).mono ?_
    rintro e w1 ⟨rfl, hb⟩
    clear q0 q1 q2 q3 q4 q5 q6 q7 q8 s0 s1
    have hG := hb0.trans (hb.mono hb0.size)
    have hbA1 := blk_below hAk.out hb
    have hbB1 := blk_below hBk.out hb
    have hltA1 := blk_lt hbA1
    have hltB1 := blk_lt hbB1
    have q0 := blk_cell hbA1 0
    have q1 := blk_cell hbA1 1
    have q2 := blk_cell hbA1 2
    have q3 := blk_cell hbA1 3
    have q4 := blk_cell hbA1 4
    have q5 := blk_cell hbA1 5
    have q6 := blk_cell hbA1 6
    have q7 := blk_cell hbA1 7
    have q8 := blk_cell hbA1 8
    simp at q0 q1 q2 q3 q4 q5 q6 q7 q8
    have s0 := blk_cell hbB1 0
    have s1 := blk_cell hbB1 1
    simp at s0 s1
    clear hbA1 hbB1
    go_wp2_with fail
    refine (c2.out _ hG).mono ?_
    rintro e w2 ⟨rfl, hb2⟩
    have hG2 := hG.trans (hb2.mono hG.size)
    go_wp2
    go_ret
    exact ⟨rfl, hG2⟩
set_option maxRecDepth 100000 in
theorem equal_any (A B : Option Addr) (n m c d : Nat) (xs ys : List Im) (w : World) (hA : RdI w w.heap.size A n xs) (hB : RdI w w.heap.size B m ys) (hn : n ≤ maxLen) (hm : m ≤ maxLen) :
    Calls Try.prog 19 #[.slice A n c, .slice B m d] w fun e w' => e = .returned (.bool (decide (xs = ys))) ∧ Below w.heap.size w w' := by
  have hl := hA.len
  have hl2 := hB.len
  unfold maxLen at hn hm
  generalize hr : decide (xs = ys) = r
  have hrH := Lib.hid hr
  clear hr
  by_cases hnm : (n : Int) = (m : Int)
  · obtain rfl : n = m := by omega
    clear hnm
    go_enter Try.func19, Try.ntmps19
    go_wp2
    go_loopg [13] (n + 1) (fun g i wr => ∃ k : Nat, k ≤ n ∧ g = n + 1 - k ∧ i = .int .i64 (k : Int) ∧ xs.take k = ys.take k ∧ Below w.heap.size w wr)
    case atStart => exact ⟨0, Nat.zero_le _, rfl, rfl, rfl, Below.refl _ _⟩
    case round =>
      obtain ⟨k, hk, rfl, rfl, htk, hbr⟩ := hrel
      have hz := hbr.size
      by_cases hlt : k < n
      · obtain ⟨bA, oA, x, rfl, hbA, hp, hcp⟩ := (hA.below hbr).at_ hlt
        obtain ⟨bB, oB, y, rfl, hbB, hq, hcq⟩ := (hB.below hbr).at_ hlt
        have p0 := hcp 0 _ rfl
        have p1 := hcp 1 _ rfl
        have q0 := hcq 0 _ rfl
        have q1 := hcq 1 _ rfl
        rw [Nat.add_zero] at p0 q0
        clear hcp hcq
        have hbA2 : bA < wr.heap.size := by omega
        have hbB2 : bB < wr.heap.size := by omega
        have hiff := Lib.hid (take_succ_eq htk hp hq)
        have hpH := Lib.hid hp
        have hqH := Lib.hid hq
        clear htk hp hq
        have hq0 : KQ wr.heap.size wr wr := kq (Below.refl _ _)
        obtain ⟨x1, x2⟩ := x
        obtain ⟨y1, y2⟩ := y
        dsimp only at p0 p1 q0 q1
        by_cases h1 : x1 = y1
        · subst h1
          by_cases h2 : x2 = y2
          · subst h2
            have hT := Lib.hid (hiff.out.2 rfl)
            clear hiff
            go_wp2
            go_region_held3 (fun w' => KQ wr.heap.size wr w') (first
      | with_reducible exact kq_call (by assumption) (by simp) (by assumption)
      | with_reducible exact kq_grown (by assumption) (by simp) (by assumption) (by simp [Value.ownBlock])
      | ((with_reducible refine kq ?_); (repeat (first | (with_reducible exact Below.refl _ _) | (with_reducible refine Below.drew ?_) | (with_reducible refine Below.alloc ?_ (by simp) _) | (with_reducible refine Below.setCell ?_ (by simp) _) | (with_reducible exact (by assumption : KQ _ _ _).1))); done)) (first | (go_at_call 0; skip))
            have hG : Below w.heap.size w wr.drew := hbr.drew
            go_wp2
            go_roundg (n + 1 - (k + 1))
            case measure => omega
            case rel => exact ⟨k + 1, by omega, rfl, by go_num, hT.out, hG⟩
          · have hT : Hid (false = r) := Lib.hid (by
              rw [← hrH.out]; symm; apply decide_eq_false; intro e; subst e
              have := hpH.out.symm.trans hqH.out
              simp at this; exact h2 this)
            clear hiff
            go_wp2
            go_region_held3 (fun w' => KQ wr.heap.size wr w') (first
      | with_reducible exact kq_call (by assumption) (by simp) (by assumption)
      | with_reducible exact kq_grown (by assumption) (by simp) (by assumption) (by simp [Value.ownBlock])
      | ((with_reducible refine kq ?_); (repeat (first | (with_reducible exact Below.refl _ _) | (with_reducible refine Below.drew ?_) | (with_reducible refine Below.alloc ?_ (by simp) _) | (with_reducible refine Below.setCell ?_ (by simp) _) | (with_reducible exact (by assumption : KQ _ _ _).1))); done)) (first | (go_at_call 0; skip))
            have hG : Below w.heap.size w wr.drew := hbr.drew
            go_wp2
            go_ret
            exact ⟨ret_bool hT.out, hG⟩
        · have hT : Hid (false = r) := Lib.hid (by
              rw [← hrH.out]; symm; apply decide_eq_false; intro e; subst e
              have := hpH.out.symm.trans hqH.out
              simp at this; exact h1 this.1)
          clear hiff
          go_wp2
          go_region_held3 (fun w' => KQ wr.heap.size wr w') (first
      | with_reducible exact kq_call (by assumption) (by simp) (by assumption)
      | with_reducible exact kq_grown (by assumption) (by simp) (by assumption) (by simp [Value.ownBlock])
      | ((with_reducible refine kq ?_); (repeat (first | (with_reducible exact Below.refl _ _) | (with_reducible refine Below.drew ?_) | (with_reducible refine Below.alloc ?_ (by simp) _) | (with_reducible refine Below.setCell ?_ (by simp) _) | (with_reducible exact (by assumption : KQ _ _ _).1))); done)) (first | (go_at_call 0; skip))
          have hG : Below w.heap.size w wr.drew := hbr.drew
          go_wp2
          go_ret
          exact ⟨ret_bool hT.out, hG⟩
      · have hT : Hid (true = r) := Lib.hid (by
          rw [← hrH.out]; symm; apply decide_eq_true
          rw [List.take_of_length_le (by omega), List.take_of_length_le (by omega)] at htk
          exact htk)
        go_wp2
        go_ret
        exact ⟨ret_bool hT.out, hbr⟩
  · have hT : Hid (false = r) := Lib.hid (by
      rw [← hrH.out]; symm; apply decide_eq_false; rintro rfl; omega)
    have hd : ((n : Int) != (m : Int)) = true := by simpa using hnm
    go_enter Try.func19, Try.ntmps19
    go_wp2
    go_ret
    exact ⟨ret_bool hT.out, Below.refl _ _⟩

set_option maxRecDepth 100000 in
set_option maxHeartbeats 1000000 in
theorem csame_any (v u : Vm) (A B : Option Addr) (n m c d : Nat) (xs ys : List Im) (w : World) (hA : RdI w w.heap.size A n xs) (hB : RdI w w.heap.size B m ys) (hn : n ≤ maxLen) (hm : m ≤ maxLen) :
    Calls Try.prog 8 #[.agg #[.int .u32 v.d0, .int .u32 v.d1, .int .u32 v.d2, .int .u32 v.d3, .int .u32 v.d4, .int .u32 v.d5, .int .u32 v.d6, .int .u32 v.d7, .slice A n c], .agg #[.int .u32 u.d0, .int .u32 u.d1, .int .u32 u.d2, .int .u32 u.d3, .int .u32 u.d4, .int .u32 u.d5, .int .u32 u.d6, .int .u32 u.d7, .slice B m d]] w fun e w' => e = .returned (.bool (eqV v u && decide (xs = ys))) ∧ Below w.heap.size w w' := by
  have hb0 : Below w.heap.size w ((w.alloc (.cells #[.int .u32 v.d0, .int .u32 v.d1, .int .u32 v.d2, .int .u32 v.d3, .int .u32 v.d4, .int .u32 v.d5, .int .u32 v.d6, .int .u32 v.d7, .slice A n c] 30)).alloc (.cells #[.int .u32 u.d0, .int .u32 u.d1, .int .u32 u.d2, .int .u32 u.d3, .int .u32 u.d4, .int .u32 u.d5, .int .u32 u.d6, .int .u32 u.d7, .slice B m d] 30)) := ((Below.refl _ w).alloc (Nat.le_refl _) _).alloc (by simp) _
  have hbA : ((w.alloc (.cells #[.int .u32 v.d0, .int .u32 v.d1, .int .u32 v.d2, .int .u32 v.d3, .int .u32 v.d4, .int .u32 v.d5, .int .u32 v.d6, .int .u32 v.d7, .slice A n c] 30)).alloc (.cells #[.int .u32 u.d0, .int .u32 u.d1, .int .u32 u.d2, .int .u32 u.d3, .int .u32 u.d4, .int .u32 u.d5, .int .u32 u.d6, .int .u32 u.d7, .slice B m d] 30)).heap[w.heap.size]? = some (.cells #[.int .u32 v.d0, .int .u32 v.d1, .int .u32 v.d2, .int .u32 v.d3, .int .u32 v.d4, .int .u32 v.d5, .int .u32 v.d6, .int .u32 v.d7, .slice A n c] 30 (0, 0)) := heap_old _ (by simp) (heap_at _ _ rfl)
  have hbB : ((w.alloc (.cells #[.int .u32 v.d0, .int .u32 v.d1, .int .u32 v.d2, .int .u32 v.d3, .int .u32 v.d4, .int .u32 v.d5, .int .u32 v.d6, .int .u32 v.d7, .slice A n c] 30)).alloc (.cells #[.int .u32 u.d0, .int .u32 u.d1, .int .u32 u.d2, .int .u32 u.d3, .int .u32 u.d4, .int .u32 u.d5, .int .u32 u.d6, .int .u32 u.d7, .slice B m d] 30)).heap[w.heap.size + 1]? = some (.cells #[.int .u32 u.d0, .int .u32 u.d1, .int .u32 u.d2, .int .u32 u.d3, .int .u32 u.d4, .int .u32 u.d5, .int .u32 u.d6, .int .u32 u.d7, .slice B m d] 30 (0, 0)) := heap_at _ _ (by simp)
  generalize hW : ((w.alloc (.cells #[.int .u32 v.d0, .int .u32 v.d1, .int .u32 v.d2, .int .u32 v.d3, .int .u32 v.d4, .int .u32 v.d5, .int .u32 v.d6, .int .u32 v.d7, .slice A n c] 30)).alloc (.cells #[.int .u32 u.d0, .int .u32 u.d1, .int .u32 u.d2, .int .u32 u.d3, .int .u32 u.d4, .int .u32 u.d5, .int .u32 u.d6, .int .u32 u.d7, .slice B m d] 30)) = W at hb0 hbA hbB
  have hltA := blk_lt hbA
  have hltB := blk_lt hbB
  have hS := Lib.hid (equal_any A B n m c d xs ys W ((hA.below hb0).more hb0.size) ((hB.below hb0).more hb0.size) hn hm)
  have he := eqlV2 v u
  have q0 := blk_cell hbA 0
  have q1 := blk_cell hbA 1
  have q2 := blk_cell hbA 2
  have q3 := blk_cell hbA 3
  have q4 := blk_cell hbA 4
  have q5 := blk_cell hbA 5
  have q6 := blk_cell hbA 6
  have q7 := blk_cell hbA 7
  have q8 := blk_cell hbA 8
  simp at q0 q1 q2 q3 q4 q5 q6 q7 q8
  have s0 := blk_cell hbB 0
  have s1 := blk_cell hbB 1
  have s2 := blk_cell hbB 2
  have s3 := blk_cell hbB 3
  have s4 := blk_cell hbB 4
  have s5 := blk_cell hbB 5
  have s6 := blk_cell hbB 6
  have s7 := blk_cell hbB 7
  have s8 := blk_cell hbB 8
  simp at s0 s1 s2 s3 s4 s5 s6 s7 s8
  cases h : eqV v u with
  | false =>
    rw [h] at he
    go_enter Try.func8, Try.ntmps8
    go_wp2_with fail
    go_ret
    exact ⟨rfl, hb0⟩
  | true =>
    rw [h] at he
    go_enter Try.func8, Try.ntmps8
    go_wp2_with fail
    refine hS.out.mono ?_
    rintro e w1 ⟨rfl, hb⟩
    have hG := hb0.trans (hb.mono hb0.size)
    go_wp2
    go_ret
    exact ⟨rfl, hG⟩
end Go.Proofs.Ytpfohpfgfdeecaa
