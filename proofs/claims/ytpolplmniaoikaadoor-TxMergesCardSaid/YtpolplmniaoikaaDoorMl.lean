/- slices.Grow and Concat at parts; slices.Equal at tags. -/
import Derived.Test.YtpolplmniaoikaaDoorM39
import Derived.Test.YtpolplmniaoikaaDoorN22
import Derived.Test.YtpolplmniaoikaaDoorN14
import Derived.Lib.AppendZeros
namespace Go.Proofs.YtpolplmniaoikaaDoor
open Go.RowKit

theorem take_succ_eqX {α : Type} {xs ys : List α} {k : Nat} {x y : α} (h : xs.take k = ys.take k) (hx : xs[k]? = some x) (hy : ys[k]? = some y) : xs.take (k + 1) = ys.take (k + 1) ↔ x = y := by
  rw [List.take_add_one, List.take_add_one, h, hx, hy]
  simp
set_option maxRecDepth 100000 in
theorem growX_any (n : Nat) (hn : n ≤ 2200) (w : World) :
    Calls Tryd.prog 28 #[.slice none 0 0, .int .i64 (n : Int)] w fun e w' => ∃ A c, e = .returned (.slice A 0 c) ∧ Ow w' w.heap.size 69 10 (.slice A 0 c) [] ∧ Below w.heap.size w w' := by
  rcases Nat.eq_zero_or_pos n with rfl | hp
  · go_enter Tryd.func28, Tryd.ntmps28
    go_wp2
    go_ret
    exact ⟨none, 0, rfl, Ow.nil_ _ _ _ _, Below.refl _ _⟩
  · obtain ⟨i, z, hi, hz, hs, hby, hzs⟩ := ePart.info
    have hr := fun ty => Lib.run_append_nil_zeros (P := Tryd.prog) (ty := ty) w 31 3 69 i z .i64 .i64 ePart.slice Tryd.underlying3 hi hz n hp (by omega) (by omega) (by rw [hby]; omega)
    have hge := grownCap_ge w n 0 69
    have hle := grownCap_le_maxLen w n 0 69 (by simp [maxLen]; omega)
    have hOw : Ow (w.drew.alloc (.cells (Builtin.zeroCells z.cells n ++ Builtin.zeroCells z.cells (grownCap w n 0 69 - n)) 69)) w.heap.size 69 10 (.slice (some ⟨w.heap.size, 0, none⟩) 0 (grownCap w n 0 69)) [] :=
      ⟨by simp, World.ownsRow_made w.drew _ _ (by simp) hle (by rw [Array.size_append, size_zeroCells, size_zeroCells, hzs]; omega)⟩
    have hB : Below w.heap.size w (w.drew.alloc (.cells (Builtin.zeroCells z.cells n ++ Builtin.zeroCells z.cells (grownCap w n 0 69 - n)) 69)) := (Below.refl _ w).drew.alloc (by simp) _
    generalize grownCap w n 0 69 = cap at *
    generalize (w.drew.alloc (.cells (Builtin.zeroCells z.cells n ++ Builtin.zeroCells z.cells (cap - n)) 69)) = w9 at *
    unfold maxLen at hle
    go_enter Tryd.func28, Tryd.ntmps28
    go_wp2_with (at_builtin; refine Lib.wpList_append_run _ rfl _ _ _ _ rfl _ _ rfl rfl _ _ (hr _) ?_)
    go_ret
    exact ⟨_, _, rfl, hOw, hB⟩

set_option maxRecDepth 100000 in
set_option maxHeartbeats 1000000 in
theorem concatX_any (B : Nat) (A1 A2 : Option Addr) (n m c1 c2 : Nat) (xs ys : List Pe) (w : World) (hb : w.heap[B]? = some (.cells #[.slice A1 n c1, .slice A2 m c2] 31 (0, 0))) (hA : Rd w w.heap.size 10 A1 n (xs.map Pe.enc)) (hB : Rd w w.heap.size 10 A2 m (ys.map Pe.enc)) (hn : n ≤ 1100) (hm : m ≤ 1100) :
    Calls Tryd.prog 13 #[.slice (some ⟨B, 0, none⟩) 2 2] w fun e w' => ∃ A c, e = .returned (.slice A (n + m) c) ∧ Ow w' w.heap.size 69 10 (.slice A (n + m) c) ((xs ++ ys).map Pe.enc) ∧ Below w.heap.size w w' := by
  have hl : xs.length = n := by simpa using hA.1
  have hl2 : ys.length = m := by simpa using hB.1
  have hlt := blk_lt hb
  have hc0 := blk_cell hb 0
  have hc1 := blk_cell hb 1
  simp at hc0 hc1
  have hbk := Lib.hid hb
  clear hb
  have cG := Lib.hid (growX_any (n + m) (by omega) w)
  go_enter Tryd.func13, Tryd.ntmps13
  go_wp2_with fail
  go_loopg [3, 11] 3 (fun g s i wr => (∃ k : Nat, k ≤ 2 ∧ g = 3 - k ∧ s = .int .i64 (if k = 0 then 0 else if k = 1 then (n : Int) else (n : Int) + m) ∧ i = .int .i64 (k : Int)) ∧ w = wr)
  case atStart => exact ⟨⟨0, by omega, rfl, rfl, rfl⟩, rfl⟩
  case round =>
    obtain ⟨⟨k, hk, rfl, rfl, rfl⟩, rfl⟩ := hrel
    obtain rfl | rfl | rfl : k = 0 ∨ k = 1 ∨ k = 2 := by omega
    · simp only [if_true]
      go_wp2
      go_roundg 2
      case measure => omega
      case rel => exact ⟨⟨1, by omega, rfl, by simp, by go_num⟩, rfl⟩
    · simp only [if_neg (show ¬ (1 = 0) by decide), if_true]
      go_wp2
      go_roundg 1
      case measure => omega
      case rel => exact ⟨⟨2, by omega, rfl, by simp, by go_num⟩, rfl⟩
    · simp only [if_neg (show ¬ (2 = 0) by decide), if_neg (show ¬ (2 = 1) by decide)]
      have cG2 := cG.out
      rw [Int.natCast_add] at cG2
      have cG2 := Lib.hid cG2
      go_wp2_with fail
      refine cG2.out.mono ?_
      rintro e w1 ⟨A3, c3, rfl, o3, hb3⟩
      clear hc0 hc1 cG cG2
      go_wp2_with fail
      go_loopg [6, 27] 3 (fun g s i wr => ∃ (k : Nat) (A : Option Addr) (l c : Nat) (L : List Pe), k ≤ 2 ∧ g = 3 - k ∧ s = .slice A l c ∧ i = .int .i64 (k : Int) ∧ L = (if k = 0 then [] else if k = 1 then xs else xs ++ ys) ∧ l = L.length ∧ Ow wr w.heap.size 69 10 (.slice A l c) (L.map Pe.enc) ∧ Below w.heap.size w wr)
      case atStart => exact ⟨0, A3, 0, c3, [], by omega, rfl, rfl, rfl, rfl, rfl, o3, hb3⟩
      case round =>
        clear hb3 o3
        obtain ⟨k, A, l, c, L, hk, rfl, rfl, rfl, hL, hlen, hown, hbi⟩ := hrel
        have hzi := hbi.size
        have hbB1 := blk_below hbk.out hbi
        have hlt1 := blk_lt hbB1
        have hc0 := blk_cell hbB1 0
        have hc1 := blk_cell hbB1 1
        simp at hc0 hc1
        clear hbB1
        obtain rfl | rfl | rfl : k = 0 ∨ k = 1 ∨ k = 2 := by omega
        · simp only [if_true] at hL
          subst hL
          obtain rfl : l = 0 := hlen
          go_wp2_with (at_builtin; refine wpList_append_rd _ rfl _ _ _ rfl ePart (base := w.heap.size) (v := .slice A 0 c) (xs := []) rfl (by simpa using hown) rfl (hA.below hbi) Pe.len Pe.one (by simp [maxLen]; omega) (by simp; omega) hzi ?_; intro A4 n4 c4 w4 hn4 hown4 hg4 hat4; (obtain rfl : n4 = n := (by rw [hn4]; simp)); clear hn4)
          have hb4 : Below w.heap.size w w4 := hbi.grown hg4 hzi (fun g e => (hown.block g e).1)
          go_roundg 2
          case measure => omega
          case rel => exact ⟨1, A4, n4, c4, xs, by omega, rfl, rfl, by go_num, rfl, hl.symm, by simpa using hown4, hb4⟩
        · simp only [if_neg (show ¬ (1 = 0) by decide), if_true] at hL
          subst hL
          obtain rfl : l = n := by omega
          clear hlen
          go_wp2_with (at_builtin; refine wpList_append_rd _ rfl _ _ _ rfl ePart (base := w.heap.size) (v := .slice A l c) (xs := L.map Pe.enc) rfl hown rfl (hB.below hbi) Pe.len Pe.one (by simp [maxLen]; omega) (by simp; omega) hzi ?_; intro A4 n4 c4 w4 hn4 hown4 hg4 hat4; (have hn5 : n4 = l + m := (by rw [hn4]; simp; omega)); clear hn4)
          subst hn5
          have hb4 : Below w.heap.size w w4 := hbi.grown hg4 hzi (fun g e => (hown.block g e).1)
          go_roundg 1
          case measure => omega
          case rel => exact ⟨2, A4, l + m, c4, L ++ ys, by omega, rfl, rfl, by go_num, rfl, by simp; omega, by rw [List.map_append]; exact hown4, hb4⟩
        · simp only [if_neg (show ¬ (2 = 0) by decide), if_neg (show ¬ (2 = 1) by decide)] at hL
          subst hL
          obtain rfl : l = n + m := by rw [hlen]; simp; omega
          go_wp2
          go_ret
          exact ⟨_, _, rfl, hown, hbi⟩

set_option maxRecDepth 100000 in
theorem equalT_any (A B : Option Addr) (n m c d : Nat) (xs ys : List Tm) (w : World) (hA : RdT w w.heap.size A n xs) (hB : RdT w w.heap.size B m ys) (hn : n ≤ maxLen) (hm : m ≤ maxLen) :
    Calls Tryd.prog 31 #[.slice A n c, .slice B m d] w fun e w' => e = .returned (.bool (decide (xs = ys))) ∧ Below w.heap.size w w' := by
  have hl := hA.len
  have hl2 := hB.len
  unfold maxLen at hn hm
  generalize hr : decide (xs = ys) = r
  have hrH := Lib.hid hr
  clear hr
  by_cases hnm : (n : Int) = (m : Int)
  · obtain rfl : n = m := by omega
    clear hnm
    go_enter Tryd.func31, Tryd.ntmps31
    go_wp2
    go_loopg [13] (n + 1) (fun g i wr => ∃ k : Nat, k ≤ n ∧ g = n + 1 - k ∧ i = .int .i64 (k : Int) ∧ xs.take k = ys.take k ∧ Below w.heap.size w wr)
    case atStart => exact ⟨0, Nat.zero_le _, rfl, rfl, rfl, Below.refl _ _⟩
    case round =>
      obtain ⟨k, hk, rfl, rfl, htk, hbr⟩ := hrel
      have hz := hbr.size
      by_cases hlt : k < n
      · obtain ⟨bA, oA, x, rfl, hbA, hp, hcp⟩ := (hA.below hbr).at_ hlt
        obtain ⟨bB, oB, y, rfl, hbB, hq, hcq⟩ := (hB.below hbr).at_ hlt
        have p0 := hcp 0 _ rfl
        have p1 := hcp 1 _ rfl
        have p2 := hcp 2 _ rfl
        have q0 := hcq 0 _ rfl
        have q1 := hcq 1 _ rfl
        have q2 := hcq 2 _ rfl
        rw [Nat.add_zero] at p0 q0
        clear hcp hcq
        have hbA2 : bA < wr.heap.size := by omega
        have hbB2 : bB < wr.heap.size := by omega
        have hiff := Lib.hid (take_succ_eqX htk hp hq)
        have hpH := Lib.hid hp
        have hqH := Lib.hid hq
        clear htk hp hq
        have hq0 : KQ wr.heap.size wr wr := kq (Below.refl _ _)
        obtain ⟨⟨x1, x2⟩, x3⟩ := x
        obtain ⟨⟨y1, y2⟩, y3⟩ := y
        dsimp only at p0 p1 p2 q0 q1 q2
        by_cases h1 : x1 = y1
        · subst h1
          by_cases h2 : x2 = y2
          · subst h2
            by_cases h3 : x3 = y3
            · subst h3
              have hT := Lib.hid (hiff.out.2 rfl)
              clear hiff
              go_wp2
              go_region_held3 (fun w' => KQ wr.heap.size wr w') (first
      | with_reducible exact kq_call (by assumption) (by simp) (by assumption)
      | with_reducible exact kq_grown (by assumption) (by simp) (by assumption) (by simp [Value.ownBlock])
      | ((with_reducible refine kq ?_); (repeat (first | (with_reducible exact Below.refl _ _) | (with_reducible refine Below.drew ?_) | (with_reducible refine Below.alloc ?_ (by simp) _) | (with_reducible refine Below.setCell ?_ (by simp) _) | (with_reducible exact (by assumption : KQ _ _ _).1))); done)) (first | (go_at_call 0; skip))
              have hG : Below w.heap.size w wr.drew := hbr.drew
              go_wp2
              go_roundg (n + 1 - (k + 1))
              case measure => omega
              case rel => exact ⟨k + 1, by omega, rfl, by go_num, hT.out, hG⟩
            · have hT : Hid (false = r) := Lib.hid (by
                rw [← hrH.out]; symm; apply decide_eq_false; intro e; subst e
                have := hpH.out.symm.trans hqH.out
                simp at this; exact h3 this)
              clear hiff
              go_wp2
              go_region_held3 (fun w' => KQ wr.heap.size wr w') (first
      | with_reducible exact kq_call (by assumption) (by simp) (by assumption)
      | with_reducible exact kq_grown (by assumption) (by simp) (by assumption) (by simp [Value.ownBlock])
      | ((with_reducible refine kq ?_); (repeat (first | (with_reducible exact Below.refl _ _) | (with_reducible refine Below.drew ?_) | (with_reducible refine Below.alloc ?_ (by simp) _) | (with_reducible refine Below.setCell ?_ (by simp) _) | (with_reducible exact (by assumption : KQ _ _ _).1))); done)) (first | (go_at_call 0; skip))
              have hG : Below w.heap.size w wr.drew := hbr.drew
              go_wp2
              go_ret
              exact ⟨ret_bool hT.out, hG⟩
          · have hT : Hid (false = r) := Lib.hid (by
              rw [← hrH.out]; symm; apply decide_eq_false; intro e; subst e
              have := hpH.out.symm.trans hqH.out
              simp at this; exact h2 this.1)
            clear hiff
            go_wp2
            go_region_held3 (fun w' => KQ wr.heap.size wr w') (first
      | with_reducible exact kq_call (by assumption) (by simp) (by assumption)
      | with_reducible exact kq_grown (by assumption) (by simp) (by assumption) (by simp [Value.ownBlock])
      | ((with_reducible refine kq ?_); (repeat (first | (with_reducible exact Below.refl _ _) | (with_reducible refine Below.drew ?_) | (with_reducible refine Below.alloc ?_ (by simp) _) | (with_reducible refine Below.setCell ?_ (by simp) _) | (with_reducible exact (by assumption : KQ _ _ _).1))); done)) (first | (go_at_call 0; skip))
            have hG : Below w.heap.size w wr.drew := hbr.drew
            go_wp2
            go_ret
            exact ⟨ret_bool hT.out, hG⟩
        · have hT : Hid (false = r) := Lib.hid (by
              rw [← hrH.out]; symm; apply decide_eq_false; intro e; subst e
              have := hpH.out.symm.trans hqH.out
              simp at this; exact h1 this.1.1)
          clear hiff
          go_wp2
          go_region_held3 (fun w' => KQ wr.heap.size wr w') (first
      | with_reducible exact kq_call (by assumption) (by simp) (by assumption)
      | with_reducible exact kq_grown (by assumption) (by simp) (by assumption) (by simp [Value.ownBlock])
      | ((with_reducible refine kq ?_); (repeat (first | (with_reducible exact Below.refl _ _) | (with_reducible refine Below.drew ?_) | (with_reducible refine Below.alloc ?_ (by simp) _) | (with_reducible refine Below.setCell ?_ (by simp) _) | (with_reducible exact (by assumption : KQ _ _ _).1))); done)) (first | (go_at_call 0; skip))
          have hG : Below w.heap.size w wr.drew := hbr.drew
          go_wp2
          go_ret
          exact ⟨ret_bool hT.out, hG⟩
      · have hT : Hid (true = r) := Lib.hid (by
          rw [← hrH.out]; symm; apply decide_eq_true
          rw [List.take_of_length_le (by omega), List.take_of_length_le (by omega)] at htk
          exact htk)
        go_wp2
        go_ret
        exact ⟨ret_bool hT.out, hbr⟩
  · have hT : Hid (false = r) := Lib.hid (by
      rw [← hrH.out]; symm; apply decide_eq_false; rintro rfl; omega)
    have hd : ((n : Int) != (m : Int)) = true := by simpa using hnm
    go_enter Tryd.func31, Tryd.ntmps31
    go_wp2
    go_ret
    exact ⟨ret_bool hT.out, Below.refl _ _⟩

end Go.Proofs.YtpolplmniaoikaaDoor
