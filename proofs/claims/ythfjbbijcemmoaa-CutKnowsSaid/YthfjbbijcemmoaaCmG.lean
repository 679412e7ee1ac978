/- slices.Grow and slices.Concat at names; the document's Join of vectors. -/
import Derived.Test.YthfjbbijcemmoaaVjA
import Derived.Test.YthfjbbijcemmoaaDb
import Derived.Test.YthfjbbijcemmoaaGc
import Derived.Lib.AppendZeros
namespace Go.Proofs.Ythfjbbijcemmoaa
open Go.RowKit

set_option maxRecDepth 100000 in
theorem grow_any (n : Nat) (hn : n ≤ 2200) (w : World) :
    Calls Try.prog 111 #[.slice none 0 0, .int .i64 (n : Int)] w fun e w' => ∃ A c, e = .returned (.slice A 0 c) ∧ Ow w' w.heap.size 35 2 (.slice A 0 c) [] ∧ Below w.heap.size w w' := by
  rcases Nat.eq_zero_or_pos n with rfl | hp
  · go_enter Try.func111, Try.ntmps111
    go_wp2
    go_ret
    exact ⟨none, 0, rfl, Ow.nil_ _ _ _ _, Below.refl _ _⟩
  · obtain ⟨i, z, hi, hz, hs, hby, hzs⟩ := eId.info
    have hr := fun ty => Lib.run_append_nil_zeros (P := Try.prog) (ty := ty) w 22 3 35 i z .i64 .i64 eId.slice Try.underlying3 hi hz n hp (by omega) (by omega) (by rw [hby]; omega)
    have hge := grownCap_ge w n 0 35
    have hle := grownCap_le_maxLen w n 0 35 (by simp [maxLen]; omega)
    have hOw : Ow (w.drew.alloc (.cells (Builtin.zeroCells z.cells n ++ Builtin.zeroCells z.cells (grownCap w n 0 35 - n)) 35)) w.heap.size 35 2 (.slice (some ⟨w.heap.size, 0, none⟩) 0 (grownCap w n 0 35)) [] :=
      ⟨by simp, World.ownsRow_made w.drew _ _ (by simp) hle (by rw [Array.size_append, size_zeroCells, size_zeroCells, hzs]; omega)⟩
    have hB : Below w.heap.size w (w.drew.alloc (.cells (Builtin.zeroCells z.cells n ++ Builtin.zeroCells z.cells (grownCap w n 0 35 - n)) 35)) := (Below.refl _ w).drew.alloc (by simp) _
    generalize grownCap w n 0 35 = cap at *
    generalize (w.drew.alloc (.cells (Builtin.zeroCells z.cells n ++ Builtin.zeroCells z.cells (cap - n)) 35)) = w9 at *
    unfold maxLen at hle
    go_enter Try.func111, Try.ntmps111
    go_wp2_with (at_builtin; refine Lib.wpList_append_run _ rfl _ _ _ _ rfl _ _ rfl rfl _ _ (hr _) ?_)
    go_ret
    exact ⟨_, _, rfl, hOw, hB⟩

set_option maxRecDepth 100000 in
set_option maxHeartbeats 1000000 in
theorem concat_any (B : Nat) (A1 A2 : Option Addr) (n m c1 c2 : Nat) (xs ys : List Im) (w : World) (hb : w.heap[B]? = some (.cells #[.slice A1 n c1, .slice A2 m c2] 22 (0, 0))) (hA : RdI w w.heap.size A1 n xs) (hB : RdI w w.heap.size A2 m ys) (hn : n ≤ 1100) (hm : m ≤ 1100) :
    Calls Try.prog 89 #[.slice (some ⟨B, 0, none⟩) 2 2] w fun e w' => ∃ A c, e = .returned (.slice A (n + m) c) ∧ Ow w' w.heap.size 35 2 (.slice A (n + m) c) ((xs ++ ys).map Im.enc) ∧ Below w.heap.size w w' := by
  have hl := hA.len
  have hl2 := hB.len
  have hlt := blk_lt hb
  have hc0 := blk_cell hb 0
  have hc1 := blk_cell hb 1
  simp at hc0 hc1
  have hbk := Lib.hid hb
  clear hb
  have cG := Lib.hid (grow_any (n + m) (by omega) w)
  go_enter Try.func89, Try.ntmps89
  go_wp2_with fail
  go_loopg [3, 11] 3 (fun g s i wr => (∃ k : Nat, k ≤ 2 ∧ g = 3 - k ∧ s = .int .i64 (if k = 0 then 0 else if k = 1 then (n : Int) else (n : Int) + m) ∧ i = .int .i64 (k : Int)) ∧ w = wr)
  case atStart => exact ⟨⟨0, by omega, rfl, rfl, rfl⟩, rfl⟩
  case round =>
    obtain ⟨⟨k, hk, rfl, rfl, rfl⟩, rfl⟩ := hrel
    obtain rfl | rfl | rfl : k = 0 ∨ k = 1 ∨ k = 2 := by omega
    · simp only [if_true]
      go_wp2
      go_roundg 2
      case measure => omega
      case rel => exact ⟨⟨1, by omega, rfl, by simp, by go_num⟩, rfl⟩
    · simp only [if_neg (show ¬ (1 = 0) by decide), if_true]
      go_wp2
      go_roundg 1
      case measure => omega
      case rel => exact ⟨⟨2, by omega, rfl, by simp, by go_num⟩, rfl⟩
    · simp only [if_neg (show ¬ (2 = 0) by decide), if_neg (show ¬ (2 = 1) by decide)]
      have cG2 := cG.out
      rw [Int.natCast_add] at cG2
      have cG2 := Lib.hid cG2
      go_wp2_with fail
      refine cG2.out.mono ?_
      rintro e w1 ⟨A3, c3, rfl, o3, hb3⟩
      clear hc0 hc1 cG cG2
      go_wp2_with fail
      go_loopg [6, 27] 3 (fun g s i wr => ∃ (k : Nat) (A : Option Addr) (l c : Nat) (L : List Im), k ≤ 2 ∧ g = 3 - k ∧ s = .slice A l c ∧ i = .int .i64 (k : Int) ∧ L = (if k = 0 then [] else if k = 1 then xs else xs ++ ys) ∧ l = L.length ∧ Ow wr w.heap.size 35 2 (.slice A l c) (L.map Im.enc) ∧ Below w.heap.size w wr)
      case atStart => exact ⟨0, A3, 0, c3, [], by omega, rfl, rfl, rfl, rfl, rfl, o3, hb3⟩
      case round =>
        clear hb3 o3
        obtain ⟨k, A, l, c, L, hk, rfl, rfl, rfl, hL, hlen, hown, hbi⟩ := hrel
        have hzi := hbi.size
        have hbB1 := blk_below hbk.out hbi
        have hlt1 := blk_lt hbB1
        have hc0 := blk_cell hbB1 0
        have hc1 := blk_cell hbB1 1
        simp at hc0 hc1
        clear hbB1
        obtain rfl | rfl | rfl : k = 0 ∨ k = 1 ∨ k = 2 := by omega
        · simp only [if_true] at hL
          subst hL
          obtain rfl : l = 0 := hlen
          go_wp2_with (at_builtin; refine wpList_append_rd _ rfl _ _ _ rfl eId (base := w.heap.size) (v := .slice A 0 c) (xs := []) rfl (by simpa using hown) rfl (hA.below hbi) Im.len Im.one (by simp [maxLen]; omega) (by simp; omega) hzi ?_; intro A4 n4 c4 w4 hn4 hown4 hg4 hat4; (obtain rfl : n4 = n := (by rw [hn4]; simp)); clear hn4)
          have hb4 : Below w.heap.size w w4 := hbi.grown hg4 hzi (fun g e => (hown.block g e).1)
          go_roundg 2
          case measure => omega
          case rel => exact ⟨1, A4, n4, c4, xs, by omega, rfl, rfl, by go_num, rfl, hl.symm, by simpa using hown4, hb4⟩
        · simp only [if_neg (show ¬ (1 = 0) by decide), if_true] at hL
          subst hL
          obtain rfl : l = n := by omega
          clear hlen
          go_wp2_with (at_builtin; refine wpList_append_rd _ rfl _ _ _ rfl eId (base := w.heap.size) (v := .slice A l c) (xs := L.map Im.enc) rfl hown rfl (hB.below hbi) Im.len Im.one (by simp [maxLen]; omega) (by simp; omega) hzi ?_; intro A4 n4 c4 w4 hn4 hown4 hg4 hat4; (have hn5 : n4 = l + m := (by rw [hn4]; simp; omega)); clear hn4)
          subst hn5
          have hb4 : Below w.heap.size w w4 := hbi.grown hg4 hzi (fun g e => (hown.block g e).1)
          go_roundg 1
          case measure => omega
          case rel => exact ⟨2, A4, l + m, c4, L ++ ys, by omega, rfl, rfl, by go_num, rfl, by simp; omega, by rw [List.map_append]; exact hown4, hb4⟩
        · simp only [if_neg (show ¬ (2 = 0) by decide), if_neg (show ¬ (2 = 1) by decide)] at hL
          subst hL
          obtain rfl : l = n + m := by rw [hlen]; simp; omega
          go_wp2
          go_ret
          exact ⟨_, _, rfl, hown, hbi⟩

set_option maxRecDepth 100000 in
set_option maxHeartbeats 1000000 in
theorem rvjoin_any (a b : Vm) (ha : a.wf) (hb : b.wf) (w : World) :
    Calls Try.prog 90 #[.agg #[.int .u32 a.d0, .int .u32 a.d1, .int .u32 a.d2, .int .u32 a.d3, .int .u32 a.d4, .int .u32 a.d5, .int .u32 a.d6, .int .u32 a.d7], .agg #[.int .u32 b.d0, .int .u32 b.d1, .int .u32 b.d2, .int .u32 b.d3, .int .u32 b.d4, .int .u32 b.d5, .int .u32 b.d6, .int .u32 b.d7]] w fun e w' => e = .returned (.agg #[.int .u32 (joinV a b).d0, .int .u32 (joinV a b).d1, .int .u32 (joinV a b).d2, .int .u32 (joinV a b).d3, .int .u32 (joinV a b).d4, .int .u32 (joinV a b).d5, .int .u32 (joinV a b).d6, .int .u32 (joinV a b).d7]) ∧ Below w.heap.size w w' := by
  have hbA : (((w.alloc (.cells #[.int .u32 a.d0, .int .u32 a.d1, .int .u32 a.d2, .int .u32 a.d3, .int .u32 a.d4, .int .u32 a.d5, .int .u32 a.d6, .int .u32 a.d7] 25)).alloc (.cells #[.int .u32 b.d0, .int .u32 b.d1, .int .u32 b.d2, .int .u32 b.d3, .int .u32 b.d4, .int .u32 b.d5, .int .u32 b.d6, .int .u32 b.d7] 25)).alloc (.cells #[.int .u32 0, .int .u32 0, .int .u32 0, .int .u32 0, .int .u32 0, .int .u32 0, .int .u32 0, .int .u32 0] 25)).heap[w.heap.size]? = some (.cells #[.int .u32 a.d0, .int .u32 a.d1, .int .u32 a.d2, .int .u32 a.d3, .int .u32 a.d4, .int .u32 a.d5, .int .u32 a.d6, .int .u32 a.d7] 25 (0, 0)) := heap_old _ (by simp; omega) (heap_old _ (by simp) (heap_at _ _ rfl))
  have hbB : (((w.alloc (.cells #[.int .u32 a.d0, .int .u32 a.d1, .int .u32 a.d2, .int .u32 a.d3, .int .u32 a.d4, .int .u32 a.d5, .int .u32 a.d6, .int .u32 a.d7] 25)).alloc (.cells #[.int .u32 b.d0, .int .u32 b.d1, .int .u32 b.d2, .int .u32 b.d3, .int .u32 b.d4, .int .u32 b.d5, .int .u32 b.d6, .int .u32 b.d7] 25)).alloc (.cells #[.int .u32 0, .int .u32 0, .int .u32 0, .int .u32 0, .int .u32 0, .int .u32 0, .int .u32 0, .int .u32 0] 25)).heap[w.heap.size + 1]? = some (.cells #[.int .u32 b.d0, .int .u32 b.d1, .int .u32 b.d2, .int .u32 b.d3, .int .u32 b.d4, .int .u32 b.d5, .int .u32 b.d6, .int .u32 b.d7] 25 (0, 0)) := heap_old _ (by simp) (heap_at _ _ (by simp))
  have hbR : (((w.alloc (.cells #[.int .u32 a.d0, .int .u32 a.d1, .int .u32 a.d2, .int .u32 a.d3, .int .u32 a.d4, .int .u32 a.d5, .int .u32 a.d6, .int .u32 a.d7] 25)).alloc (.cells #[.int .u32 b.d0, .int .u32 b.d1, .int .u32 b.d2, .int .u32 b.d3, .int .u32 b.d4, .int .u32 b.d5, .int .u32 b.d6, .int .u32 b.d7] 25)).alloc (.cells #[.int .u32 0, .int .u32 0, .int .u32 0, .int .u32 0, .int .u32 0, .int .u32 0, .int .u32 0, .int .u32 0] 25)).heap[w.heap.size + 1 + 1]? = some (.cells #[.int .u32 0, .int .u32 0, .int .u32 0, .int .u32 0, .int .u32 0, .int .u32 0, .int .u32 0, .int .u32 0] 25 (0, 0)) := heap_at _ _ (by simp)
  have hb0 : Below w.heap.size w (((w.alloc (.cells #[.int .u32 a.d0, .int .u32 a.d1, .int .u32 a.d2, .int .u32 a.d3, .int .u32 a.d4, .int .u32 a.d5, .int .u32 a.d6, .int .u32 a.d7] 25)).alloc (.cells #[.int .u32 b.d0, .int .u32 b.d1, .int .u32 b.d2, .int .u32 b.d3, .int .u32 b.d4, .int .u32 b.d5, .int .u32 b.d6, .int .u32 b.d7] 25)).alloc (.cells #[.int .u32 0, .int .u32 0, .int .u32 0, .int .u32 0, .int .u32 0, .int .u32 0, .int .u32 0, .int .u32 0] 25)) := (((Below.refl _ w).alloc (Nat.le_refl _) _).alloc (by simp) _).alloc (by simp; omega) _
  go_enter Try.func90, Try.ntmps90
  go_wp2_with fail
  go_loopg [5] 9 (fun g i wr => ∃ k : Nat, k ≤ 8 ∧ g = 9 - k ∧ i = .int .i64 (k : Int) ∧ wr.heap[w.heap.size]? = some (.cells #[.int .u32 (joinK a b k).d0, .int .u32 (joinK a b k).d1, .int .u32 (joinK a b k).d2, .int .u32 (joinK a b k).d3, .int .u32 (joinK a b k).d4, .int .u32 (joinK a b k).d5, .int .u32 (joinK a b k).d6, .int .u32 (joinK a b k).d7] 25 (0, 0)) ∧ wr.heap[w.heap.size + 1]? = some (.cells #[.int .u32 b.d0, .int .u32 b.d1, .int .u32 b.d2, .int .u32 b.d3, .int .u32 b.d4, .int .u32 b.d5, .int .u32 b.d6, .int .u32 b.d7] 25 (0, 0)) ∧ wr.heap[w.heap.size + 1 + 1]? = some (.cells #[.int .u32 0, .int .u32 0, .int .u32 0, .int .u32 0, .int .u32 0, .int .u32 0, .int .u32 0, .int .u32 0] 25 (0, 0)) ∧ Below w.heap.size w wr)
  case atStart => exact ⟨0, by omega, rfl, rfl, hbA, hbB, hbR, hb0⟩
  case round =>
    clear hbA hbB hbR hb0
    obtain ⟨k, hk, rfl, rfl, hbA, hbB, hbR, hB⟩ := hrel
    have hlt := blk_lt hbA
    have hltB := blk_lt hbB
    have hltR := blk_lt hbR
    by_cases hlk : k < 8
    · have hcv : wr.cell? ⟨w.heap.size, k, none⟩ = some (.int .u32 ((joinK a b k).get k)) := by rw [blk_cell hbA]; exact get_cells _ k hlk
      have hcb : wr.cell? ⟨w.heap.size + 1, k, none⟩ = some (.int .u32 (b.get k)) := by rw [blk_cell hbB]; exact get_cells _ k hlk
      have hfA := blk_frozen hbA
      have hki : (k : Int) < 8 := by omega
      have hk0 : (0 : Int) ≤ (k : Int) := by omega
      have hbA2 : (wr.setCell ⟨w.heap.size, k, none⟩ (.int .u32 (max ((joinK a b k).get k) (b.get k)))).heap[w.heap.size]? = some (.cells #[.int .u32 (joinK a b (k + 1)).d0, .int .u32 (joinK a b (k + 1)).d1, .int .u32 (joinK a b (k + 1)).d2, .int .u32 (joinK a b (k + 1)).d3, .int .u32 (joinK a b (k + 1)).d4, .int .u32 (joinK a b (k + 1)).d5, .int .u32 (joinK a b (k + 1)).d6, .int .u32 (joinK a b (k + 1)).d7] 25 (0, 0)) := by rw [blk_set hbA, set_cells _ k hlk]; rfl
      have hbB2 : (wr.setCell ⟨w.heap.size, k, none⟩ (.int .u32 (max ((joinK a b k).get k) (b.get k)))).heap[w.heap.size + 1]? = some (.cells #[.int .u32 b.d0, .int .u32 b.d1, .int .u32 b.d2, .int .u32 b.d3, .int .u32 b.d4, .int .u32 b.d5, .int .u32 b.d6, .int .u32 b.d7] 25 (0, 0)) := heap_set_ne (by dsimp only; omega) hbB
      have hbR2 : (wr.setCell ⟨w.heap.size, k, none⟩ (.int .u32 (max ((joinK a b k).get k) (b.get k)))).heap[w.heap.size + 1 + 1]? = some (.cells #[.int .u32 0, .int .u32 0, .int .u32 0, .int .u32 0, .int .u32 0, .int .u32 0, .int .u32 0, .int .u32 0] 25 (0, 0)) := heap_set_ne (by dsimp only; omega) hbR
      have hB2 : Below w.heap.size w (wr.setCell ⟨w.heap.size, k, none⟩ (.int .u32 (max ((joinK a b k).get k) (b.get k)))) := hB.setCell (Nat.le_refl _) _
      clear hbA hbB hbR
      generalize (joinK a b k).get (k : Int) = y at *
      generalize b.get (k : Int) = z at *
      by_cases hyz : y < z
      · rw [show max y z = z from by omega] at hbA2 hbB2 hbR2 hB2
        have hbA2 := Lib.hid hbA2
        have hbB2 := Lib.hid hbB2
        have hbR2 := Lib.hid hbR2
        have hB2 := Lib.hid hB2
        go_wp2
        go_region
        go_wp2
        go_roundg (9 - (k + 1))
        case measure => omega
        case rel => exact ⟨k + 1, by omega, rfl, by go_num, hbA2.out, hbB2.out, hbR2.out, hB2.out.drew⟩
      · rw [show max y z = y from by omega] at hbA2 hbB2 hbR2 hB2
        have hbA2 := Lib.hid hbA2
        have hbB2 := Lib.hid hbB2
        have hbR2 := Lib.hid hbR2
        have hB2 := Lib.hid hB2
        go_wp2
        go_region
        go_wp2
        go_roundg (9 - (k + 1))
        case measure => omega
        case rel => exact ⟨k + 1, by omega, rfl, by go_num, hbA2.out, hbB2.out, hbR2.out, hB2.out.drew⟩
    · obtain rfl : k = 8 := by omega
      have q0 := blk_cell hbA 0
      have q1 := blk_cell hbA 1
      have q2 := blk_cell hbA 2
      have q3 := blk_cell hbA 3
      have q4 := blk_cell hbA 4
      have q5 := blk_cell hbA 5
      have q6 := blk_cell hbA 6
      have q7 := blk_cell hbA 7
      simp at q0 q1 q2 q3 q4 q5 q6 q7
      have r0 := blk_cell hbR 0
      have r1 := blk_cell hbR 1
      have r2 := blk_cell hbR 2
      have r3 := blk_cell hbR 3
      have r4 := blk_cell hbR 4
      have r5 := blk_cell hbR 5
      have r6 := blk_cell hbR 6
      have r7 := blk_cell hbR 7
      simp at r0 r1 r2 r3 r4 r5 r6 r7
      have hfR := blk_frozen hbR
      go_wp2
      refine bodyPost_ret (v := .agg #[.int .u32 (joinV a b).d0, .int .u32 (joinV a b).d1, .int .u32 (joinV a b).d2, .int .u32 (joinV a b).d3, .int .u32 (joinV a b).d4, .int .u32 (joinV a b).d5, .int .u32 (joinV a b).d6, .int .u32 (joinV a b).d7]) (by simp [results, Try.results90, go_sem, r0, r1, r2, r3, r4, r5, r6, r7, joinV]) rfl ⟨rfl, ?_⟩
      repeat (first | (with_reducible exact hB) | (with_reducible refine Below.drew ?_) | (with_reducible refine Below.alloc ?_ (by first | (simp; done) | (simp; omega) | omega) _) | (with_reducible refine Below.setCell ?_ (by first | (simp; done) | (simp; omega) | omega) _))
end Go.Proofs.Ythfjbbijcemmoaa
