/- slices.Grow and slices.Concat at names; the document's Join of vectors. -/
import Derived.Test.YtpfohpfgfdeecaaVjA
import Derived.Test.YtpfohpfgfdeecaaDb
import Derived.Test.YtpfohpfgfdeecaaGc
import Derived.Lib.AppendZeros
namespace Go.Proofs.Ytpfohpfgfdeecaa
open Go.RowKit

set_option maxRecDepth 100000 in
theorem grow_any (n : Nat) (hn : n ≤ 2200) (w : World) :
    Calls Try.prog 36 #[.slice none 0 0, .int .i64 (n : Int)] w fun e w' => ∃ A c, e = .returned (.slice A 0 c) ∧ Ow w' w.heap.size 37 2 (.slice A 0 c) [] ∧ Below w.heap.size w w' := by
  rcases Nat.eq_zero_or_pos n with rfl | hp
  · go_enter Try.func36, Try.ntmps36
    go_wp2
    go_ret
    exact ⟨none, 0, rfl, Ow.nil_ _ _ _ _, Below.refl _ _⟩
  · obtain ⟨i, z, hi, hz, hs, hby, hzs⟩ := eId.info
    have hr := fun ty => Lib.run_append_nil_zeros (P := Try.prog) (ty := ty) w 25 3 37 i z .i64 .i64 eId.slice Try.underlying3 hi hz n hp (by omega) (by omega) (by rw [hby]; omega)
    have hge := grownCap_ge w n 0 37
    have hle := grownCap_le_maxLen w n 0 37 (by simp [maxLen]; omega)
    have hOw : Ow (w.drew.alloc (.cells (Builtin.zeroCells z.cells n ++ Builtin.zeroCells z.cells (grownCap w n 0 37 - n)) 37)) w.heap.size 37 2 (.slice (some ⟨w.heap.size, 0, none⟩) 0 (grownCap w n 0 37)) [] :=
      ⟨by simp, World.ownsRow_made w.drew _ _ (by simp) hle (by rw [Array.size_append, size_zeroCells, size_zeroCells, hzs]; omega)⟩
    have hB : Below w.heap.size w (w.drew.alloc (.cells (Builtin.zeroCells z.cells n ++ Builtin.zeroCells z.cells (grownCap w n 0 37 - n)) 37)) := (Below.refl _ w).drew.alloc (by simp) _
    generalize grownCap w n 0 37 = cap at *
    generalize (w.drew.alloc (.cells (Builtin.zeroCells z.cells n ++ Builtin.zeroCells z.cells (cap - n)) 37)) = w9 at *
    unfold maxLen at hle
    go_enter Try.func36, Try.ntmps36
    go_wp2_with (at_builtin; refine Lib.wpList_append_run _ rfl _ _ _ _ rfl _ _ rfl rfl _ _ (hr _) ?_)
    go_ret
    exact ⟨_, _, rfl, hOw, hB⟩

set_option maxRecDepth 100000 in
set_option maxHeartbeats 1000000 in
theorem concat_any (B : Nat) (A1 A2 : Option Addr) (n m c1 c2 : Nat) (xs ys : List Im) (w : World) (hb : w.heap[B]? = some (.cells #[.slice A1 n c1, .slice A2 m c2] 25 (0, 0))) (hA : RdI w w.heap.size A1 n xs) (hB : RdI w w.heap.size A2 m ys) (hn : n ≤ 1100) (hm : m ≤ 1100) :
    Calls Try.prog 23 #[.slice (some ⟨B, 0, none⟩) 2 2] w fun e w' => ∃ A c, e = .returned (.slice A (n + m) c) ∧ Ow w' w.heap.size 37 2 (.slice A (n + m) c) ((xs ++ ys).map Im.enc) ∧ Below w.heap.size w w' := by
  have hl := hA.len
  have hl2 := hB.len
  have hlt := blk_lt hb
  have hc0 := blk_cell hb 0
  have hc1 := blk_cell hb 1
  simp at hc0 hc1
  have hbk := Lib.hid hb
  clear hb
  have cG := Lib.hid (grow_any (n + m) (by omega) w)
  go_enter Try.func23, Try.ntmps23
  go_wp2_with fail
  go_loopg [3, 11] 3 (fun g s i wr => (∃ k : Nat, k ≤ 2 ∧ g = 3 - k ∧ s = .int .i64 (if k = 0 then 0 else if k = 1 then (n : Int) else (n : Int) + m) ∧ i = .int .i64 (k : Int)) ∧ w = wr)
  case atStart => exact ⟨⟨0, by omega, rfl, rfl, rfl⟩, rfl⟩
  case round =>
    obtain ⟨⟨k, hk, rfl, rfl, rfl⟩, rfl⟩ := hrel
    obtain rfl | rfl | rfl : k = 0 ∨ k = 1 ∨ k = 2 := by omega
    · simp only [if_true]
      go_wp2
      go_roundg 2
      case measure => omega
      case rel => exact ⟨⟨1, by omega, rfl, by simp, by go_num⟩, rfl⟩
    · simp only [if_neg (show ¬ (1 = 0) by decide), if_true]
      go_wp2
      go_roundg 1
      case measure => omega
      case rel => exact ⟨⟨2, by omega, rfl, by simp, by go_num⟩, rfl⟩
    · simp only [if_neg (show ¬ (2 = 0) by decide), if_neg (show ¬ (2 = 1) by decide)]
      have cG2 := cG.out
      rw [Int.natCast_add] at cG2
      have cG2 := Lib.hid cG2
      go_wp2_with fail
      refine cG2.out.mono ?_
      rintro e w1 ⟨A3, c3, rfl, o3, hb3⟩
      clear hc0 hc1 cG cG2
      go_wp2_with fail
      go_loopg [6, 27] 3 (fun g s i wr => ∃ (k : Nat) (A : Option Addr) (l c : Nat) (L : List Im), k ≤ 2 ∧ g = 3 - k ∧ s = .slice A l c ∧ i = .int .i64 (k : Int) ∧ L = (if k = 0 then [] else if k = 1 then xs else xs ++ ys) ∧ l = L.length ∧ Ow wr w.heap.size 37 2 (.slice A l c) (L.map Im.enc) ∧ Below w.heap.size w wr)
      case atStart => exact ⟨0, A3, 0, c3, [], by omega, rfl, rfl, rfl, rfl, rfl, o3, hb3⟩
      case round =>
        clear hb3 o3
        obtain ⟨k, A, l, c, L, hk, rfl, rfl, rfl, hL, hlen, hown, hbi⟩ := hrel
        have hzi := hbi.size
        have hbB1 := blk_below hbk.out hbi
        have hlt1 := blk_lt hbB1
        have hc0 := blk_cell hbB1 0
        have hc1 := blk_cell hbB1 1
        simp at hc0 hc1
        clear hbB1
        obtain rfl | rfl | rfl : k = 0 ∨ k = 1 ∨ k = 2 := by omega
        · simp only [if_true] at hL
          subst hL
          obtain rfl : l = 0 := hlen
          go_wp2_with (at_builtin; refine wpList_append_rd _ rfl _ _ _ rfl eId (base := w.heap.size) (v := .slice A 0 c) (xs := []) rfl (by simpa using hown) rfl (hA.below hbi) Im.len Im.one (by simp [maxLen]; omega) (by simp; omega) hzi ?_; intro A4 n4 c4 w4 hn4 hown4 hg4 hat4; (obtain rfl : n4 = n := (by rw [hn4]; simp)); clear hn4)
          have hb4 : Below w.heap.size w w4 := hbi.grown hg4 hzi (fun g e => (hown.block g e).1)
          go_roundg 2
          case measure => omega
          case rel => exact ⟨1, A4, n4, c4, xs, by omega, rfl, rfl, by go_num, rfl, hl.symm, by simpa using hown4, hb4⟩
        · simp only [if_neg (show ¬ (1 = 0) by decide), if_true] at hL
          subst hL
          obtain rfl : l = n := by omega
          clear hlen
          go_wp2_with (at_builtin; refine wpList_append_rd _ rfl _ _ _ rfl eId (base := w.heap.size) (v := .slice A l c) (xs := L.map Im.enc) rfl hown rfl (hB.below hbi) Im.len Im.one (by simp [maxLen]; omega) (by simp; omega) hzi ?_; intro A4 n4 c4 w4 hn4 hown4 hg4 hat4; (have hn5 : n4 = l + m := (by rw [hn4]; simp; omega)); clear hn4)
          subst hn5
          have hb4 : Below w.heap.size w w4 := hbi.grown hg4 hzi (fun g e => (hown.block g e).1)
          go_roundg 1
          case measure => omega
          case rel => exact ⟨2, A4, l + m, c4, L ++ ys, by omega, rfl, rfl, by go_num, rfl, by simp; omega, by rw [List.map_append]; exact hown4, hb4⟩
        · simp only [if_neg (show ¬ (2 = 0) by decide), if_neg (show ¬ (2 = 1) by decide)] at hL
          subst hL
          obtain rfl : l = n + m := by rw [hlen]; simp; omega
          go_wp2
          go_ret
          exact ⟨_, _, rfl, hown, hbi⟩

end Go.Proofs.Ytpfohpfgfdeecaa
