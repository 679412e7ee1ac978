/- The statement CutTwo, walked. -/
import Derived.Test.YthfjbbijcemmoaaCmE
import Derived.Test.YthfjbbijcemmoaaCmF
import Derived.Test.YthfjbbijcemmoaaCmH
import Derived.Test.YthfjbbijcemmoaaCmI
import Derived.Test.YthfjbbijcemmoaaCtI
namespace Go.Proofs.Ythfjbbijcemmoaa
open Go.RowKit

theorem grI_two {n : Nat} (h : grI n = false) : n ≤ 1100 := by
  unfold grI at h
  rw [decide_eq_false_iff_not] at h
  omega
set_option maxRecDepth 100000 in
set_option maxHeartbeats 2000000 in
theorem cuttwo_any (v u : Vm) (A B : Option Addr) (n m c d : Nat) (xs ys : List Im) (w : World) (hA : RdI w w.heap.size A n xs) (hB : RdI w w.heap.size B m ys) (hv : v.wf) (hu : u.wf) (hx : ∀ x ∈ xs, x.wf) (hy : ∀ x ∈ ys, x.wf) :
    Calls Try.prog 9 #[.agg #[.int .u32 v.d0, .int .u32 v.d1, .int .u32 v.d2, .int .u32 v.d3, .int .u32 v.d4, .int .u32 v.d5, .int .u32 v.d6, .int .u32 v.d7, .slice A n c], .agg #[.int .u32 u.d0, .int .u32 u.d1, .int .u32 u.d2, .int .u32 u.d3, .int .u32 u.d4, .int .u32 u.d5, .int .u32 u.d6, .int .u32 u.d7, .slice B m d]] w fun e w' => e = .returned (.bool true) ∧ Below w.heap.size w w' := by
  have hW : Below w.heap.size w ((w.alloc (.cells #[.int .u32 v.d0, .int .u32 v.d1, .int .u32 v.d2, .int .u32 v.d3, .int .u32 v.d4, .int .u32 v.d5, .int .u32 v.d6, .int .u32 v.d7, .slice A n c] 49)).alloc (.cells #[.int .u32 u.d0, .int .u32 u.d1, .int .u32 u.d2, .int .u32 u.d3, .int .u32 u.d4, .int .u32 u.d5, .int .u32 u.d6, .int .u32 u.d7, .slice B m d] 49)) := ((Below.refl _ w).alloc (Nat.le_refl _) _).alloc (by simp) _
  have hbA : ((w.alloc (.cells #[.int .u32 v.d0, .int .u32 v.d1, .int .u32 v.d2, .int .u32 v.d3, .int .u32 v.d4, .int .u32 v.d5, .int .u32 v.d6, .int .u32 v.d7, .slice A n c] 49)).alloc (.cells #[.int .u32 u.d0, .int .u32 u.d1, .int .u32 u.d2, .int .u32 u.d3, .int .u32 u.d4, .int .u32 u.d5, .int .u32 u.d6, .int .u32 u.d7, .slice B m d] 49)).heap[w.heap.size]? = some (.cells #[.int .u32 v.d0, .int .u32 v.d1, .int .u32 v.d2, .int .u32 v.d3, .int .u32 v.d4, .int .u32 v.d5, .int .u32 v.d6, .int .u32 v.d7, .slice A n c] 49 (0, 0)) := heap_old _ (by simp) (heap_at _ _ rfl)
  have hbB : ((w.alloc (.cells #[.int .u32 v.d0, .int .u32 v.d1, .int .u32 v.d2, .int .u32 v.d3, .int .u32 v.d4, .int .u32 v.d5, .int .u32 v.d6, .int .u32 v.d7, .slice A n c] 49)).alloc (.cells #[.int .u32 u.d0, .int .u32 u.d1, .int .u32 u.d2, .int .u32 u.d3, .int .u32 u.d4, .int .u32 u.d5, .int .u32 u.d6, .int .u32 u.d7, .slice B m d] 49)).heap[w.heap.size + 1]? = some (.cells #[.int .u32 u.d0, .int .u32 u.d1, .int .u32 u.d2, .int .u32 u.d3, .int .u32 u.d4, .int .u32 u.d5, .int .u32 u.d6, .int .u32 u.d7, .slice B m d] 49 (0, 0)) := heap_at _ _ (by simp)
  generalize hWe : ((w.alloc (.cells #[.int .u32 v.d0, .int .u32 v.d1, .int .u32 v.d2, .int .u32 v.d3, .int .u32 v.d4, .int .u32 v.d5, .int .u32 v.d6, .int .u32 v.d7, .slice A n c] 49)).alloc (.cells #[.int .u32 u.d0, .int .u32 u.d1, .int .u32 u.d2, .int .u32 u.d3, .int .u32 u.d4, .int .u32 u.d5, .int .u32 u.d6, .int .u32 u.d7, .slice B m d] 49)) = W at hW hbA hbB
  have hltA := blk_lt hbA
  have hltB := blk_lt hbB
  have hAk := Lib.hid hbA
  have hBk := Lib.hid hbB
  have hzW := hW.size
  have g1 := great_any A n c
  have g2 := great_any B m d
  have hfa := Lib.hid (far_any v A n c)
  have hfb := Lib.hid (far_any u B m d)
  have q0 := blk_cell hbA 0
  have q1 := blk_cell hbA 1
  have q2 := blk_cell hbA 2
  have q3 := blk_cell hbA 3
  have q4 := blk_cell hbA 4
  have q5 := blk_cell hbA 5
  have q6 := blk_cell hbA 6
  have q7 := blk_cell hbA 7
  have q8 := blk_cell hbA 8
  simp at q0 q1 q2 q3 q4 q5 q6 q7 q8
  have s0 := blk_cell hbB 0
  have s1 := blk_cell hbB 1
  have s2 := blk_cell hbB 2
  have s3 := blk_cell hbB 3
  have s4 := blk_cell hbB 4
  have s5 := blk_cell hbB 5
  have s6 := blk_cell hbB 6
  have s7 := blk_cell hbB 7
  have s8 := blk_cell hbB 8
  simp at s0 s1 s2 s3 s4 s5 s6 s7 s8
  cases hga : grI n
  case true =>
    rw [hga] at g1
    go_enter Try.func9, Try.ntmps9
    go_wp2_with fail
    refine (g1 _).mono ?_
    rintro e w1 ⟨rfl, hw1⟩
    obtain rfl := hw1.symm
    go_wp2
    go_ret
    exact ⟨rfl, hW⟩
  rw [hga] at g1
  cases hgb : grI m
  case true =>
    rw [hgb] at g2
    go_enter Try.func9, Try.ntmps9
    go_wp2_with fail
    refine (g1 _).mono ?_
    rintro e w1 ⟨rfl, hw1⟩
    obtain rfl := hw1.symm
    go_wp2_with fail
    refine (g2 _).mono ?_
    rintro e w2 ⟨rfl, hw2⟩
    obtain rfl := hw2.symm
    go_wp2
    go_ret
    exact ⟨rfl, hW⟩
  rw [hgb] at g2
  have hn := grI_two hga
  have hm := grI_two hgb
  clear hga hgb
  have cTa := Lib.hid (fun w' (hb : Below w.heap.size w w') => to_any v A n c xs w' ((hA.below hb).more hb.size) hn)
  have cTb := Lib.hid (fun w' (hb : Below w.heap.size w w') => to_any u B m d ys w' ((hB.below hb).more hb.size) hm)
  have cJ := Lib.hid (fun A' B' c' d' w' (h1 : RdI w' w'.heap.size A' n xs) (h2 : RdI w' w'.heap.size B' m ys) => cjoin_any v u A' B' n m c' d' xs ys w' h1 h2 hn hm hv hu hx hy)
  have cK := Lib.hid (fun w' (hb : Below w.heap.size w w') => rjoin_any v u A B n m c d xs ys w' ((hA.below hb).more hb.size) ((hB.below hb).more hb.size) hn hm hv hu hx hy)
  have cL := Lib.hid (fun A' B' c' d' w' (h1 : RdI w' w'.heap.size A' n xs) (h2 : RdI w' w'.heap.size B' m ys) => cle_any v u A' B' n m c' d' xs ys w' h1 h2 hn hm hv hu hx hy)
  have cM := Lib.hid (fun w' (hb : Below w.heap.size w w') => rle_any v u A B n m c d xs ys w' ((hA.below hb).more hb.size) ((hB.below hb).more hb.size) hn hm hv hu hx hy)
  have cS := Lib.hid (fun A' B' c' d' w' (h1 : RdI w' w'.heap.size A' n xs) (h2 : RdI w' w'.heap.size B' m ys) => csame_any v u A' B' n m c' d' xs ys w' h1 h2 (by simp [maxLen]; omega) (by simp [maxLen]; omega))
  have cR := Lib.hid (fun w' (hb : Below w.heap.size w w') => rcsame_any v u A B n m c d xs ys w' ((hA.below hb).more hb.size) ((hB.below hb).more hb.size) (by simp [maxLen]; omega) (by simp [maxLen]; omega))
  generalize joinCV v xs u ys = mv at *
  generalize joinCD v xs u ys = md at *
  generalize joinCE v xs u ys = me at *
  generalize (eqV v u && decide (xs = ys)) = sv at *
  generalize leC v xs u ys = LP at *
  clear hA hB hx hy hv hu hbA hbB
  go_enter Try.func9, Try.ntmps9
  go_wp2_with fail
  refine (g1 _).mono ?_
  rintro e w1 ⟨rfl, hw1⟩
  obtain rfl := hw1.symm
  go_wp2_with fail
  refine (g2 _).mono ?_
  rintro e w2 ⟨rfl, hw2⟩
  obtain rfl := hw2.symm
  go_wp2_with fail
  refine (hfa.out _).mono ?_
  rintro e w3 ⟨ra, rfl, hb3⟩
  clear q0 q1 q2 q3 q4 q5 q6 q7 q8 s0 s1 s2 s3 s4 s5 s6 s7 s8
  have hG3 : Below w.heap.size w w3 := hW.trans (hb3.mono hzW)
  cases ra
  case true =>
    go_wp2
    go_ret
    exact ⟨rfl, hG3⟩
  have hbB3 := blk_below hBk.out hb3
  have hltB3 := blk_lt hbB3
  have s0 := blk_cell hbB3 0
  have s1 := blk_cell hbB3 1
  have s2 := blk_cell hbB3 2
  have s3 := blk_cell hbB3 3
  have s4 := blk_cell hbB3 4
  have s5 := blk_cell hbB3 5
  have s6 := blk_cell hbB3 6
  have s7 := blk_cell hbB3 7
  have s8 := blk_cell hbB3 8
  simp at s0 s1 s2 s3 s4 s5 s6 s7 s8
  go_wp2_with fail
  refine (hfb.out _).mono ?_
  rintro e w4 ⟨rb, rfl, hb4⟩
  clear s0 s1 s2 s3 s4 s5 s6 s7 s8 hbB3 hltB3
  have hG4 : Below w.heap.size w w4 := hG3.trans (hb4.mono hG3.size)
  cases rb
  case true =>
    go_wp2
    go_ret
    exact ⟨rfl, hG4⟩
  have hBW4 : Below W.heap.size W w4 := hb3.trans (hb4.mono hb3.size)
  have hbA4 := blk_below hAk.out hBW4
  have hltA4 := blk_lt hbA4
  have hbB4 := blk_below hBk.out hBW4
  have hltB4 := blk_lt hbB4
  have q0 := blk_cell hbA4 0
  have q1 := blk_cell hbA4 1
  have q2 := blk_cell hbA4 2
  have q3 := blk_cell hbA4 3
  have q4 := blk_cell hbA4 4
  have q5 := blk_cell hbA4 5
  have q6 := blk_cell hbA4 6
  have q7 := blk_cell hbA4 7
  have q8 := blk_cell hbA4 8
  simp at q0 q1 q2 q3 q4 q5 q6 q7 q8
  have s0 := blk_cell hbB4 0
  have s1 := blk_cell hbB4 1
  have s2 := blk_cell hbB4 2
  have s3 := blk_cell hbB4 3
  have s4 := blk_cell hbB4 4
  have s5 := blk_cell hbB4 5
  have s6 := blk_cell hbB4 6
  have s7 := blk_cell hbB4 7
  have s8 := blk_cell hbB4 8
  simp at s0 s1 s2 s3 s4 s5 s6 s7 s8
  have cTa4 := Lib.hid (fun w' (h : KQ w4.heap.size w4 w') => cTa.out w' (hG4.trans (h.1.mono hG4.size)))
  have cTb4 := Lib.hid (fun w' (h : KQ w4.heap.size w4 w') => cTb.out w' (hG4.trans (h.1.mono hG4.size)))
  clear hbA4 hbB4 hb3 hb4 hG3 hfa hfb g1 g2
  go_upto_region 3 with (fail)
  skip
  go_cut [5, 6] (fun sa sb wx => ∃ g A' n' c', sa = .pointer (some ⟨g, 0, none⟩) ∧ w4.heap.size ≤ g ∧ sb = .int .i64 me ∧ wx.heap[g]? = some (.cells #[.int .u32 mv.d0, .int .u32 mv.d1, .int .u32 mv.d2, .int .u32 mv.d3, .int .u32 mv.d4, .int .u32 mv.d5, .int .u32 mv.d6, .int .u32 mv.d7, .slice A' n' c'] 50 (0, 0)) ∧ Ow wx w4.heap.size 35 2 (.slice A' n' c') ((md).map Im.enc) ∧ Below w4.heap.size w4 wx)
  case first =>
        have hq0 : KQ w4.heap.size w4 w4 := kq (Below.refl _ _)
        go_region_held3 (fun w' => KQ w4.heap.size w4 w') (first
      | with_reducible exact kq_call (by assumption) (by simp) (by assumption)
      | with_reducible exact kq_grown (by assumption) (by simp) (by assumption) (by simp [Value.ownBlock])
      | ((repeat (first | (with_reducible refine kq_set ?_ (by first | (simp; done) | (simp; omega) | omega) _) | (with_reducible refine kq_alloc ?_ (by first | exact Nat.le_refl _ | (simp; done) | (simp; omega)) _))); (with_reducible assumption))
      | ((with_reducible refine kq ?_); (repeat (first | (with_reducible exact Below.refl _ _) | (with_reducible refine Below.drew ?_) | (with_reducible refine Below.alloc ?_ (by simp) _) | (with_reducible refine Below.setCell ?_ (by simp) _) | (with_reducible exact (by assumption : KQ _ _ _).1))); done))
          (first
            | (go_at_call 37
               (first
                 | (with_reducible refine (cTa4.out _ (by with_reducible assumption)).mono ?_
                    rintro e v3 ⟨A3, c3, rfl, o3, hb3⟩
                    have hz3 := hb3.size
                    (try simp at hz3)
                    have hq3 : KQ w4.heap.size w4 v3 := kq_call (by assumption) (by simp) hb3
                    (try (have hx3 : v3.heap[w4.heap.size]? = some (.cells #[.int .u32 0, .int .u32 0, .int .u32 0, .int .u32 0, .int .u32 0, .int .u32 0, .int .u32 0, .int .u32 0, .slice none 0 0] 50 (0, 0)) := (hb3.block _ (by simp; done)).trans (heap_at _ _ (by simp; done)))))
                 | (with_reducible refine (cTb4.out _ (by with_reducible assumption)).mono ?_
                    rintro e v4 ⟨A4, c4', rfl, o4, hb4⟩
                    have hz4 := hb4.size
                    (try simp at hz4)
                    have hq4 : KQ w4.heap.size w4 v4 := kq_call (by assumption) (by simp) hb4
                    have o3' : RdI v4 v4.heap.size A3 _ _ := (by first | exact (o3.below hb4).rd.1 | exact ((o3.below ((Below.refl _ _).alloc (Nat.le_refl _) _)).below hb4).rd.1)
                    (first
                      | (have hx4 := (hb4.block _ (blk_lt hx3)).trans hx3)
                      | (have hx4 : v4.heap[v3.heap.size]? = some (.cells #[.int .u32 0, .int .u32 0, .int .u32 0, .int .u32 0, .int .u32 0, .int .u32 0, .int .u32 0, .int .u32 0, .slice none 0 0] 50 (0, 0)) := (hb4.block _ (by simp; done)).trans (heap_at _ _ rfl))
                      | skip))))
            | (go_at_call 51; refine (cJ.out A3 A4 c3 c4' _ (by first | exact o3' | exact (RdI.below o3' ((Below.refl _ _).alloc (Nat.le_refl _) _)).more (by simp)) (by first | exact o4.rd.1 | exact (o4.below ((Below.refl _ _).alloc (Nat.le_refl _) _)).rd.1)).mono ?_
               rintro e v5 ⟨A5, n5, c5, rfl, o5, hb5⟩
               have hz5 := hb5.size
               (try simp at hz5)
               have hq5 : KQ w4.heap.size w4 v5 := kq_call (by assumption) (Nat.le_refl _) hb5
               (first
                 | (have hx5 := (hb5.block _ (blk_lt hx4)).trans hx4
                    have hfx := blk_frozen hx5
                    have x0 := blk_cell hx5 0
                    have x1 := blk_cell hx5 1
                    have x2 := blk_cell hx5 2
                    have x3 := blk_cell hx5 3
                    have x4 := blk_cell hx5 4
                    have x5 := blk_cell hx5 5
                    have x6 := blk_cell hx5 6
                    have x7 := blk_cell hx5 7
                    have x8 := blk_cell hx5 8
                    simp at x0 x1 x2 x3 x4 x5 x6 x7 x8)
                 | (have hx5 : v5.heap[v4.heap.size]? = some (.cells #[.int .u32 0, .int .u32 0, .int .u32 0, .int .u32 0, .int .u32 0, .int .u32 0, .int .u32 0, .int .u32 0, .slice none 0 0] 50 (0, 0)) := (hb5.block _ (by simp; done)).trans (heap_at _ _ rfl)
                    have hfx := blk_frozen hx5
                    have x0 := blk_cell hx5 0
                    have x1 := blk_cell hx5 1
                    have x2 := blk_cell hx5 2
                    have x3 := blk_cell hx5 3
                    have x4 := blk_cell hx5 4
                    have x5 := blk_cell hx5 5
                    have x6 := blk_cell hx5 6
                    have x7 := blk_cell hx5 7
                    have x8 := blk_cell hx5 8
                    simp at x0 x1 x2 x3 x4 x5 x6 x7 x8)
                 | skip)))
        all_goals
          (go_wp2_with fail
           go_meet
           refine ⟨_, A5, n5, c5, rfl, by omega, rfl, ?_, ?_, ?_⟩
           · first
               | (with_reducible exact heap9 hx5 _ _ _ _ _ _ _ _ _)
               | (with_reducible exact heap_at _ _ rfl)
           · first
               | (with_reducible refine Ow.base (base := v4.heap.size) ?_ (by omega)
                  repeat (with_reducible refine Ow.setCell ?_ (by first | (simp; done) | (simp; omega) | omega) _)
                  with_reducible exact o5)
               | (with_reducible refine Ow.base (base := v4.heap.size + 1) ?_ (by omega)
                  repeat (with_reducible refine Ow.setCell ?_ (by first | (simp; done) | (simp; omega) | omega) _)
                  with_reducible exact o5.base (by simp))
               | exact (o5.below ((Below.refl _ _).alloc (Nat.le_refl _) _)).base (by omega)
           · first
               | (with_reducible exact (kq_alloc hq5 (Nat.le_refl _) _).1)
               | (have hq5B := hq5.1
                  repeat (first | (with_reducible exact hq5B) | (with_reducible refine Below.drew ?_) | (with_reducible refine Below.alloc ?_ (by first | (simp; done) | (simp; omega) | omega) _) | (with_reducible refine Below.setCell ?_ (by first | (simp; done) | (simp; omega) | omega) _))))
  case rest =>
    obtain ⟨gx, Ac, nc, kc, rfl, hgx, rfl, hbX5, oc, hB5⟩ := hcut
    obtain ⟨w5, hw5⟩ : ∃ w5, w5 = wc := ⟨_, rfl⟩
    obtain rfl := hw5
    clear q0 q1 q2 q3 q4 q5 q6 q7 q8 s0 s1 s2 s3 s4 s5 s6 s7 s8 cJ cTa4 cTb4 hltA4 hltB4
    have hG5 : Below w.heap.size w w5 := hG4.trans (hB5.mono hG4.size)
    have hBW5 : Below W.heap.size W w5 := hBW4.trans (hB5.mono hBW4.size)
    have hbA5 := blk_below hAk.out hBW5
    have hltA5 := blk_lt hbA5
    have hbB5 := blk_below hBk.out hBW5
    have hltB5 := blk_lt hbB5
    have hltX5 := blk_lt hbX5
    have q0 := blk_cell hbA5 0
    have q1 := blk_cell hbA5 1
    have q2 := blk_cell hbA5 2
    have q3 := blk_cell hbA5 3
    have q4 := blk_cell hbA5 4
    have q5 := blk_cell hbA5 5
    have q6 := blk_cell hbA5 6
    have q7 := blk_cell hbA5 7
    have q8 := blk_cell hbA5 8
    simp at q0 q1 q2 q3 q4 q5 q6 q7 q8
    have s0 := blk_cell hbB5 0
    have s1 := blk_cell hbB5 1
    have s2 := blk_cell hbB5 2
    have s3 := blk_cell hbB5 3
    have s4 := blk_cell hbB5 4
    have s5 := blk_cell hbB5 5
    have s6 := blk_cell hbB5 6
    have s7 := blk_cell hbB5 7
    have s8 := blk_cell hbB5 8
    simp at s0 s1 s2 s3 s4 s5 s6 s7 s8
    go_wp2_with fail
    refine (cK.out w5 hG5).mono ?_
    rintro e w6 ⟨Ad, nd, kd, rfl, od, hb6⟩
    clear q0 q1 q2 q3 q4 q5 q6 q7 q8 s0 s1 s2 s3 s4 s5 s6 s7 s8 cK hbA5 hltA5 hbB5 hltB5
    go_upto_region 5 with (fail)
    obtain ⟨w7, hw7⟩ : ∃ w7, w6.alloc (.cells #[.int .u32 mv.d0, .int .u32 mv.d1, .int .u32 mv.d2, .int .u32 mv.d3, .int .u32 mv.d4, .int .u32 mv.d5, .int .u32 mv.d6, .int .u32 mv.d7, .slice Ad nd kd] 49) = w7 := ⟨_, rfl⟩
    have hbY7 : w7.heap[w6.heap.size]? = some (.cells #[.int .u32 mv.d0, .int .u32 mv.d1, .int .u32 mv.d2, .int .u32 mv.d3, .int .u32 mv.d4, .int .u32 mv.d5, .int .u32 mv.d6, .int .u32 mv.d7, .slice Ad nd kd] 49 (0, 0)) := by rw [← hw7]; exact heap_at _ _ rfl
    have hb7 : Below w6.heap.size w6 w7 := by rw [← hw7]; exact (Below.refl _ w6).alloc (Nat.le_refl _) _
    rw [hw7]
    clear hw7
    have hB57 : Below w5.heap.size w5 w7 := hb6.trans (hb7.mono hb6.size)
    have hG7 : Below w.heap.size w w7 := hG5.trans (hB57.mono hG5.size)
    have hBW7 : Below W.heap.size W w7 := hBW5.trans (hB57.mono hBW5.size)
    have hbA7 := blk_below hAk.out hBW7
    have hbB7 := blk_below hBk.out hBW7
    have hbX7 := blk_below hbX5 hB57
    have oc7 := oc.below hB57
    have od7 := od.below hb7
    have S1 := Lib.hid (fun w' (h : KQ w7.heap.size w7 w') => (by
      have := rcsame_any mv mv Ac Ad nc nd kc kd md md w' (oc7.below h.1).rd.1 (od7.below h.1).rd.1 (Nat.le_trans oc7.rd.2.2.1 oc7.rd.2.2.2) (Nat.le_trans od7.rd.2.2.1 od7.rd.2.2.2)
      rw [show (eqV mv mv && decide (md = md)) = true from by rw [eqV_iff.2 rfl]; simp] at this
      exact this : Calls Try.prog 39 #[.agg #[.int .u32 mv.d0, .int .u32 mv.d1, .int .u32 mv.d2, .int .u32 mv.d3, .int .u32 mv.d4, .int .u32 mv.d5, .int .u32 mv.d6, .int .u32 mv.d7, .slice Ac nc kc], .agg #[.int .u32 mv.d0, .int .u32 mv.d1, .int .u32 mv.d2, .int .u32 mv.d3, .int .u32 mv.d4, .int .u32 mv.d5, .int .u32 mv.d6, .int .u32 mv.d7, .slice Ad nd kd]] w' fun e w'' => e = .returned (.bool true) ∧ Below w'.heap.size w' w''))
    have cTa7 := Lib.hid (fun w' (h : KQ w7.heap.size w7 w') => cTa.out w' (hG7.trans (h.1.mono hG7.size)))
    have cTb7 := Lib.hid (fun w' (h : KQ w7.heap.size w7 w') => cTb.out w' (hG7.trans (h.1.mono hG7.size)))
    have cM7 := Lib.hid (fun w' (h : KQ w7.heap.size w7 w') => cM.out w' (hG7.trans (h.1.mono hG7.size)))
    have cR7 := Lib.hid (fun w' (h : KQ w7.heap.size w7 w') => cR.out w' (hG7.trans (h.1.mono hG7.size)))
    have hltA7 := blk_lt hbA7
    have hltB7 := blk_lt hbB7
    have hltX7 := blk_lt hbX7
    have hltY7 := blk_lt hbY7
    have qa0 := blk_cell hbA7 0
    have qa1 := blk_cell hbA7 1
    have qa2 := blk_cell hbA7 2
    have qa3 := blk_cell hbA7 3
    have qa4 := blk_cell hbA7 4
    have qa5 := blk_cell hbA7 5
    have qa6 := blk_cell hbA7 6
    have qa7 := blk_cell hbA7 7
    have qa8 := blk_cell hbA7 8
    simp at qa0 qa1 qa2 qa3 qa4 qa5 qa6 qa7 qa8
    have qb0 := blk_cell hbB7 0
    have qb1 := blk_cell hbB7 1
    have qb2 := blk_cell hbB7 2
    have qb3 := blk_cell hbB7 3
    have qb4 := blk_cell hbB7 4
    have qb5 := blk_cell hbB7 5
    have qb6 := blk_cell hbB7 6
    have qb7 := blk_cell hbB7 7
    have qb8 := blk_cell hbB7 8
    simp at qb0 qb1 qb2 qb3 qb4 qb5 qb6 qb7 qb8
    have qx0 := blk_cell hbX7 0
    have qx1 := blk_cell hbX7 1
    have qx2 := blk_cell hbX7 2
    have qx3 := blk_cell hbX7 3
    have qx4 := blk_cell hbX7 4
    have qx5 := blk_cell hbX7 5
    have qx6 := blk_cell hbX7 6
    have qx7 := blk_cell hbX7 7
    have qx8 := blk_cell hbX7 8
    simp at qx0 qx1 qx2 qx3 qx4 qx5 qx6 qx7 qx8
    have qy0 := blk_cell hbY7 0
    have qy1 := blk_cell hbY7 1
    have qy2 := blk_cell hbY7 2
    have qy3 := blk_cell hbY7 3
    have qy4 := blk_cell hbY7 4
    have qy5 := blk_cell hbY7 5
    have qy6 := blk_cell hbY7 6
    have qy7 := blk_cell hbY7 7
    have qy8 := blk_cell hbY7 8
    simp at qy0 qy1 qy2 qy3 qy4 qy5 qy6 qy7 qy8
    clear oc od oc7 od7 hbX5 hbA7 hbB7 hbX7 hbY7 cTa cTb cM cR hB57 hBW7 hBW5 hb6 hb7 hB5 hG5 hG4 hBW4 hltX5
    have hq0 : KQ w7.heap.size w7 w7 := kq (Below.refl _ _)
    go_region_held3 (fun w' => KQ w7.heap.size w7 w') (first
      | with_reducible exact kq_call (by assumption) (by simp) (by assumption)
      | with_reducible exact kq_grown (by assumption) (by simp) (by assumption) (by simp [Value.ownBlock])
      | ((with_reducible refine kq ?_); (repeat (first | (with_reducible exact Below.refl _ _) | (with_reducible refine Below.drew ?_) | (with_reducible refine Below.alloc ?_ (by simp) _) | (with_reducible refine Below.setCell ?_ (by simp) _) | (with_reducible exact (by assumption : KQ _ _ _).1))); done))
      (first
        | (go_at_call 37
           (first
             | (with_reducible refine (cTa7.out _ (by with_reducible assumption)).mono ?_
                rintro e v3 ⟨A3, c3, rfl, o3, hb3⟩)
             | (with_reducible refine (cTb7.out _ (by with_reducible assumption)).mono ?_
                rintro e v4 ⟨A4, c4', rfl, o4, hb4⟩
                have o3' : RdI v4 v4.heap.size A3 n xs := (by first | exact (o3.below hb4).rd.1 | exact ((o3.below (Below.refl _ _).drew).below hb4).rd.1))))
        | (go_at_call 53; refine (cL.out A3 A4 c3 c4' _ (by first | exact o3' | exact (RdI.below o3' (Below.refl _ _).drew).more (by simp)) (by first | exact o4.rd.1 | exact (o4.below (Below.refl _ _).drew).rd.1)).mono ?_; rintro e v5 ⟨r1, rfl, hr1, hb5⟩)
        | (go_at_call 54; refine (cM7.out _ (by with_reducible assumption)).mono ?_; rintro e v6 ⟨r2, rfl, hr2, hb6⟩
           have hrr : r2 = r1 := Bool.eq_iff_iff.2 (hr2.trans hr1.symm)
           subst hrr
           clear hr1 hr2)
        | (go_at_call 55; refine (cS.out A3 A4 c3 c4' _ (by first | exact o3' | exact (RdI.below o3' (Below.refl _ _).drew).more (by simp)) (by first | exact o4.rd.1 | exact (o4.below (Below.refl _ _).drew).rd.1)).mono ?_; rintro e v7 ⟨rfl, hb7⟩)
        | (go_at_call 40; refine (from_any _ _ _ _ _).mono ?_; rintro e v8 ⟨rfl, hb8⟩)
        | (go_at_call 39
           (first
             | (with_reducible refine (cR7.out _ (by with_reducible assumption)).mono ?_; rintro e v9 ⟨rfl, hb9⟩)
             | (with_reducible refine (S1.out _ (by with_reducible assumption)).mono ?_; rintro e v10 ⟨rfl, hb10⟩))))
    have hF : KQ w7.heap.size w7 v10 := by with_reducible assumption
    have hG := hG7.trans (hF.1.mono hG7.size)
    go_wp2
    go_ret
    exact ⟨rfl, hG⟩
end Go.Proofs.Ythfjbbijcemmoaa
