/- The statement CutMakes, walked. -/
import Derived.Test.YthfjbbijcemmoaaCmC
import Derived.Test.YthfjbbijcemmoaaCmD
import Derived.Test.YthfjbbijcemmoaaCtI
namespace Go.Proofs.Ythfjbbijcemmoaa
open Go.RowKit

theorem grI_few {n : Nat} (h : grI n = false) : n ≤ 1050 := by
  unfold grI at h
  rw [decide_eq_false_iff_not] at h
  omega
set_option maxRecDepth 100000 in
set_option maxHeartbeats 2000000 in
theorem cutmakes_any (v : Vm) (A : Option Addr) (n c : Nat) (xs : List Im) (x : Im) (w : World) (hA : RdI w w.heap.size A n xs) (hv : v.wf) (hx : ∀ x ∈ xs, x.wf) (hxw : x.wf) :
    Calls Try.prog 6 #[.agg #[.int .u32 v.d0, .int .u32 v.d1, .int .u32 v.d2, .int .u32 v.d3, .int .u32 v.d4, .int .u32 v.d5, .int .u32 v.d6, .int .u32 v.d7, .slice A n c], .agg #[.int .i64 x.1, .int .u32 x.2]] w fun e w' => e = .returned (.bool true) ∧ Below w.heap.size w w' := by
  have hW : Below w.heap.size w ((w.alloc (.cells #[.int .u32 v.d0, .int .u32 v.d1, .int .u32 v.d2, .int .u32 v.d3, .int .u32 v.d4, .int .u32 v.d5, .int .u32 v.d6, .int .u32 v.d7, .slice A n c] 49)).alloc (.cells #[.int .i64 x.1, .int .u32 x.2] 35)) := ((Below.refl _ w).alloc (Nat.le_refl _) _).alloc (by simp) _
  have hbA : ((w.alloc (.cells #[.int .u32 v.d0, .int .u32 v.d1, .int .u32 v.d2, .int .u32 v.d3, .int .u32 v.d4, .int .u32 v.d5, .int .u32 v.d6, .int .u32 v.d7, .slice A n c] 49)).alloc (.cells #[.int .i64 x.1, .int .u32 x.2] 35)).heap[w.heap.size]? = some (.cells #[.int .u32 v.d0, .int .u32 v.d1, .int .u32 v.d2, .int .u32 v.d3, .int .u32 v.d4, .int .u32 v.d5, .int .u32 v.d6, .int .u32 v.d7, .slice A n c] 49 (0, 0)) := heap_old _ (by simp) (heap_at _ _ rfl)
  have hbB : ((w.alloc (.cells #[.int .u32 v.d0, .int .u32 v.d1, .int .u32 v.d2, .int .u32 v.d3, .int .u32 v.d4, .int .u32 v.d5, .int .u32 v.d6, .int .u32 v.d7, .slice A n c] 49)).alloc (.cells #[.int .i64 x.1, .int .u32 x.2] 35)).heap[w.heap.size + 1]? = some (.cells #[.int .i64 x.1, .int .u32 x.2] 35 (0, 0)) := heap_at _ _ (by simp)
  generalize hWe : ((w.alloc (.cells #[.int .u32 v.d0, .int .u32 v.d1, .int .u32 v.d2, .int .u32 v.d3, .int .u32 v.d4, .int .u32 v.d5, .int .u32 v.d6, .int .u32 v.d7, .slice A n c] 49)).alloc (.cells #[.int .i64 x.1, .int .u32 x.2] 35)) = W at hW hbA hbB
  have hltA := blk_lt hbA
  have hltB := blk_lt hbB
  have hAk := Lib.hid hbA
  have hBk := Lib.hid hbB
  have hzW := hW.size
  have g1 := great_any A n c
  have q0 := blk_cell hbA 0
  have q1 := blk_cell hbA 1
  have q2 := blk_cell hbA 2
  have q3 := blk_cell hbA 3
  have q4 := blk_cell hbA 4
  have q5 := blk_cell hbA 5
  have q6 := blk_cell hbA 6
  have q7 := blk_cell hbA 7
  have q8 := blk_cell hbA 8
  simp at q0 q1 q2 q3 q4 q5 q6 q7 q8
  have s0 := blk_cell hbB 0
  have s1 := blk_cell hbB 1
  simp at s0 s1
  cases hga : grI n with
  | true =>
    rw [hga] at g1
    go_enter Try.func6, Try.ntmps6
    go_wp2_with fail
    refine (g1 _).mono ?_
    rintro e w1 ⟨rfl, rfl⟩
    go_wp2
    go_ret
    exact ⟨rfl, hW⟩
  | false =>
    rw [hga] at g1
    have hn := grI_few hga
    clear hga
    have hl := hA.len
    have hAW : RdI W W.heap.size A n xs := (hA.below hW).more hW.size
    have cM := Lib.hid (fun A' c' w' (h1 : RdI w' w'.heap.size A' n xs) => cmake_any v A' n c' xs w' h1 (by omega) hv hx)
    have cR := Lib.hid (fun w' (hb : Below w.heap.size w w') => rcmake_any v A n c xs w' ((hA.below hb).more hb.size) (by omega) hv hx)
    have cT := Lib.hid (fun w' (hb : Below w.heap.size w w') => to_any v A n c xs w' ((hA.below hb).more hb.size) (by omega))
    have cA := Lib.hid (fun A' c' w' (h1 : RdI w' w'.heap.size A' n xs) (h2 : n ≤ c') (h3 : c' ≤ maxLen) => cadd_any v A' n c' xs x w' h1 hn h2 h3 hv hx hxw)
    have cB := Lib.hid (fun w' (hb : Below w.heap.size w w') => radd_any v A n c xs x w' ((hA.below hb).more hb.size) hn hv hx hxw)
    have cC := Lib.hid (fun A' c' w' (h1 : RdI w' w'.heap.size A' n xs) => ccheck_any v A' n c' xs w' h1 (by omega) hv hx)
    have cD := Lib.hid (fun w' (hb : Below w.heap.size w w') => rccheck_any v A n c xs w' ((hA.below hb).more hb.size) (by omega) hv hx)
    have cH := Lib.hid (fun A' c' w' (h1 : RdI w' w'.heap.size A' n xs) => chas_any v A' n c' xs x w' h1 (by omega) hxw)
    have cI := Lib.hid (fun w' (hb : Below w.heap.size w w') => rchas_any v A n c xs x w' ((hA.below hb).more hb.size) (by omega) hxw)
    generalize rcV v xs = mv at *
    generalize rcD v xs = md at *
    generalize rcErr v xs = me at *
    generalize addV v xs x = av at *
    generalize addD v xs x = ad at *
    generalize addErr v xs x = ae at *
    generalize cutErr v xs = ce at *
    generalize hasC v xs x = hc at *
    have hAH := Lib.hid hA
    clear hA hx hv hxw hbA hbB
    go_enter Try.func6, Try.ntmps6
    go_wp2_with fail
    refine (g1 _).mono ?_
    rintro e w0 ⟨rfl, hw0⟩
    obtain rfl := hw0.symm
    go_upto_region 3 with (fail)
    skip
    go_cut [5, 6] (fun sa sb wx => ∃ g A' n' c', sa = .pointer (some ⟨g, 0, none⟩) ∧ W.heap.size ≤ g ∧ sb = .int .i64 me ∧ wx.heap[g]? = some (.cells #[.int .u32 mv.d0, .int .u32 mv.d1, .int .u32 mv.d2, .int .u32 mv.d3, .int .u32 mv.d4, .int .u32 mv.d5, .int .u32 mv.d6, .int .u32 mv.d7, .slice A' n' c'] 50 (0, 0)) ∧ Ow wx W.heap.size 35 2 (.slice A' n' c') ((md).map Im.enc) ∧ Below W.heap.size W wx)
    case first =>
        have hq0 : KQ W.heap.size W W := kq (Below.refl _ _)
        go_region_held3 (fun w' => KQ W.heap.size W w') (first
      | with_reducible exact kq_call (by assumption) (by simp) (by assumption)
      | with_reducible exact kq_grown (by assumption) (by simp) (by assumption) (by simp [Value.ownBlock])
      | ((repeat (first | (with_reducible refine kq_set ?_ (by first | (simp; done) | (simp; omega) | omega) _) | (with_reducible refine kq_alloc ?_ (by first | exact Nat.le_refl _ | (simp; done) | (simp; omega)) _))); (with_reducible assumption))
      | ((with_reducible refine kq ?_); (repeat (first | (with_reducible exact Below.refl _ _) | (with_reducible refine Below.drew ?_) | (with_reducible refine Below.alloc ?_ (by simp) _) | (with_reducible refine Below.setCell ?_ (by simp) _) | (with_reducible exact (by assumption : KQ _ _ _).1))); done))
          (first
            | (go_at_call 34; refine (cM.out A4 c4' _ (by first | exact hown4'.rd.1 | exact (hown4'.below ((Below.refl _ _).alloc (Nat.le_refl _) _)).rd.1)).mono ?_
               rintro e v5 ⟨A5, n5, c5, rfl, o5, hb5⟩
               have hz5 := hb5.size
               (try simp at hz5)
               have hq5 : KQ W.heap.size W v5 := kq_call (by assumption) (Nat.le_refl _) hb5
               (first
                 | (have hx5 := (hb5.block _ (blk_lt hx4)).trans hx4
                    have hfx := blk_frozen hx5
                    have x0 := blk_cell hx5 0
                    have x1 := blk_cell hx5 1
                    have x2 := blk_cell hx5 2
                    have x3 := blk_cell hx5 3
                    have x4 := blk_cell hx5 4
                    have x5 := blk_cell hx5 5
                    have x6 := blk_cell hx5 6
                    have x7 := blk_cell hx5 7
                    have x8 := blk_cell hx5 8
                    simp at x0 x1 x2 x3 x4 x5 x6 x7 x8)
                 | (have hx5 : v5.heap[v4.heap.size]? = some (.cells #[.int .u32 0, .int .u32 0, .int .u32 0, .int .u32 0, .int .u32 0, .int .u32 0, .int .u32 0, .int .u32 0, .slice none 0 0] 50 (0, 0)) := (hb5.block _ (by simp; done)).trans (heap_at _ _ rfl)
                    have hfx := blk_frozen hx5
                    have x0 := blk_cell hx5 0
                    have x1 := blk_cell hx5 1
                    have x2 := blk_cell hx5 2
                    have x3 := blk_cell hx5 3
                    have x4 := blk_cell hx5 4
                    have x5 := blk_cell hx5 5
                    have x6 := blk_cell hx5 6
                    have x7 := blk_cell hx5 7
                    have x8 := blk_cell hx5 8
                    simp at x0 x1 x2 x3 x4 x5 x6 x7 x8)
                 | skip))
            | (refine step_append_rd _ rfl _ _ _ rfl eId (base := W.heap.size) (v := .slice (some ⟨W.heap.size, 0, none⟩) 0 0) (xs := []) rfl (Ow.made_at (by first | exact heap_drew (heap_at _ _ (by first | rfl | (simp; done))) | exact heap_drew (heap_old _ (by simp) (heap_drew (heap_at _ _ rfl)))) (by omega)) rfl (kq_rd (n := W.heap.size) hAW (Nat.le_refl _) (by assumption)) Im.len Im.one (by simp [maxLen]; omega) (by simp; omega) (by first | (simp; done) | (simp; omega)) ?_
               intro A4 n4 c4' v4 hn4 hown4 hg4 hat4
               obtain rfl : n = n4 := by simpa using hn4.symm
               clear hn4 hat4
               have hz4 := hg4.size
               simp at hz4
               have hown4' : Ow v4 W.heap.size 35 2 (.slice A4 n c4') ((xs).map Im.enc) := by simpa using hown4
               clear hown4
               (try (have hx4 : v4.heap[W.heap.size + 1]? = some (.cells #[.int .u32 0, .int .u32 0, .int .u32 0, .int .u32 0, .int .u32 0, .int .u32 0, .int .u32 0, .int .u32 0, .slice none 0 0] 50 (0, 0)) := (hg4.block _ (by simp; done) (by simp [Value.ownBlock]; done)).trans (heap_drew (heap_at _ _ (by simp; done)))))
               (try (have hx4 : v4.heap[W.heap.size]? = some (.cells #[.int .u32 0, .int .u32 0, .int .u32 0, .int .u32 0, .int .u32 0, .int .u32 0, .int .u32 0, .int .u32 0, .slice none 0 0] 50 (0, 0)) := (hg4.block _ (by simp; omega) (by simp [Value.ownBlock]; done)).trans (heap_drew (heap_old _ (by simp; done) (heap_drew (heap_at _ _ rfl))))))
               have hq4 : KQ W.heap.size W v4 := by
                 refine kq_grown ?_ (Nat.le_refl _) hg4 ?_
                 · assumption
                 · intro k hk; simp [Value.ownBlock] at hk; omega
               clear hg4)
            | (refine step_append_rd _ rfl _ _ _ rfl eId (base := W.heap.size) (v := .slice (some ⟨W.heap.size + 1, 0, none⟩) 0 0) (xs := []) rfl (Ow.made_at (by first | exact heap_drew (heap_at _ _ (by first | rfl | (simp; done))) | exact heap_drew (heap_old _ (by simp) (heap_drew (heap_at _ _ rfl)))) (by omega)) rfl (kq_rd (n := W.heap.size) hAW (Nat.le_refl _) (by assumption)) Im.len Im.one (by simp [maxLen]; omega) (by simp; omega) (by first | (simp; done) | (simp; omega)) ?_
               intro A4 n4 c4' v4 hn4 hown4 hg4 hat4
               obtain rfl : n = n4 := by simpa using hn4.symm
               clear hn4 hat4
               have hz4 := hg4.size
               simp at hz4
               have hown4' : Ow v4 W.heap.size 35 2 (.slice A4 n c4') ((xs).map Im.enc) := by simpa using hown4
               clear hown4
               (try (have hx4 : v4.heap[W.heap.size + 1]? = some (.cells #[.int .u32 0, .int .u32 0, .int .u32 0, .int .u32 0, .int .u32 0, .int .u32 0, .int .u32 0, .int .u32 0, .slice none 0 0] 50 (0, 0)) := (hg4.block _ (by simp; done) (by simp [Value.ownBlock]; done)).trans (heap_drew (heap_at _ _ (by simp; done)))))
               (try (have hx4 : v4.heap[W.heap.size]? = some (.cells #[.int .u32 0, .int .u32 0, .int .u32 0, .int .u32 0, .int .u32 0, .int .u32 0, .int .u32 0, .int .u32 0, .slice none 0 0] 50 (0, 0)) := (hg4.block _ (by simp; omega) (by simp [Value.ownBlock]; done)).trans (heap_drew (heap_old _ (by simp; done) (heap_drew (heap_at _ _ rfl))))))
               have hq4 : KQ W.heap.size W v4 := by
                 refine kq_grown ?_ (Nat.le_refl _) hg4 ?_
                 · assumption
                 · intro k hk; simp [Value.ownBlock] at hk; omega
               clear hg4))
        all_goals
          (go_wp2_with fail
           go_meet
           refine ⟨_, A5, n5, c5, rfl, by omega, rfl, ?_, ?_, ?_⟩
           · first
               | (with_reducible exact heap9 hx5 _ _ _ _ _ _ _ _ _)
               | (with_reducible exact heap_at _ _ rfl)
           · first
               | (with_reducible refine Ow.base (base := v4.heap.size) ?_ (by omega)
                  repeat (with_reducible refine Ow.setCell ?_ (by first | (simp; done) | (simp; omega) | omega) _)
                  with_reducible exact o5)
               | (with_reducible refine Ow.base (base := v4.heap.size + 1) ?_ (by omega)
                  repeat (with_reducible refine Ow.setCell ?_ (by first | (simp; done) | (simp; omega) | omega) _)
                  with_reducible exact o5.base (by simp))
               | exact (o5.below ((Below.refl _ _).alloc (Nat.le_refl _) _)).base (by omega)
           · first
               | (with_reducible exact (kq_alloc hq5 (Nat.le_refl _) _).1)
               | (have hq5B := hq5.1
                  repeat (first | (with_reducible exact hq5B) | (with_reducible refine Below.drew ?_) | (with_reducible refine Below.alloc ?_ (by first | (simp; done) | (simp; omega) | omega) _) | (with_reducible refine Below.setCell ?_ (by first | (simp; done) | (simp; omega) | omega) _))))
    case rest =>
      obtain ⟨ga, Aa, na, ka, rfl, hga, rfl, hbA1, oa, hB1⟩ := hcut
      obtain ⟨w1, hw1⟩ : ∃ w1, w1 = wc := ⟨_, rfl⟩
      obtain rfl := hw1
      clear q0 q1 q2 q3 q4 q5 q6 q7 q8 s0 s1 cM
      have hG1 : Below w.heap.size w w1 := hW.trans (hB1.mono hzW)
      have hbC1 := blk_below hAk.out hB1
      have hltC1 := blk_lt hbC1
      have hltA1 := blk_lt hbA1
      have q0 := blk_cell hbC1 0
      have q1 := blk_cell hbC1 1
      have q2 := blk_cell hbC1 2
      have q3 := blk_cell hbC1 3
      have q4 := blk_cell hbC1 4
      have q5 := blk_cell hbC1 5
      have q6 := blk_cell hbC1 6
      have q7 := blk_cell hbC1 7
      have q8 := blk_cell hbC1 8
      simp at q0 q1 q2 q3 q4 q5 q6 q7 q8
      go_wp2_with fail
      refine (cR.out w1 hG1).mono ?_
      rintro e w2 ⟨Ab, nb, kb, rfl, ob, hb2⟩
      clear q0 q1 q2 q3 q4 q5 q6 q7 q8 cR hbC1 hltC1
      go_upto_region 5 with (fail)
      obtain ⟨w3, hw3⟩ : ∃ w3, w2.alloc (.cells #[.int .u32 mv.d0, .int .u32 mv.d1, .int .u32 mv.d2, .int .u32 mv.d3, .int .u32 mv.d4, .int .u32 mv.d5, .int .u32 mv.d6, .int .u32 mv.d7, .slice Ab nb kb] 49) = w3 := ⟨_, rfl⟩
      have hbB3 : w3.heap[w2.heap.size]? = some (.cells #[.int .u32 mv.d0, .int .u32 mv.d1, .int .u32 mv.d2, .int .u32 mv.d3, .int .u32 mv.d4, .int .u32 mv.d5, .int .u32 mv.d6, .int .u32 mv.d7, .slice Ab nb kb] 49 (0, 0)) := by rw [← hw3]; exact heap_at _ _ rfl
      have hb3 : Below w2.heap.size w2 w3 := by rw [← hw3]; exact (Below.refl _ w2).alloc (Nat.le_refl _) _
      rw [hw3]
      clear hw3
      have hz2 := hb2.size
      have hz3 := hb3.size
      have hB3 : Below W.heap.size W w3 := (hB1.trans (hb2.mono hB1.size)).trans (hb3.mono (Nat.le_trans hB1.size hz2))
      have hG3 : Below w.heap.size w w3 := hW.trans (hB3.mono hzW)
      have hbA3 := blk_below (blk_below hbA1 hb2) hb3
      have oa3 := (oa.below hb2).below hb3
      have ob3 := ob.below hb3
      have hbC3 := blk_below hAk.out hB3
      have hltC3 := blk_lt hbC3
      have hltB3 := blk_lt hbB3
      have hbI3 := blk_below hBk.out hB3
      have hltI3 := blk_lt hbI3
      have q0 := blk_cell hbC3 0
      have q1 := blk_cell hbC3 1
      have q2 := blk_cell hbC3 2
      have q3 := blk_cell hbC3 3
      have q4 := blk_cell hbC3 4
      have q5 := blk_cell hbC3 5
      have q6 := blk_cell hbC3 6
      have q7 := blk_cell hbC3 7
      have q8 := blk_cell hbC3 8
      simp at q0 q1 q2 q3 q4 q5 q6 q7 q8
      have s0 := blk_cell hbI3 0
      have s1 := blk_cell hbI3 1
      simp at s0 s1
      have cT3 := Lib.hid (fun w' (hb : Below w3.heap.size w3 w') => cT.out w' (hG3.trans (hb.mono hG3.size)))
      clear hbA1 oa ob hbC3 hbI3 hB1 hb2 hb3 hG1 hltA1
      skip
      go_cut [9, 10] (fun sa sb wx => ∃ g A' n' c', sa = .pointer (some ⟨g, 0, none⟩) ∧ w3.heap.size ≤ g ∧ sb = .int .i64 ae ∧ wx.heap[g]? = some (.cells #[.int .u32 av.d0, .int .u32 av.d1, .int .u32 av.d2, .int .u32 av.d3, .int .u32 av.d4, .int .u32 av.d5, .int .u32 av.d6, .int .u32 av.d7, .slice A' n' c'] 50 (0, 0)) ∧ Ow wx w3.heap.size 35 2 (.slice A' n' c') ((ad).map Im.enc) ∧ Below w3.heap.size w3 wx)
      case first =>
        have hq0 : KQ w3.heap.size w3 w3 := kq (Below.refl _ _)
        go_region_held3 (fun w' => KQ w3.heap.size w3 w') (first
      | with_reducible exact kq_call (by assumption) (by simp) (by assumption)
      | with_reducible exact kq_grown (by assumption) (by simp) (by assumption) (by simp [Value.ownBlock])
      | ((repeat (first | (with_reducible refine kq_set ?_ (by first | (simp; done) | (simp; omega) | omega) _) | (with_reducible refine kq_alloc ?_ (by first | exact Nat.le_refl _ | (simp; done) | (simp; omega)) _))); (with_reducible assumption))
      | ((with_reducible refine kq ?_); (repeat (first | (with_reducible exact Below.refl _ _) | (with_reducible refine Below.drew ?_) | (with_reducible refine Below.alloc ?_ (by simp) _) | (with_reducible refine Below.setCell ?_ (by simp) _) | (with_reducible exact (by assumption : KQ _ _ _).1))); done))
          (first
            | (go_at_call 37; refine (cT3.out _ (by with_reducible assumption : KQ w3.heap.size w3 _).1).mono ?_; rintro e v4 ⟨A4, c4', rfl, o4, hb4⟩
               have hz4 := hb4.size
               (try simp at hz4)
               have hq4 : KQ w3.heap.size w3 v4 := kq_call (by assumption) (by simp) hb4
               (try (have hx4 : v4.heap[w3.heap.size]? = some (.cells #[.int .u32 0, .int .u32 0, .int .u32 0, .int .u32 0, .int .u32 0, .int .u32 0, .int .u32 0, .int .u32 0, .slice none 0 0] 50 (0, 0)) := (hb4.block _ (by simp; done)).trans (heap_at _ _ (by simp; done)))))
            | (go_at_call 36; refine (cA.out A4 c4' _ (by first | exact o4.rd.1 | exact (o4.below ((Below.refl _ _).alloc (Nat.le_refl _) _)).rd.1) o4.rd.2.2.1 o4.rd.2.2.2).mono ?_
               rintro e v5 ⟨A5, n5, c5, rfl, o5, hb5⟩
               have hz5 := hb5.size
               (try simp at hz5)
               have hq5 : KQ w3.heap.size w3 v5 := kq_call (by assumption) (Nat.le_refl _) hb5
               (first
                 | (have hx5 := (hb5.block _ (blk_lt hx4)).trans hx4
                    have hfx := blk_frozen hx5
                    have x0 := blk_cell hx5 0
                    have x1 := blk_cell hx5 1
                    have x2 := blk_cell hx5 2
                    have x3 := blk_cell hx5 3
                    have x4 := blk_cell hx5 4
                    have x5 := blk_cell hx5 5
                    have x6 := blk_cell hx5 6
                    have x7 := blk_cell hx5 7
                    have x8 := blk_cell hx5 8
                    simp at x0 x1 x2 x3 x4 x5 x6 x7 x8)
                 | (have hx5 : v5.heap[v4.heap.size]? = some (.cells #[.int .u32 0, .int .u32 0, .int .u32 0, .int .u32 0, .int .u32 0, .int .u32 0, .int .u32 0, .int .u32 0, .slice none 0 0] 50 (0, 0)) := (hb5.block _ (by simp; done)).trans (heap_at _ _ rfl)
                    have hfx := blk_frozen hx5
                    have x0 := blk_cell hx5 0
                    have x1 := blk_cell hx5 1
                    have x2 := blk_cell hx5 2
                    have x3 := blk_cell hx5 3
                    have x4 := blk_cell hx5 4
                    have x5 := blk_cell hx5 5
                    have x6 := blk_cell hx5 6
                    have x7 := blk_cell hx5 7
                    have x8 := blk_cell hx5 8
                    simp at x0 x1 x2 x3 x4 x5 x6 x7 x8)
                 | skip)))
        all_goals
          (go_wp2_with fail
           go_meet
           refine ⟨_, A5, n5, c5, rfl, by omega, rfl, ?_, ?_, ?_⟩
           · first
               | (with_reducible exact heap9 hx5 _ _ _ _ _ _ _ _ _)
               | (with_reducible exact heap_at _ _ rfl)
           · first
               | (with_reducible refine Ow.base (base := v4.heap.size) ?_ (by omega)
                  repeat (with_reducible refine Ow.setCell ?_ (by first | (simp; done) | (simp; omega) | omega) _)
                  with_reducible exact o5)
               | (with_reducible refine Ow.base (base := v4.heap.size + 1) ?_ (by omega)
                  repeat (with_reducible refine Ow.setCell ?_ (by first | (simp; done) | (simp; omega) | omega) _)
                  with_reducible exact o5.base (by simp))
               | exact (o5.below ((Below.refl _ _).alloc (Nat.le_refl _) _)).base (by omega)
           · first
               | (with_reducible exact (kq_alloc hq5 (Nat.le_refl _) _).1)
               | (have hq5B := hq5.1
                  repeat (first | (with_reducible exact hq5B) | (with_reducible refine Below.drew ?_) | (with_reducible refine Below.alloc ?_ (by first | (simp; done) | (simp; omega) | omega) _) | (with_reducible refine Below.setCell ?_ (by first | (simp; done) | (simp; omega) | omega) _))))
      case rest =>
        obtain ⟨gc, Ac, nc, kc, rfl, hgc, rfl, hbX5, oc, hB5⟩ := hcut
        obtain ⟨w5, hw5⟩ : ∃ w5, w5 = wc := ⟨_, rfl⟩
        obtain rfl := hw5
        clear q0 q1 q2 q3 q4 q5 q6 q7 q8 s0 s1 cA cT3 hltC3 hltI3
        have hG5 : Below w.heap.size w w5 := hG3.trans (hB5.mono hG3.size)
        have hBW5 : Below W.heap.size W w5 := hB3.trans (hB5.mono hB3.size)
        have hbC5 := blk_below hAk.out hBW5
        have hltC5 := blk_lt hbC5
        have hbI5 := blk_below hBk.out hBW5
        have hltI5 := blk_lt hbI5
        have q0 := blk_cell hbC5 0
        have q1 := blk_cell hbC5 1
        have q2 := blk_cell hbC5 2
        have q3 := blk_cell hbC5 3
        have q4 := blk_cell hbC5 4
        have q5 := blk_cell hbC5 5
        have q6 := blk_cell hbC5 6
        have q7 := blk_cell hbC5 7
        have q8 := blk_cell hbC5 8
        simp at q0 q1 q2 q3 q4 q5 q6 q7 q8
        have s0 := blk_cell hbI5 0
        have s1 := blk_cell hbI5 1
        simp at s0 s1
        go_wp2_with fail
        refine (cB.out w5 hG5).mono ?_
        rintro e w6 ⟨Ad, nd, kd, rfl, od, hb6⟩
        clear q0 q1 q2 q3 q4 q5 q6 q7 q8 s0 s1 cB hbC5 hltC5 hbI5 hltI5
        go_upto_region 7 with (fail)
        obtain ⟨w7, hw7⟩ : ∃ w7, w6.alloc (.cells #[.int .u32 av.d0, .int .u32 av.d1, .int .u32 av.d2, .int .u32 av.d3, .int .u32 av.d4, .int .u32 av.d5, .int .u32 av.d6, .int .u32 av.d7, .slice Ad nd kd] 49) = w7 := ⟨_, rfl⟩
        have hbY7 : w7.heap[w6.heap.size]? = some (.cells #[.int .u32 av.d0, .int .u32 av.d1, .int .u32 av.d2, .int .u32 av.d3, .int .u32 av.d4, .int .u32 av.d5, .int .u32 av.d6, .int .u32 av.d7, .slice Ad nd kd] 49 (0, 0)) := by rw [← hw7]; exact heap_at _ _ rfl
        have hb7 : Below w6.heap.size w6 w7 := by rw [← hw7]; exact (Below.refl _ w6).alloc (Nat.le_refl _) _
        rw [hw7]
        clear hw7
        have hB57 : Below w5.heap.size w5 w7 := hb6.trans (hb7.mono hb6.size)
        have hB37 : Below w3.heap.size w3 w7 := hB5.trans (hB57.mono hB5.size)
        have hG7 : Below w.heap.size w w7 := hG5.trans (hB57.mono hG5.size)
        have hBW7 : Below W.heap.size W w7 := hBW5.trans (hB57.mono hBW5.size)
        have hbA7 := blk_below hbA3 hB37
        have hbB7 := blk_below hbB3 hB37
        have hbX7 := blk_below hbX5 hB57
        have hbC7 := blk_below hAk.out hBW7
        have hbI7 := blk_below hBk.out hBW7
        have oa7 := oa3.below hB37
        have ob7 := ob3.below hB37
        have oc7 := oc.below hB57
        have od7 := od.below hb7
        have S1 := Lib.hid (fun w' (h : KQ w7.heap.size w7 w') => (by
          have := rcsame_any mv mv Aa Ab na nb ka kb md md w' (oa7.below h.1).rd.1 (ob7.below h.1).rd.1 (Nat.le_trans oa7.rd.2.2.1 oa7.rd.2.2.2) (Nat.le_trans ob7.rd.2.2.1 ob7.rd.2.2.2)
          rw [show (eqV mv mv && decide (md = md)) = true from by rw [eqV_iff.2 rfl]; simp] at this
          exact this : Calls Try.prog 39 #[.agg #[.int .u32 mv.d0, .int .u32 mv.d1, .int .u32 mv.d2, .int .u32 mv.d3, .int .u32 mv.d4, .int .u32 mv.d5, .int .u32 mv.d6, .int .u32 mv.d7, .slice Aa na ka], .agg #[.int .u32 mv.d0, .int .u32 mv.d1, .int .u32 mv.d2, .int .u32 mv.d3, .int .u32 mv.d4, .int .u32 mv.d5, .int .u32 mv.d6, .int .u32 mv.d7, .slice Ab nb kb]] w' fun e w'' => e = .returned (.bool true) ∧ Below w'.heap.size w' w''))
        have S2 := Lib.hid (fun w' (h : KQ w7.heap.size w7 w') => (by
          have := rcsame_any av av Ac Ad nc nd kc kd ad ad w' (oc7.below h.1).rd.1 (od7.below h.1).rd.1 (Nat.le_trans oc7.rd.2.2.1 oc7.rd.2.2.2) (Nat.le_trans od7.rd.2.2.1 od7.rd.2.2.2)
          rw [show (eqV av av && decide (ad = ad)) = true from by rw [eqV_iff.2 rfl]; simp] at this
          exact this : Calls Try.prog 39 #[.agg #[.int .u32 av.d0, .int .u32 av.d1, .int .u32 av.d2, .int .u32 av.d3, .int .u32 av.d4, .int .u32 av.d5, .int .u32 av.d6, .int .u32 av.d7, .slice Ac nc kc], .agg #[.int .u32 av.d0, .int .u32 av.d1, .int .u32 av.d2, .int .u32 av.d3, .int .u32 av.d4, .int .u32 av.d5, .int .u32 av.d6, .int .u32 av.d7, .slice Ad nd kd]] w' fun e w'' => e = .returned (.bool true) ∧ Below w'.heap.size w' w''))
        have cT7 := Lib.hid (fun w' (h : KQ w7.heap.size w7 w') => cT.out w' (hG7.trans (h.1.mono hG7.size)))
        have cD7 := Lib.hid (fun w' (h : KQ w7.heap.size w7 w') => cD.out w' (hG7.trans (h.1.mono hG7.size)))
        have cI7 := Lib.hid (fun w' (h : KQ w7.heap.size w7 w') => cI.out w' (hG7.trans (h.1.mono hG7.size)))
        have hltA7 := blk_lt hbA7
        have hltB7 := blk_lt hbB7
        have hltX7 := blk_lt hbX7
        have hltY7 := blk_lt hbY7
        have hltC7 := blk_lt hbC7
        have hltI7 := blk_lt hbI7
        have qa0 := blk_cell hbA7 0
        have qa1 := blk_cell hbA7 1
        have qa2 := blk_cell hbA7 2
        have qa3 := blk_cell hbA7 3
        have qa4 := blk_cell hbA7 4
        have qa5 := blk_cell hbA7 5
        have qa6 := blk_cell hbA7 6
        have qa7 := blk_cell hbA7 7
        have qa8 := blk_cell hbA7 8
        simp at qa0 qa1 qa2 qa3 qa4 qa5 qa6 qa7 qa8
        have qb0 := blk_cell hbB7 0
        have qb1 := blk_cell hbB7 1
        have qb2 := blk_cell hbB7 2
        have qb3 := blk_cell hbB7 3
        have qb4 := blk_cell hbB7 4
        have qb5 := blk_cell hbB7 5
        have qb6 := blk_cell hbB7 6
        have qb7 := blk_cell hbB7 7
        have qb8 := blk_cell hbB7 8
        simp at qb0 qb1 qb2 qb3 qb4 qb5 qb6 qb7 qb8
        have qx0 := blk_cell hbX7 0
        have qx1 := blk_cell hbX7 1
        have qx2 := blk_cell hbX7 2
        have qx3 := blk_cell hbX7 3
        have qx4 := blk_cell hbX7 4
        have qx5 := blk_cell hbX7 5
        have qx6 := blk_cell hbX7 6
        have qx7 := blk_cell hbX7 7
        have qx8 := blk_cell hbX7 8
        simp at qx0 qx1 qx2 qx3 qx4 qx5 qx6 qx7 qx8
        have qy0 := blk_cell hbY7 0
        have qy1 := blk_cell hbY7 1
        have qy2 := blk_cell hbY7 2
        have qy3 := blk_cell hbY7 3
        have qy4 := blk_cell hbY7 4
        have qy5 := blk_cell hbY7 5
        have qy6 := blk_cell hbY7 6
        have qy7 := blk_cell hbY7 7
        have qy8 := blk_cell hbY7 8
        simp at qy0 qy1 qy2 qy3 qy4 qy5 qy6 qy7 qy8
        have qc0 := blk_cell hbC7 0
        have qc1 := blk_cell hbC7 1
        have qc2 := blk_cell hbC7 2
        have qc3 := blk_cell hbC7 3
        have qc4 := blk_cell hbC7 4
        have qc5 := blk_cell hbC7 5
        have qc6 := blk_cell hbC7 6
        have qc7 := blk_cell hbC7 7
        have qc8 := blk_cell hbC7 8
        simp at qc0 qc1 qc2 qc3 qc4 qc5 qc6 qc7 qc8
        have s0 := blk_cell hbI7 0
        have s1 := blk_cell hbI7 1
        simp at s0 s1
        clear oa3 ob3 oc od oa7 ob7 oc7 od7 hbA3 hbB3 hbX5 hbA7 hbB7 hbX7 hbY7 hbC7 hbI7 cT cD cI hB57 hB37 hBW7 hBW5 hb6 hb7 hB5 hB3 hG5 hG3 hltB3
        have hq0 : KQ w7.heap.size w7 w7 := kq (Below.refl _ _)
        go_region_held3 (fun w' => KQ w7.heap.size w7 w') (first
      | with_reducible exact kq_call (by assumption) (by simp) (by assumption)
      | with_reducible exact kq_grown (by assumption) (by simp) (by assumption) (by simp [Value.ownBlock])
      | ((with_reducible refine kq ?_); (repeat (first | (with_reducible exact Below.refl _ _) | (with_reducible refine Below.drew ?_) | (with_reducible refine Below.alloc ?_ (by simp) _) | (with_reducible refine Below.setCell ?_ (by simp) _) | (with_reducible exact (by assumption : KQ _ _ _).1))); done))
          (first
            | (go_at_call 40; refine (from_any _ _ _ _ _).mono ?_; rintro e v1 ⟨rfl, hb1⟩)
            | (go_at_call 39; (first | (with_reducible refine (S1.out _ (by assumption)).mono ?_) | (with_reducible refine (S2.out _ (by assumption)).mono ?_)); rintro e v2 ⟨rfl, hb2⟩)
            | (go_at_call 37; refine (cT7.out _ (by assumption)).mono ?_; rintro e v3 ⟨A9, c9, rfl, o9, hb3⟩)
            | (go_at_call 41; refine (cC.out A9 c9 _ (by first | exact o9.rd.1 | exact (o9.below (Below.refl _ _).drew).rd.1)).mono ?_; rintro e v4 ⟨rfl, hb4⟩)
            | (go_at_call 42; refine (cD7.out _ (by assumption)).mono ?_; rintro e v5 ⟨rfl, hb5⟩)
            | (go_at_call 43; refine (cH.out A9 c9 _ (by first | exact o9.rd.1 | exact (o9.below (Below.refl _ _).drew).rd.1)).mono ?_; rintro e v6 ⟨rfl, hb6⟩)
            | (go_at_call 44; refine (cI7.out _ (by assumption)).mono ?_; rintro e v7 ⟨rfl, hb7⟩))
        have hF : KQ w7.heap.size w7 v7 := by with_reducible assumption
        have hG := hG7.trans (hF.1.mono hG7.size)
        go_wp2
        go_ret
        exact ⟨rfl, hG⟩
end Go.Proofs.Ythfjbbijcemmoaa
