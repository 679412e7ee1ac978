/- The statement CutKnows, walked. -/
import Derived.Test.YthfjbbijcemmoaaCmW
import Derived.Test.YthfjbbijcemmoaaCtI
namespace Go.Proofs.Ythfjbbijcemmoaa
open Go.RowKit

theorem grI_kn {n : Nat} (h : grI n = false) : n ≤ 1100 := by
  unfold grI at h
  rw [decide_eq_false_iff_not] at h
  omega
theorem kn_true {e : Ending} {w w' : World} {P : Prop} {n : Nat} (h : ∃ r : Bool, e = .returned (.bool r) ∧ (r = true ↔ P) ∧ Below n w w') (hP : P) : e = .returned (.bool true) ∧ Below n w w' := by
  obtain ⟨r, he, hr, hb⟩ := h
  exact ⟨by rw [he, hr.2 hP], hb⟩
theorem kn_false {e : Ending} {w w' : World} {P : Prop} {n : Nat} (h : ∃ r : Bool, e = .returned (.bool r) ∧ (r = true ↔ P) ∧ Below n w w') (hP : ¬ P) : e = .returned (.bool false) ∧ Below n w w' := by
  obtain ⟨r, he, hr, hb⟩ := h
  cases r
  · exact ⟨he, hb⟩
  · exact absurd (hr.1 rfl) hP
theorem kn_len {v : Vm} {xs : List Im} (h : cutErr (rcV v xs) (rcD v xs) = 0) : (rcD v xs).length ≤ 64 := (lerr_zero.1 (cut_ok.1 h).2.1).1
theorem kn_wf {v : Vm} {xs : List Im} (h : cutErr v xs = 0) : ∀ x ∈ xs, x.wf := fun x hx => chk_wf ((lerr_zero.1 (cut_ok.1 h).2.1).2.1 x hx)
theorem kn_vwf {v : Vm} (xs : List Im) (h : v.wf) : (rcV v xs).wf := by
  unfold rcV
  split
  · exact zV_wf
  · exact foldV_wf _ h
set_option maxRecDepth 100000 in
set_option maxHeartbeats 8000000 in
theorem cutknows_any (v u : Vm) (A B : Option Addr) (n m c d : Nat) (xs ys : List Im) (x : Im) (w : World) (hA : RdI w w.heap.size A n xs) (hB : RdI w w.heap.size B m ys) (hv : v.wf) (hu : u.wf) (hx : ∀ x ∈ xs, x.wf) (hy : ∀ x ∈ ys, x.wf) (hxw : x.wf) :
    Calls Try.prog 10 #[.agg #[.int .u32 v.d0, .int .u32 v.d1, .int .u32 v.d2, .int .u32 v.d3, .int .u32 v.d4, .int .u32 v.d5, .int .u32 v.d6, .int .u32 v.d7, .slice A n c], .agg #[.int .u32 u.d0, .int .u32 u.d1, .int .u32 u.d2, .int .u32 u.d3, .int .u32 u.d4, .int .u32 u.d5, .int .u32 u.d6, .int .u32 u.d7, .slice B m d], .agg #[.int .i64 x.1, .int .u32 x.2]] w fun e w' => e = .returned (.bool true) ∧ Below w.heap.size w w' := by
  have hW : Below w.heap.size w (((w.alloc (.cells #[.int .u32 v.d0, .int .u32 v.d1, .int .u32 v.d2, .int .u32 v.d3, .int .u32 v.d4, .int .u32 v.d5, .int .u32 v.d6, .int .u32 v.d7, .slice A n c] 49)).alloc (.cells #[.int .u32 u.d0, .int .u32 u.d1, .int .u32 u.d2, .int .u32 u.d3, .int .u32 u.d4, .int .u32 u.d5, .int .u32 u.d6, .int .u32 u.d7, .slice B m d] 49)).alloc (.cells #[.int .i64 x.1, .int .u32 x.2] 35)) := (((Below.refl _ w).alloc (Nat.le_refl _) _).alloc (by simp) _).alloc (by simp; omega) _
  have hbA : (((w.alloc (.cells #[.int .u32 v.d0, .int .u32 v.d1, .int .u32 v.d2, .int .u32 v.d3, .int .u32 v.d4, .int .u32 v.d5, .int .u32 v.d6, .int .u32 v.d7, .slice A n c] 49)).alloc (.cells #[.int .u32 u.d0, .int .u32 u.d1, .int .u32 u.d2, .int .u32 u.d3, .int .u32 u.d4, .int .u32 u.d5, .int .u32 u.d6, .int .u32 u.d7, .slice B m d] 49)).alloc (.cells #[.int .i64 x.1, .int .u32 x.2] 35)).heap[w.heap.size]? = some (.cells #[.int .u32 v.d0, .int .u32 v.d1, .int .u32 v.d2, .int .u32 v.d3, .int .u32 v.d4, .int .u32 v.d5, .int .u32 v.d6, .int .u32 v.d7, .slice A n c] 49 (0, 0)) := heap_old _ (by simp; omega) (heap_old _ (by simp) (heap_at _ _ rfl))
  have hbB : (((w.alloc (.cells #[.int .u32 v.d0, .int .u32 v.d1, .int .u32 v.d2, .int .u32 v.d3, .int .u32 v.d4, .int .u32 v.d5, .int .u32 v.d6, .int .u32 v.d7, .slice A n c] 49)).alloc (.cells #[.int .u32 u.d0, .int .u32 u.d1, .int .u32 u.d2, .int .u32 u.d3, .int .u32 u.d4, .int .u32 u.d5, .int .u32 u.d6, .int .u32 u.d7, .slice B m d] 49)).alloc (.cells #[.int .i64 x.1, .int .u32 x.2] 35)).heap[w.heap.size + 1]? = some (.cells #[.int .u32 u.d0, .int .u32 u.d1, .int .u32 u.d2, .int .u32 u.d3, .int .u32 u.d4, .int .u32 u.d5, .int .u32 u.d6, .int .u32 u.d7, .slice B m d] 49 (0, 0)) := heap_old _ (by simp) (heap_at _ _ (by simp))
  have hbI : (((w.alloc (.cells #[.int .u32 v.d0, .int .u32 v.d1, .int .u32 v.d2, .int .u32 v.d3, .int .u32 v.d4, .int .u32 v.d5, .int .u32 v.d6, .int .u32 v.d7, .slice A n c] 49)).alloc (.cells #[.int .u32 u.d0, .int .u32 u.d1, .int .u32 u.d2, .int .u32 u.d3, .int .u32 u.d4, .int .u32 u.d5, .int .u32 u.d6, .int .u32 u.d7, .slice B m d] 49)).alloc (.cells #[.int .i64 x.1, .int .u32 x.2] 35)).heap[w.heap.size + 1 + 1]? = some (.cells #[.int .i64 x.1, .int .u32 x.2] 35 (0, 0)) := heap_at _ _ (by simp)
  generalize hWe : (((w.alloc (.cells #[.int .u32 v.d0, .int .u32 v.d1, .int .u32 v.d2, .int .u32 v.d3, .int .u32 v.d4, .int .u32 v.d5, .int .u32 v.d6, .int .u32 v.d7, .slice A n c] 49)).alloc (.cells #[.int .u32 u.d0, .int .u32 u.d1, .int .u32 u.d2, .int .u32 u.d3, .int .u32 u.d4, .int .u32 u.d5, .int .u32 u.d6, .int .u32 u.d7, .slice B m d] 49)).alloc (.cells #[.int .i64 x.1, .int .u32 x.2] 35)) = W at hW hbA hbB hbI
  have hAk := Lib.hid hbA
  have hBk := Lib.hid hbB
  have hIk := Lib.hid hbI
  have hzW := hW.size
  have g1 := great_any A n c
  have g2 := great_any B m d
  generalize hga : grI n = ga at g1
  generalize hgb : grI m = gb at g2
  have gaH := Lib.hid hga
  have gbH := Lib.hid hgb
  clear hbA hbB hbI hga hgb
  go_enter Try.func10, Try.ntmps10
  go_wp2_with fail
  refine (works8_any _).mono ?_
  rintro e w1 ⟨rfl, hb1⟩
  have hG1 : Below w.heap.size w w1 := hW.trans (hb1.mono hzW)
  skip
  have qX := blk_below hAk.out hb1
  have hltA1 := blk_lt qX
  have q0 := blk_cell qX 0
  have q1 := blk_cell qX 1
  have q2 := blk_cell qX 2
  have q3 := blk_cell qX 3
  have q4 := blk_cell qX 4
  have q5 := blk_cell qX 5
  have q6 := blk_cell qX 6
  have q7 := blk_cell qX 7
  have q8 := blk_cell qX 8
  simp at q0 q1 q2 q3 q4 q5 q6 q7 q8
  clear qX
  have sX := blk_below hBk.out hb1
  have hltB1 := blk_lt sX
  have s0 := blk_cell sX 0
  have s1 := blk_cell sX 1
  have s2 := blk_cell sX 2
  have s3 := blk_cell sX 3
  have s4 := blk_cell sX 4
  have s5 := blk_cell sX 5
  have s6 := blk_cell sX 6
  have s7 := blk_cell sX 7
  have s8 := blk_cell sX 8
  simp at s0 s1 s2 s3 s4 s5 s6 s7 s8
  clear sX
  go_wp2_with fail
  refine (g1 _).mono ?_
  rintro e w2 ⟨rfl, hw2⟩
  obtain rfl := hw2.symm
  cases ga
  case true =>
    go_wp2
    go_ret
    exact ⟨rfl, hG1⟩
  go_wp2_with fail
  refine (g2 _).mono ?_
  rintro e w2 ⟨rfl, hw2⟩
  obtain rfl := hw2.symm
  cases gb
  case true =>
    go_wp2
    go_ret
    exact ⟨rfl, hG1⟩
  have hn := grI_kn gaH.out
  have hm := grI_kn gbH.out
  clear g1 g2 gaH gbH
  have hA1 : RdI w1 w1.heap.size A n xs := (hA.below hG1).more hG1.size
  have cA := Lib.hid (fun A' c' w' (h1 : RdI w' w'.heap.size A' n xs) => cmake_any v A' n c' xs w' h1 hn hv hx)
  have cB := Lib.hid (fun A' c' w' (h1 : RdI w' w'.heap.size A' m ys) => cmake_any u A' m c' ys w' h1 hm hu hy)
  have cI := Lib.hid (fun w' (hb : Below w.heap.size w w') => rchas_any v A n c xs x w' ((hA.below hb).more hb.size) hn hxw)
  have pw := Lib.hid (kn_vwf xs hv)
  have qw := Lib.hid (kn_vwf ys hu)
  have pk := Lib.hid (fun h : rcErr v xs = 0 => (make_law h).1)
  have qk := Lib.hid (fun h : rcErr u ys = 0 => (make_law h).1)
  have pkn := Lib.hid (fun h : rcErr v xs = 0 => (make_law h).2 x)
  have hBH := Lib.hid hB
  have hxwH := Lib.hid hxw
  generalize rcV v xs = pv at *
  generalize rcD v xs = pd at *
  generalize rcErr v xs = pe at *
  generalize rcV u ys = qv at *
  generalize rcD u ys = qd at *
  generalize rcErr u ys = qe at *
  generalize hasC v xs x = hx0 at *
  have hl := hA1.len
  clear hA hB
  go_upto_region 5 with (fail)
  skip
  go_cut [7, 8] (fun sa sb wx => ∃ g A' n' c', sa = .pointer (some ⟨g, 0, none⟩) ∧ w1.heap.size ≤ g ∧ sb = .int .i64 pe ∧ wx.heap[g]? = some (.cells #[.int .u32 pv.d0, .int .u32 pv.d1, .int .u32 pv.d2, .int .u32 pv.d3, .int .u32 pv.d4, .int .u32 pv.d5, .int .u32 pv.d6, .int .u32 pv.d7, .slice A' n' c'] 50 (0, 0)) ∧ Ow wx w1.heap.size 35 2 (.slice A' n' c') ((pd).map Im.enc) ∧ Below w1.heap.size w1 wx)
  case first =>
        have hq0 : KQ w1.heap.size w1 w1 := kq (Below.refl _ _)
        go_region_held3 (fun w' => KQ w1.heap.size w1 w') (first
      | with_reducible exact kq_call (by assumption) (by simp) (by assumption)
      | with_reducible exact kq_grown (by assumption) (by simp) (by assumption) (by simp [Value.ownBlock])
      | ((repeat (first | (with_reducible refine kq_set ?_ (by first | (simp; done) | (simp; omega) | omega) _) | (with_reducible refine kq_alloc ?_ (by first | exact Nat.le_refl _ | (simp; done) | (simp; omega)) _))); (with_reducible assumption))
      | ((with_reducible refine kq ?_); (repeat (first | (with_reducible exact Below.refl _ _) | (with_reducible refine Below.drew ?_) | (with_reducible refine Below.alloc ?_ (by simp) _) | (with_reducible refine Below.setCell ?_ (by simp) _) | (with_reducible exact (by assumption : KQ _ _ _).1))); done))
          (first
            | (go_at_call 34; refine (cA.out A4 c4' _ (by first | exact hown4'.rd.1 | exact (hown4'.below ((Below.refl _ _).alloc (Nat.le_refl _) _)).rd.1)).mono ?_
               rintro e v5 ⟨A5, n5, c5, rfl, o5, hb5⟩
               have hz5 := hb5.size
               (try simp at hz5)
               have hq5 : KQ w1.heap.size w1 v5 := kq_call (by assumption) (Nat.le_refl _) hb5
               (first
                 | (have hx5 := (hb5.block _ (blk_lt hx4)).trans hx4
                    have hfx := blk_frozen hx5
                    have x0 := blk_cell hx5 0
                    have x1 := blk_cell hx5 1
                    have x2 := blk_cell hx5 2
                    have x3 := blk_cell hx5 3
                    have x4 := blk_cell hx5 4
                    have x5 := blk_cell hx5 5
                    have x6 := blk_cell hx5 6
                    have x7 := blk_cell hx5 7
                    have x8 := blk_cell hx5 8
                    simp at x0 x1 x2 x3 x4 x5 x6 x7 x8)
                 | (have hx5 : v5.heap[v4.heap.size]? = some (.cells #[.int .u32 0, .int .u32 0, .int .u32 0, .int .u32 0, .int .u32 0, .int .u32 0, .int .u32 0, .int .u32 0, .slice none 0 0] 50 (0, 0)) := (hb5.block _ (by simp; done)).trans (heap_at _ _ rfl)
                    have hfx := blk_frozen hx5
                    have x0 := blk_cell hx5 0
                    have x1 := blk_cell hx5 1
                    have x2 := blk_cell hx5 2
                    have x3 := blk_cell hx5 3
                    have x4 := blk_cell hx5 4
                    have x5 := blk_cell hx5 5
                    have x6 := blk_cell hx5 6
                    have x7 := blk_cell hx5 7
                    have x8 := blk_cell hx5 8
                    simp at x0 x1 x2 x3 x4 x5 x6 x7 x8)
                 | skip))
            | (refine step_append_rd _ rfl _ _ _ rfl eId (base := w1.heap.size) (v := .slice (some ⟨w1.heap.size, 0, none⟩) 0 0) (xs := []) rfl (Ow.made_at (by first | exact heap_drew (heap_at _ _ (by first | rfl | (simp; done))) | exact heap_drew (heap_old _ (by simp) (heap_drew (heap_at _ _ rfl)))) (by omega)) rfl (kq_rd (n := w1.heap.size) hA1 (Nat.le_refl _) (by assumption)) Im.len Im.one (by simp [maxLen]; omega) (by simp; omega) (by first | (simp; done) | (simp; omega)) ?_
               intro A4 n4 c4' v4 hn4 hown4 hg4 hat4
               obtain rfl : n = n4 := by simpa using hn4.symm
               clear hn4 hat4
               have hz4 := hg4.size
               simp at hz4
               have hown4' : Ow v4 w1.heap.size 35 2 (.slice A4 n c4') ((xs).map Im.enc) := by simpa using hown4
               clear hown4
               (try (have hx4 : v4.heap[w1.heap.size + 1]? = some (.cells #[.int .u32 0, .int .u32 0, .int .u32 0, .int .u32 0, .int .u32 0, .int .u32 0, .int .u32 0, .int .u32 0, .slice none 0 0] 50 (0, 0)) := (hg4.block _ (by simp; done) (by simp [Value.ownBlock]; done)).trans (heap_drew (heap_at _ _ (by simp; done)))))
               (try (have hx4 : v4.heap[w1.heap.size]? = some (.cells #[.int .u32 0, .int .u32 0, .int .u32 0, .int .u32 0, .int .u32 0, .int .u32 0, .int .u32 0, .int .u32 0, .slice none 0 0] 50 (0, 0)) := (hg4.block _ (by simp; omega) (by simp [Value.ownBlock]; done)).trans (heap_drew (heap_old _ (by simp; done) (heap_drew (heap_at _ _ rfl))))))
               have hq4 : KQ w1.heap.size w1 v4 := by
                 refine kq_grown ?_ (Nat.le_refl _) hg4 ?_
                 · assumption
                 · intro k hk; simp [Value.ownBlock] at hk; omega
               clear hg4)
            | (refine step_append_rd _ rfl _ _ _ rfl eId (base := w1.heap.size) (v := .slice (some ⟨w1.heap.size + 1, 0, none⟩) 0 0) (xs := []) rfl (Ow.made_at (by first | exact heap_drew (heap_at _ _ (by first | rfl | (simp; done))) | exact heap_drew (heap_old _ (by simp) (heap_drew (heap_at _ _ rfl)))) (by omega)) rfl (kq_rd (n := w1.heap.size) hA1 (Nat.le_refl _) (by assumption)) Im.len Im.one (by simp [maxLen]; omega) (by simp; omega) (by first | (simp; done) | (simp; omega)) ?_
               intro A4 n4 c4' v4 hn4 hown4 hg4 hat4
               obtain rfl : n = n4 := by simpa using hn4.symm
               clear hn4 hat4
               have hz4 := hg4.size
               simp at hz4
               have hown4' : Ow v4 w1.heap.size 35 2 (.slice A4 n c4') ((xs).map Im.enc) := by simpa using hown4
               clear hown4
               (try (have hx4 : v4.heap[w1.heap.size + 1]? = some (.cells #[.int .u32 0, .int .u32 0, .int .u32 0, .int .u32 0, .int .u32 0, .int .u32 0, .int .u32 0, .int .u32 0, .slice none 0 0] 50 (0, 0)) := (hg4.block _ (by simp; done) (by simp [Value.ownBlock]; done)).trans (heap_drew (heap_at _ _ (by simp; done)))))
               (try (have hx4 : v4.heap[w1.heap.size]? = some (.cells #[.int .u32 0, .int .u32 0, .int .u32 0, .int .u32 0, .int .u32 0, .int .u32 0, .int .u32 0, .int .u32 0, .slice none 0 0] 50 (0, 0)) := (hg4.block _ (by simp; omega) (by simp [Value.ownBlock]; done)).trans (heap_drew (heap_old _ (by simp; done) (heap_drew (heap_at _ _ rfl))))))
               have hq4 : KQ w1.heap.size w1 v4 := by
                 refine kq_grown ?_ (Nat.le_refl _) hg4 ?_
                 · assumption
                 · intro k hk; simp [Value.ownBlock] at hk; omega
               clear hg4))
        all_goals
          (go_wp2_with fail
           go_meet
           refine ⟨_, A5, n5, c5, rfl, by omega, rfl, ?_, ?_, ?_⟩
           · first
               | (with_reducible exact heap9 hx5 _ _ _ _ _ _ _ _ _)
               | (with_reducible exact heap_at _ _ rfl)
           · first
               | (with_reducible refine Ow.base (base := v4.heap.size) ?_ (by omega)
                  repeat (with_reducible refine Ow.setCell ?_ (by first | (simp; done) | (simp; omega) | omega) _)
                  with_reducible exact o5)
               | (with_reducible refine Ow.base (base := v4.heap.size + 1) ?_ (by omega)
                  repeat (with_reducible refine Ow.setCell ?_ (by first | (simp; done) | (simp; omega) | omega) _)
                  with_reducible exact o5.base (by simp))
               | exact (o5.below ((Below.refl _ _).alloc (Nat.le_refl _) _)).base (by omega)
           · first
               | (with_reducible exact (kq_alloc hq5 (Nat.le_refl _) _).1)
               | (have hq5B := hq5.1
                  repeat (first | (with_reducible exact hq5B) | (with_reducible refine Below.drew ?_) | (with_reducible refine Below.alloc ?_ (by first | (simp; done) | (simp; omega) | omega) _) | (with_reducible refine Below.setCell ?_ (by first | (simp; done) | (simp; omega) | omega) _))))
  case rest =>
    obtain ⟨gp, Ap, np, kp, rfl, hgp, rfl, hbP, op, hB2⟩ := hcut
    obtain ⟨w2, hw2⟩ : ∃ w2, w2 = wc := ⟨_, rfl⟩
    obtain rfl := hw2
    skip
    (try clear q0 q1 q2 q3 q4 q5 q6 q7 q8)
    (try clear s0 s1 s2 s3 s4 s5 s6 s7 s8)
    (try clear t0 t1 t2 t3 t4 t5 t6 t7 t8)
    (try clear i0 i1)
    clear cA hltA1 hltB1 hl hA1
    have hG2 : Below w.heap.size w w2 := hG1.trans (hB2.mono hG1.size)
    have hBW2 : Below W.heap.size W w2 := hb1.trans (hB2.mono hb1.size)
    skip
    have sX := blk_below hBk.out hBW2
    have hltB2 := blk_lt sX
    have s0 := blk_cell sX 0
    have s1 := blk_cell sX 1
    have s2 := blk_cell sX 2
    have s3 := blk_cell sX 3
    have s4 := blk_cell sX 4
    have s5 := blk_cell sX 5
    have s6 := blk_cell sX 6
    have s7 := blk_cell sX 7
    have s8 := blk_cell sX 8
    simp at s0 s1 s2 s3 s4 s5 s6 s7 s8
    clear sX
    have hB2R : RdI w2 w2.heap.size B m ys := (hBH.out.below hG2).more hG2.size
    have hl := hB2R.len
    go_upto_region 6 with (fail)
    skip
    go_cut [9, 10] (fun sa sb wx => ∃ g A' n' c', sa = .pointer (some ⟨g, 0, none⟩) ∧ w2.heap.size ≤ g ∧ sb = .int .i64 qe ∧ wx.heap[g]? = some (.cells #[.int .u32 qv.d0, .int .u32 qv.d1, .int .u32 qv.d2, .int .u32 qv.d3, .int .u32 qv.d4, .int .u32 qv.d5, .int .u32 qv.d6, .int .u32 qv.d7, .slice A' n' c'] 50 (0, 0)) ∧ Ow wx w2.heap.size 35 2 (.slice A' n' c') ((qd).map Im.enc) ∧ Below w2.heap.size w2 wx)
    case first =>
        have hq0 : KQ w2.heap.size w2 w2 := kq (Below.refl _ _)
        go_region_held3 (fun w' => KQ w2.heap.size w2 w') (first
      | with_reducible exact kq_call (by assumption) (by simp) (by assumption)
      | with_reducible exact kq_grown (by assumption) (by simp) (by assumption) (by simp [Value.ownBlock])
      | ((repeat (first | (with_reducible refine kq_set ?_ (by first | (simp; done) | (simp; omega) | omega) _) | (with_reducible refine kq_alloc ?_ (by first | exact Nat.le_refl _ | (simp; done) | (simp; omega)) _))); (with_reducible assumption))
      | ((with_reducible refine kq ?_); (repeat (first | (with_reducible exact Below.refl _ _) | (with_reducible refine Below.drew ?_) | (with_reducible refine Below.alloc ?_ (by simp) _) | (with_reducible refine Below.setCell ?_ (by simp) _) | (with_reducible exact (by assumption : KQ _ _ _).1))); done))
          (first
            | (go_at_call 34; refine (cB.out A4 c4' _ (by first | exact hown4'.rd.1 | exact (hown4'.below ((Below.refl _ _).alloc (Nat.le_refl _) _)).rd.1)).mono ?_
               rintro e v5 ⟨A5, n5, c5, rfl, o5, hb5⟩
               have hz5 := hb5.size
               (try simp at hz5)
               have hq5 : KQ w2.heap.size w2 v5 := kq_call (by assumption) (Nat.le_refl _) hb5
               (first
                 | (have hx5 := (hb5.block _ (blk_lt hx4)).trans hx4
                    have hfx := blk_frozen hx5
                    have x0 := blk_cell hx5 0
                    have x1 := blk_cell hx5 1
                    have x2 := blk_cell hx5 2
                    have x3 := blk_cell hx5 3
                    have x4 := blk_cell hx5 4
                    have x5 := blk_cell hx5 5
                    have x6 := blk_cell hx5 6
                    have x7 := blk_cell hx5 7
                    have x8 := blk_cell hx5 8
                    simp at x0 x1 x2 x3 x4 x5 x6 x7 x8)
                 | (have hx5 : v5.heap[v4.heap.size]? = some (.cells #[.int .u32 0, .int .u32 0, .int .u32 0, .int .u32 0, .int .u32 0, .int .u32 0, .int .u32 0, .int .u32 0, .slice none 0 0] 50 (0, 0)) := (hb5.block _ (by simp; done)).trans (heap_at _ _ rfl)
                    have hfx := blk_frozen hx5
                    have x0 := blk_cell hx5 0
                    have x1 := blk_cell hx5 1
                    have x2 := blk_cell hx5 2
                    have x3 := blk_cell hx5 3
                    have x4 := blk_cell hx5 4
                    have x5 := blk_cell hx5 5
                    have x6 := blk_cell hx5 6
                    have x7 := blk_cell hx5 7
                    have x8 := blk_cell hx5 8
                    simp at x0 x1 x2 x3 x4 x5 x6 x7 x8)
                 | skip))
            | (refine step_append_rd _ rfl _ _ _ rfl eId (base := w2.heap.size) (v := .slice (some ⟨w2.heap.size, 0, none⟩) 0 0) (xs := []) rfl (Ow.made_at (by first | exact heap_drew (heap_at _ _ (by first | rfl | (simp; done))) | exact heap_drew (heap_old _ (by simp) (heap_drew (heap_at _ _ rfl)))) (by omega)) rfl (kq_rd (n := w2.heap.size) hB2R (Nat.le_refl _) (by assumption)) Im.len Im.one (by simp [maxLen]; omega) (by simp; omega) (by first | (simp; done) | (simp; omega)) ?_
               intro A4 n4 c4' v4 hn4 hown4 hg4 hat4
               obtain rfl : m = n4 := by simpa using hn4.symm
               clear hn4 hat4
               have hz4 := hg4.size
               simp at hz4
               have hown4' : Ow v4 w2.heap.size 35 2 (.slice A4 m c4') ((ys).map Im.enc) := by simpa using hown4
               clear hown4
               (try (have hx4 : v4.heap[w2.heap.size + 1]? = some (.cells #[.int .u32 0, .int .u32 0, .int .u32 0, .int .u32 0, .int .u32 0, .int .u32 0, .int .u32 0, .int .u32 0, .slice none 0 0] 50 (0, 0)) := (hg4.block _ (by simp; done) (by simp [Value.ownBlock]; done)).trans (heap_drew (heap_at _ _ (by simp; done)))))
               (try (have hx4 : v4.heap[w2.heap.size]? = some (.cells #[.int .u32 0, .int .u32 0, .int .u32 0, .int .u32 0, .int .u32 0, .int .u32 0, .int .u32 0, .int .u32 0, .slice none 0 0] 50 (0, 0)) := (hg4.block _ (by simp; omega) (by simp [Value.ownBlock]; done)).trans (heap_drew (heap_old _ (by simp; done) (heap_drew (heap_at _ _ rfl))))))
               have hq4 : KQ w2.heap.size w2 v4 := by
                 refine kq_grown ?_ (Nat.le_refl _) hg4 ?_
                 · assumption
                 · intro k hk; simp [Value.ownBlock] at hk; omega
               clear hg4)
            | (refine step_append_rd _ rfl _ _ _ rfl eId (base := w2.heap.size) (v := .slice (some ⟨w2.heap.size + 1, 0, none⟩) 0 0) (xs := []) rfl (Ow.made_at (by first | exact heap_drew (heap_at _ _ (by first | rfl | (simp; done))) | exact heap_drew (heap_old _ (by simp) (heap_drew (heap_at _ _ rfl)))) (by omega)) rfl (kq_rd (n := w2.heap.size) hB2R (Nat.le_refl _) (by assumption)) Im.len Im.one (by simp [maxLen]; omega) (by simp; omega) (by first | (simp; done) | (simp; omega)) ?_
               intro A4 n4 c4' v4 hn4 hown4 hg4 hat4
               obtain rfl : m = n4 := by simpa using hn4.symm
               clear hn4 hat4
               have hz4 := hg4.size
               simp at hz4
               have hown4' : Ow v4 w2.heap.size 35 2 (.slice A4 m c4') ((ys).map Im.enc) := by simpa using hown4
               clear hown4
               (try (have hx4 : v4.heap[w2.heap.size + 1]? = some (.cells #[.int .u32 0, .int .u32 0, .int .u32 0, .int .u32 0, .int .u32 0, .int .u32 0, .int .u32 0, .int .u32 0, .slice none 0 0] 50 (0, 0)) := (hg4.block _ (by simp; done) (by simp [Value.ownBlock]; done)).trans (heap_drew (heap_at _ _ (by simp; done)))))
               (try (have hx4 : v4.heap[w2.heap.size]? = some (.cells #[.int .u32 0, .int .u32 0, .int .u32 0, .int .u32 0, .int .u32 0, .int .u32 0, .int .u32 0, .int .u32 0, .slice none 0 0] 50 (0, 0)) := (hg4.block _ (by simp; omega) (by simp [Value.ownBlock]; done)).trans (heap_drew (heap_old _ (by simp; done) (heap_drew (heap_at _ _ rfl))))))
               have hq4 : KQ w2.heap.size w2 v4 := by
                 refine kq_grown ?_ (Nat.le_refl _) hg4 ?_
                 · assumption
                 · intro k hk; simp [Value.ownBlock] at hk; omega
               clear hg4))
        all_goals
          (go_wp2_with fail
           go_meet
           refine ⟨_, A5, n5, c5, rfl, by omega, rfl, ?_, ?_, ?_⟩
           · first
               | (with_reducible exact heap9 hx5 _ _ _ _ _ _ _ _ _)
               | (with_reducible exact heap_at _ _ rfl)
           · first
               | (with_reducible refine Ow.base (base := v4.heap.size) ?_ (by omega)
                  repeat (with_reducible refine Ow.setCell ?_ (by first | (simp; done) | (simp; omega) | omega) _)
                  with_reducible exact o5)
               | (with_reducible refine Ow.base (base := v4.heap.size + 1) ?_ (by omega)
                  repeat (with_reducible refine Ow.setCell ?_ (by first | (simp; done) | (simp; omega) | omega) _)
                  with_reducible exact o5.base (by simp))
               | exact (o5.below ((Below.refl _ _).alloc (Nat.le_refl _) _)).base (by omega)
           · first
               | (with_reducible exact (kq_alloc hq5 (Nat.le_refl _) _).1)
               | (have hq5B := hq5.1
                  repeat (first | (with_reducible exact hq5B) | (with_reducible refine Below.drew ?_) | (with_reducible refine Below.alloc ?_ (by first | (simp; done) | (simp; omega) | omega) _) | (with_reducible refine Below.setCell ?_ (by first | (simp; done) | (simp; omega) | omega) _))))
    case rest =>
      obtain ⟨gq, Aq, nq, kq', rfl, hgq, rfl, hbQ, oq, hB3⟩ := hcut
      obtain ⟨w3, hw3⟩ : ∃ w3, w3 = wc := ⟨_, rfl⟩
      obtain rfl := hw3
      skip
      (try clear q0 q1 q2 q3 q4 q5 q6 q7 q8)
      (try clear s0 s1 s2 s3 s4 s5 s6 s7 s8)
      (try clear t0 t1 t2 t3 t4 t5 t6 t7 t8)
      (try clear i0 i1)
      clear cB hltB2 hl hB2R
      have hG3 : Below w.heap.size w w3 := hG2.trans (hB3.mono hG2.size)
      have hBW3 : Below W.heap.size W w3 := hBW2.trans (hB3.mono hBW2.size)
      have hbP3 := blk_below hbP hB3
      have op3 := op.below hB3
      clear hbP op
      by_cases hpe : pe = 0
      case neg =>
        have hne : (pe != 0) = true := by simpa using hpe
        go_wp2
        go_ret
        exact ⟨rfl, hG3⟩
      subst hpe
      by_cases hqe : qe = 0
      case neg =>
        have hne : (qe != 0) = true := by simpa using hqe
        go_wp2
        go_ret
        exact ⟨rfl, hG3⟩
      subst hqe
      have pk0 := pk.out rfl
      have qk0 := qk.out rfl
      have pkn0 := pkn.out rfl
      have hpd := (lerr_zero.1 (cut_ok.1 pk0).2.1).1
      have hqd := (lerr_zero.1 (cut_ok.1 qk0).2.1).1
      have hpn : pd.length = np := by simpa using op3.rd.2.1
      have hqn : qd.length = nq := by simpa using oq.rd.2.1
      have H1 := Lib.hid (fun w' (h : KQ w3.heap.size w3 w') => (by have := chas_any pv Ap np kp pd x w' (op3.below h.1).rd.1 (by omega) hxwH.out; rw [pkn0] at this; exact this : Calls Try.prog 43 #[.agg #[.int .u32 pv.d0, .int .u32 pv.d1, .int .u32 pv.d2, .int .u32 pv.d3, .int .u32 pv.d4, .int .u32 pv.d5, .int .u32 pv.d6, .int .u32 pv.d7, .slice Ap np kp], .agg #[.int .i64 x.1, .int .u32 x.2]] w' fun e w'' => e = .returned (.bool hx0) ∧ Below w'.heap.size w' w''))
      have H2 := Lib.hid (fun w' (h : KQ w3.heap.size w3 w') => cI.out w' (hG3.trans (h.1.mono hG3.size)))
      have C1 := Lib.hid (fun w' (h : KQ w3.heap.size w3 w') => (by have := ccheck_any pv Ap np kp pd w' (op3.below h.1).rd.1 (by omega) pw.out (kn_wf pk0); rw [pk0] at this; exact this : Calls Try.prog 41 #[.agg #[.int .u32 pv.d0, .int .u32 pv.d1, .int .u32 pv.d2, .int .u32 pv.d3, .int .u32 pv.d4, .int .u32 pv.d5, .int .u32 pv.d6, .int .u32 pv.d7, .slice Ap np kp]] w' fun e w'' => e = .returned (.int .i64 0) ∧ Below w'.heap.size w' w''))
      have hP3 := Lib.hid hbP3
      have hQ3 := Lib.hid hbQ
      have hb33 : Below w3.heap.size w3 w3 := Below.refl _ _
      have hI3 := Lib.hid (blk_below hIk.out hBW3)
      have op3H := Lib.hid op3
      have oqH := Lib.hid oq
      have pk0H := Lib.hid pk0
      have qk0H := Lib.hid qk0
      have pnH := Lib.hid (show np ≤ 64 by omega)
      have qnH := Lib.hid (show nq ≤ 64 by omega)
      skip
      have sX := blk_below hAk.out hBW3
      have hltA3 := blk_lt sX
      have s0 := blk_cell sX 0
      have s1 := blk_cell sX 1
      have s2 := blk_cell sX 2
      have s3 := blk_cell sX 3
      have s4 := blk_cell sX 4
      have s5 := blk_cell sX 5
      have s6 := blk_cell sX 6
      have s7 := blk_cell sX 7
      have s8 := blk_cell sX 8
      simp at s0 s1 s2 s3 s4 s5 s6 s7 s8
      clear sX
      have qX := blk_below hP3.out hb33
      have hltP3 := blk_lt qX
      have q0 := blk_cell qX 0
      have q1 := blk_cell qX 1
      have q2 := blk_cell qX 2
      have q3 := blk_cell qX 3
      have q4 := blk_cell qX 4
      have q5 := blk_cell qX 5
      have q6 := blk_cell qX 6
      have q7 := blk_cell qX 7
      have q8 := blk_cell qX 8
      simp at q0 q1 q2 q3 q4 q5 q6 q7 q8
      clear qX
      have iX := blk_below hI3.out hb33
      have hltI3 := blk_lt iX
      have i0 := blk_cell iX 0
      have i1 := blk_cell iX 1
      simp at i0 i1
      clear iX
      clear hbP3 hbQ op3 oq hpd hqd hpn hqn pk0 qk0 pkn0 pk qk pkn hB3 hB2 hb1 hBW2 hBW3 cI
      have hq0 : KQ w3.heap.size w3 w3 := kq (Below.refl _ _)
      go_upto_region 9 with (fail)
      go_region_held3 (fun w' => KQ w3.heap.size w3 w') (first
      | with_reducible exact kq_call (by assumption) (by simp) (by assumption)
      | with_reducible exact kq_grown (by assumption) (by simp) (by assumption) (by simp [Value.ownBlock])
      | ((with_reducible refine kq ?_); (repeat (first | (with_reducible exact Below.refl _ _) | (with_reducible refine Below.drew ?_) | (with_reducible refine Below.alloc ?_ (by simp) _) | (with_reducible refine Below.setCell ?_ (by simp) _) | (with_reducible exact (by assumption : KQ _ _ _).1))); done))
        (first
          | (go_at_call 43; refine (H1.out _ (by with_reducible assumption)).mono ?_; rintro e v1 ⟨rfl, hb1⟩)
          | (go_at_call 44; refine (H2.out _ (by with_reducible assumption)).mono ?_; rintro e v2 ⟨rfl, hb2⟩)
          | (go_at_call 41; refine (C1.out _ (by with_reducible assumption)).mono ?_; rintro e w4 ⟨rfl, hb4'⟩))
      have hF4 : KQ w3.heap.size w3 w4 := by with_reducible assumption
      have hb4 := hF4.1
      have hG4 := hG3.trans (hb4.mono hG3.size)
      skip
      (try clear q0 q1 q2 q3 q4 q5 q6 q7 q8)
      (try clear s0 s1 s2 s3 s4 s5 s6 s7 s8)
      (try clear t0 t1 t2 t3 t4 t5 t6 t7 t8)
      (try clear i0 i1)
      clear H1 H2 C1 hltA3 hltP3 hltI3 hF4
      skip
      have qX := blk_below hP3.out hb4
      have hltP4 := blk_lt qX
      have q0 := blk_cell qX 0
      have q1 := blk_cell qX 1
      have q2 := blk_cell qX 2
      have q3 := blk_cell qX 3
      have q4 := blk_cell qX 4
      have q5 := blk_cell qX 5
      have q6 := blk_cell qX 6
      have q7 := blk_cell qX 7
      have q8 := blk_cell qX 8
      simp at q0 q1 q2 q3 q4 q5 q6 q7 q8
      clear qX
      have sX := blk_below hQ3.out hb4
      have hltQ4 := blk_lt sX
      have s0 := blk_cell sX 0
      have s1 := blk_cell sX 1
      have s2 := blk_cell sX 2
      have s3 := blk_cell sX 3
      have s4 := blk_cell sX 4
      have s5 := blk_cell sX 5
      have s6 := blk_cell sX 6
      have s7 := blk_cell sX 7
      have s8 := blk_cell sX 8
      simp at s0 s1 s2 s3 s4 s5 s6 s7 s8
      clear sX
      have cJ := Lib.hid (cjoin_any pv qv Ap Aq np nq kp kq' pd qd w4 (op3H.out.below hb4).rd.1 (oqH.out.below hb4).rd.1 (by have := pnH.out; omega) (by have := qnH.out; omega) pw.out qw.out (kn_wf pk0H.out) (kn_wf qk0H.out))
      have jl := Lib.hid (fun h : joinCE pv pd qv qd = 0 => join_law h)
      have jw : Hid ((joinCV pv pd qv qd).wf) := Lib.hid (by unfold joinCV; split <;> first | exact zV_wf | exact kn_vwf _ (join_wf pw.out qw.out))
      generalize joinCV pv pd qv qd = jv at *
      generalize joinCD pv pd qv qd = jd at *
      generalize joinCE pv pd qv qd = je at *
      go_wp2_with fail
      refine cJ.out.mono ?_
      rintro e w5 ⟨Aj, nj, kj, rfl, oj, hb5⟩
      skip
      (try clear q0 q1 q2 q3 q4 q5 q6 q7 q8)
      (try clear s0 s1 s2 s3 s4 s5 s6 s7 s8)
      (try clear t0 t1 t2 t3 t4 t5 t6 t7 t8)
      (try clear i0 i1)
      clear cJ hltP4 hltQ4
      go_upto_region 12 with (fail)
      obtain ⟨w6, hw6⟩ : ∃ w6, w5.alloc (.cells #[.int .u32 jv.d0, .int .u32 jv.d1, .int .u32 jv.d2, .int .u32 jv.d3, .int .u32 jv.d4, .int .u32 jv.d5, .int .u32 jv.d6, .int .u32 jv.d7, .slice Aj nj kj] 50) = w6 := ⟨_, rfl⟩
      have hbJ6 : w6.heap[w5.heap.size]? = some (.cells #[.int .u32 jv.d0, .int .u32 jv.d1, .int .u32 jv.d2, .int .u32 jv.d3, .int .u32 jv.d4, .int .u32 jv.d5, .int .u32 jv.d6, .int .u32 jv.d7, .slice Aj nj kj] 50 (0, 0)) := by rw [← hw6]; exact heap_at _ _ rfl
      have hb6' : Below w5.heap.size w5 w6 := by rw [← hw6]; exact (Below.refl _ w5).alloc (Nat.le_refl _) _
      rw [hw6]
      clear hw6
      have hb6 : Below w3.heap.size w3 w6 := (hb4.trans (hb5.mono hb4.size)).trans (hb6'.mono (Nat.le_trans hb4.size hb5.size))
      have hG6 := hG3.trans (hb6.mono hG3.size)
      have oj6 := oj.below hb6'
      have hJ6 := Lib.hid hbJ6
      have hb66 : Below w6.heap.size w6 w6 := Below.refl _ _
      skip
      have qX := blk_below hP3.out hb6
      have hltP6 := blk_lt qX
      have q0 := blk_cell qX 0
      have q1 := blk_cell qX 1
      have q2 := blk_cell qX 2
      have q3 := blk_cell qX 3
      have q4 := blk_cell qX 4
      have q5 := blk_cell qX 5
      have q6 := blk_cell qX 6
      have q7 := blk_cell qX 7
      have q8 := blk_cell qX 8
      simp at q0 q1 q2 q3 q4 q5 q6 q7 q8
      clear qX
      have sX := blk_below hQ3.out hb6
      have hltQ6 := blk_lt sX
      have s0 := blk_cell sX 0
      have s1 := blk_cell sX 1
      have s2 := blk_cell sX 2
      have s3 := blk_cell sX 3
      have s4 := blk_cell sX 4
      have s5 := blk_cell sX 5
      have s6 := blk_cell sX 6
      have s7 := blk_cell sX 7
      have s8 := blk_cell sX 8
      simp at s0 s1 s2 s3 s4 s5 s6 s7 s8
      clear sX
      have tX := blk_below hJ6.out hb66
      have hltJ6 := blk_lt tX
      have t0 := blk_cell tX 0
      have t1 := blk_cell tX 1
      have t2 := blk_cell tX 2
      have t3 := blk_cell tX 3
      have t4 := blk_cell tX 4
      have t5 := blk_cell tX 5
      have t6 := blk_cell tX 6
      have t7 := blk_cell tX 7
      have t8 := blk_cell tX 8
      simp at t0 t1 t2 t3 t4 t5 t6 t7 t8
      clear tX
      have iX := blk_below hI3.out hb6
      have hltI6 := blk_lt iX
      have i0 := blk_cell iX 0
      have i1 := blk_cell iX 1
      simp at i0 i1
      clear iX
      clear hb4 hb5 hb6' oj hG4 hbJ6
      go_cut [96] (fun sa wx => sa = .bool false ∧ Below w6.heap.size w6 wx)
      case first =>
        by_cases hje : je = 0
        case neg =>
          have hne : (je == 0) = false := by simpa using hje
          have hd : decide (je = 0) = false := decide_eq_false hje
          refine wp_region_M (fun w' => KQ w6.heap.size w6 w') (fun _ => True) 99 (by kernel_rfl) (kq (Below.refl _ _).drew) trivial ?_
          intro hcl
          have hC : KQ w6.heap.size w6 w6.drew := kq (Below.refl _ _).drew
          have hE := trivial
          (refine wpM_take (i := 0) (v := ?_) rfl (by kernel_rfl) (by kernel_rfl) (by kernel_rfl) (by decide) (fun _ _ _ h => h) hcl hC (fun _ => hE) (Or.inl ⟨by rfl, ?_⟩) ?_; rotate_left; (· (intro w hSw; (try dsimp only at hSw); go_simp; (try with_reducible rfl))); clear hcl; intro hcl; (try simp only [Act.put, List.getElem_toArray, List.getElem_cons_zero, List.getElem_cons_succ, List.setIfInBounds_toArray, List.set_cons_zero, List.set_cons_succ]))
          (refine wpM_take (i := 1) (v := ?_) rfl (by kernel_rfl) (by kernel_rfl) (by kernel_rfl) (by decide) (fun _ _ _ h => h) hcl hC (fun _ => hE) (Or.inl ⟨by rfl, ?_⟩) ?_; rotate_left; (· (intro w hSw; (try dsimp only at hSw); go_simp; (try with_reducible rfl))); clear hcl; intro hcl; (try simp only [Act.put, List.getElem_toArray, List.getElem_cons_zero, List.getElem_cons_succ, List.setIfInBounds_toArray, List.set_cons_zero, List.set_cons_succ]))
          (refine wpM_take (i := 2) (v := ?_) rfl (by kernel_rfl) (by kernel_rfl) (by kernel_rfl) (by decide) (fun _ _ _ h => h) hcl hC (fun _ => hE) (Or.inl ⟨by rfl, ?_⟩) ?_; rotate_left; (· (intro w hSw; (try dsimp only at hSw); go_simp; (try with_reducible rfl))); clear hcl; intro hcl; (try simp only [Act.put, List.getElem_toArray, List.getElem_cons_zero, List.getElem_cons_succ, List.setIfInBounds_toArray, List.set_cons_zero, List.set_cons_succ]))
          (refine wpM_take (i := 3) (v := undef) rfl (by kernel_rfl) (by kernel_rfl) (by kernel_rfl) (by decide) (fun _ _ _ h => h) hcl hC (fun _ => hE) (Or.inr ⟨by rfl, rfl⟩) ?_; clear hcl; intro hcl; (try simp only [Act.put, List.getElem_toArray, List.getElem_cons_zero, List.getElem_cons_succ, List.setIfInBounds_toArray, List.set_cons_zero, List.set_cons_succ]))
          (refine wpM_take (i := 4) (v := undef) rfl (by kernel_rfl) (by kernel_rfl) (by kernel_rfl) (by decide) (fun _ _ _ h => h) hcl hC (fun _ => hE) (Or.inr ⟨by rfl, rfl⟩) ?_; clear hcl; intro hcl; (try simp only [Act.put, List.getElem_toArray, List.getElem_cons_zero, List.getElem_cons_succ, List.setIfInBounds_toArray, List.set_cons_zero, List.set_cons_succ]))
          (refine wpM_take (i := 5) (v := undef) rfl (by kernel_rfl) (by kernel_rfl) (by kernel_rfl) (by decide) (fun _ _ _ h => h) hcl hC (fun _ => hE) (Or.inr ⟨by rfl, rfl⟩) ?_; clear hcl; intro hcl; (try simp only [Act.put, List.getElem_toArray, List.getElem_cons_zero, List.getElem_cons_succ, List.setIfInBounds_toArray, List.set_cons_zero, List.set_cons_succ]))
          (refine wpM_take (i := 6) (v := undef) rfl (by kernel_rfl) (by kernel_rfl) (by kernel_rfl) (by decide) (fun _ _ _ h => h) hcl hC (fun _ => hE) (Or.inr ⟨by rfl, rfl⟩) ?_; clear hcl; intro hcl; (try simp only [Act.put, List.getElem_toArray, List.getElem_cons_zero, List.getElem_cons_succ, List.setIfInBounds_toArray, List.set_cons_zero, List.set_cons_succ]))
          (refine wpM_take (i := 7) (v := undef) rfl (by kernel_rfl) (by kernel_rfl) (by kernel_rfl) (by decide) (fun _ _ _ h => h) hcl hC (fun _ => hE) (Or.inr ⟨by rfl, rfl⟩) ?_; clear hcl; intro hcl; (try simp only [Act.put, List.getElem_toArray, List.getElem_cons_zero, List.getElem_cons_succ, List.setIfInBounds_toArray, List.set_cons_zero, List.set_cons_succ]))
          (refine wpM_take (i := 8) (v := undef) rfl (by kernel_rfl) (by kernel_rfl) (by kernel_rfl) (by decide) (fun _ _ _ h => h) hcl hC (fun _ => hE) (Or.inr ⟨by rfl, rfl⟩) ?_; clear hcl; intro hcl; (try simp only [Act.put, List.getElem_toArray, List.getElem_cons_zero, List.getElem_cons_succ, List.setIfInBounds_toArray, List.set_cons_zero, List.set_cons_succ]))
          (refine wpM_take (i := 9) (v := undef) rfl (by kernel_rfl) (by kernel_rfl) (by kernel_rfl) (by decide) (fun _ _ _ h => h) hcl hC (fun _ => hE) (Or.inr ⟨by rfl, rfl⟩) ?_; clear hcl; intro hcl; (try simp only [Act.put, List.getElem_toArray, List.getElem_cons_zero, List.getElem_cons_succ, List.setIfInBounds_toArray, List.set_cons_zero, List.set_cons_succ]))
          (refine wpM_take (i := 10) (v := undef) rfl (by kernel_rfl) (by kernel_rfl) (by kernel_rfl) (by decide) (fun _ _ _ h => h) hcl hC (fun _ => hE) (Or.inr ⟨by rfl, rfl⟩) ?_; clear hcl; intro hcl; (try simp only [Act.put, List.getElem_toArray, List.getElem_cons_zero, List.getElem_cons_succ, List.setIfInBounds_toArray, List.set_cons_zero, List.set_cons_succ]))
          (refine wpM_take (i := 11) (v := undef) rfl (by kernel_rfl) (by kernel_rfl) (by kernel_rfl) (by decide) (fun _ _ _ h => h) hcl hC (fun _ => hE) (Or.inr ⟨by rfl, rfl⟩) ?_; clear hcl; intro hcl; (try simp only [Act.put, List.getElem_toArray, List.getElem_cons_zero, List.getElem_cons_succ, List.setIfInBounds_toArray, List.set_cons_zero, List.set_cons_succ]))
          (refine wpM_take (i := 12) (v := undef) rfl (by kernel_rfl) (by kernel_rfl) (by kernel_rfl) (by decide) (fun _ _ _ h => h) hcl hC (fun _ => hE) (Or.inr ⟨by rfl, rfl⟩) ?_; clear hcl; intro hcl; (try simp only [Act.put, List.getElem_toArray, List.getElem_cons_zero, List.getElem_cons_succ, List.setIfInBounds_toArray, List.set_cons_zero, List.set_cons_succ]))
          (refine wpM_take (i := 13) (v := undef) rfl (by kernel_rfl) (by kernel_rfl) (by kernel_rfl) (by decide) (fun _ _ _ h => h) hcl hC (fun _ => hE) (Or.inr ⟨by rfl, rfl⟩) ?_; clear hcl; intro hcl; (try simp only [Act.put, List.getElem_toArray, List.getElem_cons_zero, List.getElem_cons_succ, List.setIfInBounds_toArray, List.set_cons_zero, List.set_cons_succ]))
          (refine wpM_take (i := 14) (v := undef) rfl (by kernel_rfl) (by kernel_rfl) (by kernel_rfl) (by decide) (fun _ _ _ h => h) hcl hC (fun _ => hE) (Or.inr ⟨by rfl, rfl⟩) ?_; clear hcl; intro hcl; (try simp only [Act.put, List.getElem_toArray, List.getElem_cons_zero, List.getElem_cons_succ, List.setIfInBounds_toArray, List.set_cons_zero, List.set_cons_succ]))
          (refine wpM_take (i := 15) (v := undef) rfl (by kernel_rfl) (by kernel_rfl) (by kernel_rfl) (by decide) (fun _ _ _ h => h) hcl hC (fun _ => hE) (Or.inr ⟨by rfl, rfl⟩) ?_; clear hcl; intro hcl; (try simp only [Act.put, List.getElem_toArray, List.getElem_cons_zero, List.getElem_cons_succ, List.setIfInBounds_toArray, List.set_cons_zero, List.set_cons_succ]))
          (refine wpM_take (i := 16) (v := undef) rfl (by kernel_rfl) (by kernel_rfl) (by kernel_rfl) (by decide) (fun _ _ _ h => h) hcl hC (fun _ => hE) (Or.inr ⟨by rfl, rfl⟩) ?_; clear hcl; intro hcl; (try simp only [Act.put, List.getElem_toArray, List.getElem_cons_zero, List.getElem_cons_succ, List.setIfInBounds_toArray, List.set_cons_zero, List.set_cons_succ]))
          (refine wpM_take (i := 17) (v := undef) rfl (by kernel_rfl) (by kernel_rfl) (by kernel_rfl) (by decide) (fun _ _ _ h => h) hcl hC (fun _ => hE) (Or.inr ⟨by rfl, rfl⟩) ?_; clear hcl; intro hcl; (try simp only [Act.put, List.getElem_toArray, List.getElem_cons_zero, List.getElem_cons_succ, List.setIfInBounds_toArray, List.set_cons_zero, List.set_cons_succ]))
          (refine wpM_take (i := 18) (v := undef) rfl (by kernel_rfl) (by kernel_rfl) (by kernel_rfl) (by decide) (fun _ _ _ h => h) hcl hC (fun _ => hE) (Or.inr ⟨by rfl, rfl⟩) ?_; clear hcl; intro hcl; (try simp only [Act.put, List.getElem_toArray, List.getElem_cons_zero, List.getElem_cons_succ, List.setIfInBounds_toArray, List.set_cons_zero, List.set_cons_succ]))
          (refine wpM_take (i := 19) (v := undef) rfl (by kernel_rfl) (by kernel_rfl) (by kernel_rfl) (by decide) (fun _ _ _ h => h) hcl hC (fun _ => hE) (Or.inr ⟨by rfl, rfl⟩) ?_; clear hcl; intro hcl; (try simp only [Act.put, List.getElem_toArray, List.getElem_cons_zero, List.getElem_cons_succ, List.setIfInBounds_toArray, List.set_cons_zero, List.set_cons_succ]))
          (refine wpM_take (i := 20) (v := undef) rfl (by kernel_rfl) (by kernel_rfl) (by kernel_rfl) (by decide) (fun _ _ _ h => h) hcl hC (fun _ => hE) (Or.inr ⟨by rfl, rfl⟩) ?_; clear hcl; intro hcl; (try simp only [Act.put, List.getElem_toArray, List.getElem_cons_zero, List.getElem_cons_succ, List.setIfInBounds_toArray, List.set_cons_zero, List.set_cons_succ]))
          (refine wpM_take (i := 21) (v := undef) rfl (by kernel_rfl) (by kernel_rfl) (by kernel_rfl) (by decide) (fun _ _ _ h => h) hcl hC (fun _ => hE) (Or.inr ⟨by rfl, rfl⟩) ?_; clear hcl; intro hcl; (try simp only [Act.put, List.getElem_toArray, List.getElem_cons_zero, List.getElem_cons_succ, List.setIfInBounds_toArray, List.set_cons_zero, List.set_cons_succ]))
          (refine wpM_take (i := 22) (v := undef) rfl (by kernel_rfl) (by kernel_rfl) (by kernel_rfl) (by decide) (fun _ _ _ h => h) hcl hC (fun _ => hE) (Or.inr ⟨by rfl, rfl⟩) ?_; clear hcl; intro hcl; (try simp only [Act.put, List.getElem_toArray, List.getElem_cons_zero, List.getElem_cons_succ, List.setIfInBounds_toArray, List.set_cons_zero, List.set_cons_succ]))
          (refine wpM_take (i := 23) (v := undef) rfl (by kernel_rfl) (by kernel_rfl) (by kernel_rfl) (by decide) (fun _ _ _ h => h) hcl hC (fun _ => hE) (Or.inr ⟨by rfl, rfl⟩) ?_; clear hcl; intro hcl; (try simp only [Act.put, List.getElem_toArray, List.getElem_cons_zero, List.getElem_cons_succ, List.setIfInBounds_toArray, List.set_cons_zero, List.set_cons_succ]))
          (refine wpM_take (i := 24) (v := undef) rfl (by kernel_rfl) (by kernel_rfl) (by kernel_rfl) (by decide) (fun _ _ _ h => h) hcl hC (fun _ => hE) (Or.inr ⟨by rfl, rfl⟩) ?_; clear hcl; intro hcl; (try simp only [Act.put, List.getElem_toArray, List.getElem_cons_zero, List.getElem_cons_succ, List.setIfInBounds_toArray, List.set_cons_zero, List.set_cons_succ]))
          (refine wpM_take (i := 25) (v := undef) rfl (by kernel_rfl) (by kernel_rfl) (by kernel_rfl) (by decide) (fun _ _ _ h => h) hcl hC (fun _ => hE) (Or.inr ⟨by rfl, rfl⟩) ?_; clear hcl; intro hcl; (try simp only [Act.put, List.getElem_toArray, List.getElem_cons_zero, List.getElem_cons_succ, List.setIfInBounds_toArray, List.set_cons_zero, List.set_cons_succ]))
          (refine wpM_take (i := 26) (v := undef) rfl (by kernel_rfl) (by kernel_rfl) (by kernel_rfl) (by decide) (fun _ _ _ h => h) hcl hC (fun _ => hE) (Or.inr ⟨by rfl, rfl⟩) ?_; clear hcl; intro hcl; (try simp only [Act.put, List.getElem_toArray, List.getElem_cons_zero, List.getElem_cons_succ, List.setIfInBounds_toArray, List.set_cons_zero, List.set_cons_succ]))
          (refine wpM_take (i := 27) (v := ?_) rfl (by kernel_rfl) (by kernel_rfl) (by kernel_rfl) (by decide) (fun _ _ _ h => h) hcl hC (fun _ => hE) (Or.inl ⟨by rfl, ?_⟩) ?_; rotate_left; (· (intro w hSw; (try dsimp only at hSw); go_simp; (try with_reducible rfl))); clear hcl; intro hcl; (try simp only [Act.put, List.getElem_toArray, List.getElem_cons_zero, List.getElem_cons_succ, List.setIfInBounds_toArray, List.set_cons_zero, List.set_cons_succ]))
          refine wpM_done (by kernel_rfl) ?_
          clear hcl
          try simp only [List.getElem_toArray, List.getElem_cons_zero, List.getElem_cons_succ, List.setIfInBounds_toArray, List.set_cons_zero, List.set_cons_succ]
          go_wp2_with fail
          go_meet
          exact ⟨rfl, hC.1⟩
        subst hje
        obtain ⟨_, _, jk0, jkn⟩ := jl.out rfl
        have jkx := jkn x
        have hjd := (lerr_zero.1 (cut_ok.1 jk0).2.1).1
        have hjn : jd.length = nj := by simpa using oj6.rd.2.1
        have l1 : leC pv pd jv jd := ⟨pk0H.out, jk0, fun y hy => by rw [jkn, hy]; rfl⟩
        have l2 : leC qv qd jv jd := ⟨qk0H.out, jk0, fun y hy => by rw [jkn, hy, Bool.or_true]⟩
        have K6 := fun w' (h : KQ w6.heap.size w6 w') => (kq (hb6.trans (h.1.mono hb6.size)) : KQ w3.heap.size w3 w')
        have HJ := fun w' (h : KQ w6.heap.size w6 w') => chas_any jv Aj nj kj jd x w' (oj6.below h.1).rd.1 (by omega) hxwH.out
        have HP := fun w' (h : KQ w6.heap.size w6 w') => chas_any pv Ap np kp pd x w' (op3H.out.below (K6 w' h).1).rd.1 (by have := pnH.out; omega) hxwH.out
        have HQ := fun w' (h : KQ w6.heap.size w6 w') => chas_any qv Aq nq kq' qd x w' (oqH.out.below (K6 w' h).1).rd.1 (by have := qnH.out; omega) hxwH.out
        have L1 := Lib.hid (fun w' (h : KQ w6.heap.size w6 w') => (cle_any pv jv Ap Aj np nj kp kj pd jd w' (op3H.out.below (K6 w' h).1).rd.1 (oj6.below h.1).rd.1 (by have := pnH.out; omega) (by omega) pw.out jw.out (kn_wf pk0H.out) (kn_wf jk0)).mono (fun e w'' h => kn_true h l1))
        have L2 := Lib.hid (fun w' (h : KQ w6.heap.size w6 w') => (cle_any qv jv Aq Aj nq nj kq' kj qd jd w' (oqH.out.below (K6 w' h).1).rd.1 (oj6.below h.1).rd.1 (by have := qnH.out; omega) (by omega) qw.out jw.out (kn_wf qk0H.out) (kn_wf jk0)).mono (fun e w'' h => kn_true h l2))
        rw [jkx] at HJ
        have hq0 : KQ w6.heap.size w6 w6 := kq (Below.refl _ _)
        generalize hasC qv qd x = bq at *
        generalize hasC pv pd x = bp at *
        clear jkx jkn l1 l2 hjd hjn jk0
        cases bp
        case true =>
          rw [Bool.true_or] at HJ
          have HJ := Lib.hid HJ
          have HP := Lib.hid HP
          clear HQ K6
          skip
          refine wp_region_M (fun w' => KQ w6.heap.size w6 w') (fun _ => True) 99 (by kernel_rfl) (kq (Below.refl _ _).drew) trivial ?_
          intro hcl
          have hC : KQ w6.heap.size w6 w6.drew := kq (Below.refl _ _).drew
          have hE := trivial
          (refine wpM_take (i := 0) (v := ?_) rfl (by kernel_rfl) (by kernel_rfl) (by kernel_rfl) (by decide) (fun _ _ _ h => h) hcl hC (fun _ => hE) (Or.inl ⟨by rfl, ?_⟩) ?_; rotate_left; (· (intro w hSw; (try dsimp only at hSw); go_simp; (try with_reducible rfl))); clear hcl; intro hcl; (try simp only [Act.put, List.getElem_toArray, List.getElem_cons_zero, List.getElem_cons_succ, List.setIfInBounds_toArray, List.set_cons_zero, List.set_cons_succ]))
          (refine wpM_take (i := 1) (v := ?_) rfl (by kernel_rfl) (by kernel_rfl) (by kernel_rfl) (by decide) (fun _ _ _ h => h) hcl hC (fun _ => hE) (Or.inl ⟨by rfl, ?_⟩) ?_; rotate_left; (· (intro w hSw; (try dsimp only at hSw); go_simp; (try with_reducible rfl))); clear hcl; intro hcl; (try simp only [Act.put, List.getElem_toArray, List.getElem_cons_zero, List.getElem_cons_succ, List.setIfInBounds_toArray, List.set_cons_zero, List.set_cons_succ]))
          (refine wpM_take (i := 2) (v := ?_) rfl (by kernel_rfl) (by kernel_rfl) (by kernel_rfl) (by decide) (fun _ _ _ h => h) hcl hC (fun _ => hE) (Or.inl ⟨by rfl, ?_⟩) ?_; rotate_left; (· (intro w hSw; (try dsimp only at hSw); go_simp; (try with_reducible rfl))); clear hcl; intro hcl; (try simp only [Act.put, List.getElem_toArray, List.getElem_cons_zero, List.getElem_cons_succ, List.setIfInBounds_toArray, List.set_cons_zero, List.set_cons_succ]))
          (refine wpM_take (i := 3) (v := ?_) rfl (by kernel_rfl) (by kernel_rfl) (by kernel_rfl) (by decide) (fun _ _ _ h => h) hcl hC (fun _ => hE) (Or.inl ⟨by rfl, ?_⟩) ?_; rotate_left; (· (intro w hSw; (try dsimp only at hSw); go_simp; (try with_reducible rfl))); clear hcl; intro hcl; (try simp only [Act.put, List.getElem_toArray, List.getElem_cons_zero, List.getElem_cons_succ, List.setIfInBounds_toArray, List.set_cons_zero, List.set_cons_succ]))
          (refine wpM_take (i := 4) (v := ?_) rfl (by kernel_rfl) (by kernel_rfl) (by kernel_rfl) (by decide) (fun _ _ _ h => h) hcl hC (fun _ => hE) (Or.inl ⟨by rfl, ?_⟩) ?_; rotate_left; (· (intro w hSw; (try dsimp only at hSw); go_simp; (try with_reducible rfl))); clear hcl; intro hcl; (try simp only [Act.put, List.getElem_toArray, List.getElem_cons_zero, List.getElem_cons_succ, List.setIfInBounds_toArray, List.set_cons_zero, List.set_cons_succ]))
          (refine wpM_take (i := 6) (v := ?_) rfl (by kernel_rfl) (by kernel_rfl) (by kernel_rfl) (by decide) (fun _ _ _ h => h) hcl hC (fun _ => hE) (Or.inl ⟨by rfl, ?_⟩) ?_; rotate_left; (· (intro w hSw; (try dsimp only at hSw); go_simp; (try with_reducible rfl))); clear hcl; intro hcl; (try simp only [Act.put, List.getElem_toArray, List.getElem_cons_zero, List.getElem_cons_succ, List.setIfInBounds_toArray, List.set_cons_zero, List.set_cons_succ]))
          (refine wpM_take (i := 7) (v := ?_) rfl (by kernel_rfl) (by kernel_rfl) (by kernel_rfl) (by decide) (fun _ _ _ h => h) hcl hC (fun _ => hE) (Or.inl ⟨by rfl, ?_⟩) ?_; rotate_left; (· (intro w hSw; (try dsimp only at hSw); go_simp; (try with_reducible rfl))); clear hcl; intro hcl; (try simp only [Act.put, List.getElem_toArray, List.getElem_cons_zero, List.getElem_cons_succ, List.setIfInBounds_toArray, List.set_cons_zero, List.set_cons_succ]))
          refine wpM_only (i := 5) rfl (by kernel_rfl) hcl (fun K hK => ?_)
          go_simp
          refine (HJ.out _ hC).mono ?_
          rintro e v1 ⟨rfl, hv1⟩
          have hC' := kq_call hC (Nat.le_refl _) hv1
          refine hK.out _ _ hC' trivial ?_
          clear hK K
          clear hcl
          intro hcl
          (try simp only [Act.put, List.getElem_toArray, List.getElem_cons_zero, List.getElem_cons_succ, List.setIfInBounds_toArray, List.set_cons_zero, List.set_cons_succ])
          clear hC
          have hC := hC'
          clear hC'
          refine wpM_only (i := 8) rfl (by kernel_rfl) hcl (fun K hK => ?_)
          go_simp
          refine (HP.out _ hC).mono ?_
          rintro e v2 ⟨rfl, hv2⟩
          have hC' := kq_call hC (Nat.le_refl _) hv2
          refine hK.out _ _ hC' trivial ?_
          clear hK K
          clear hcl
          intro hcl
          (try simp only [Act.put, List.getElem_toArray, List.getElem_cons_zero, List.getElem_cons_succ, List.setIfInBounds_toArray, List.set_cons_zero, List.set_cons_succ])
          clear hC
          have hC := hC'
          clear hC'
          (refine wpM_take (i := 9) (v := ?_) rfl (by kernel_rfl) (by kernel_rfl) (by kernel_rfl) (by decide) (fun _ _ _ h => h) hcl hC (fun _ => hE) (Or.inl ⟨by rfl, ?_⟩) ?_; rotate_left; (· (intro w hSw; (try dsimp only at hSw); go_simp; (try with_reducible rfl))); clear hcl; intro hcl; (try simp only [Act.put, List.getElem_toArray, List.getElem_cons_zero, List.getElem_cons_succ, List.setIfInBounds_toArray, List.set_cons_zero, List.set_cons_succ]))
          (refine wpM_take (i := 10) (v := undef) rfl (by kernel_rfl) (by kernel_rfl) (by kernel_rfl) (by decide) (fun _ _ _ h => h) hcl hC (fun _ => hE) (Or.inr ⟨by rfl, rfl⟩) ?_; clear hcl; intro hcl; (try simp only [Act.put, List.getElem_toArray, List.getElem_cons_zero, List.getElem_cons_succ, List.setIfInBounds_toArray, List.set_cons_zero, List.set_cons_succ]))
          (refine wpM_take (i := 11) (v := undef) rfl (by kernel_rfl) (by kernel_rfl) (by kernel_rfl) (by decide) (fun _ _ _ h => h) hcl hC (fun _ => hE) (Or.inr ⟨by rfl, rfl⟩) ?_; clear hcl; intro hcl; (try simp only [Act.put, List.getElem_toArray, List.getElem_cons_zero, List.getElem_cons_succ, List.setIfInBounds_toArray, List.set_cons_zero, List.set_cons_succ]))
          (refine wpM_take (i := 12) (v := undef) rfl (by kernel_rfl) (by kernel_rfl) (by kernel_rfl) (by decide) (fun _ _ _ h => h) hcl hC (fun _ => hE) (Or.inr ⟨by rfl, rfl⟩) ?_; clear hcl; intro hcl; (try simp only [Act.put, List.getElem_toArray, List.getElem_cons_zero, List.getElem_cons_succ, List.setIfInBounds_toArray, List.set_cons_zero, List.set_cons_succ]))
          (refine wpM_take (i := 13) (v := ?_) rfl (by kernel_rfl) (by kernel_rfl) (by kernel_rfl) (by decide) (fun _ _ _ h => h) hcl hC (fun _ => hE) (Or.inl ⟨by rfl, ?_⟩) ?_; rotate_left; (· (intro w hSw; (try dsimp only at hSw); go_simp; (try with_reducible rfl))); clear hcl; intro hcl; (try simp only [Act.put, List.getElem_toArray, List.getElem_cons_zero, List.getElem_cons_succ, List.setIfInBounds_toArray, List.set_cons_zero, List.set_cons_succ]))
          (refine wpM_take (i := 14) (v := ?_) rfl (by kernel_rfl) (by kernel_rfl) (by kernel_rfl) (by decide) (fun _ _ _ h => h) hcl hC (fun _ => hE) (Or.inl ⟨by rfl, ?_⟩) ?_; rotate_left; (· (intro w hSw; (try dsimp only at hSw); go_simp; (try with_reducible rfl))); clear hcl; intro hcl; (try simp only [Act.put, List.getElem_toArray, List.getElem_cons_zero, List.getElem_cons_succ, List.setIfInBounds_toArray, List.set_cons_zero, List.set_cons_succ]))
          (refine wpM_take (i := 15) (v := ?_) rfl (by kernel_rfl) (by kernel_rfl) (by kernel_rfl) (by decide) (fun _ _ _ h => h) hcl hC (fun _ => hE) (Or.inl ⟨by rfl, ?_⟩) ?_; rotate_left; (· (intro w hSw; (try dsimp only at hSw); go_simp; (try with_reducible rfl))); clear hcl; intro hcl; (try simp only [Act.put, List.getElem_toArray, List.getElem_cons_zero, List.getElem_cons_succ, List.setIfInBounds_toArray, List.set_cons_zero, List.set_cons_succ]))
          (refine wpM_take (i := 16) (v := ?_) rfl (by kernel_rfl) (by kernel_rfl) (by kernel_rfl) (by decide) (fun _ _ _ h => h) hcl hC (fun _ => hE) (Or.inl ⟨by rfl, ?_⟩) ?_; rotate_left; (· (intro w hSw; (try dsimp only at hSw); go_simp; (try with_reducible rfl))); clear hcl; intro hcl; (try simp only [Act.put, List.getElem_toArray, List.getElem_cons_zero, List.getElem_cons_succ, List.setIfInBounds_toArray, List.set_cons_zero, List.set_cons_succ]))
          (refine wpM_take (i := 17) (v := ?_) rfl (by kernel_rfl) (by kernel_rfl) (by kernel_rfl) (by decide) (fun _ _ _ h => h) hcl hC (fun _ => hE) (Or.inl ⟨by rfl, ?_⟩) ?_; rotate_left; (· (intro w hSw; (try dsimp only at hSw); go_simp; (try with_reducible rfl))); clear hcl; intro hcl; (try simp only [Act.put, List.getElem_toArray, List.getElem_cons_zero, List.getElem_cons_succ, List.setIfInBounds_toArray, List.set_cons_zero, List.set_cons_succ]))
          refine wpM_only (i := 18) rfl (by kernel_rfl) hcl (fun K hK => ?_)
          go_simp
          refine (L1.out _ hC).mono ?_
          rintro e v4 ⟨rfl, hv4⟩
          have hC' := kq_call hC (Nat.le_refl _) hv4
          refine hK.out _ _ hC' trivial ?_
          clear hK K
          clear hcl
          intro hcl
          (try simp only [Act.put, List.getElem_toArray, List.getElem_cons_zero, List.getElem_cons_succ, List.setIfInBounds_toArray, List.set_cons_zero, List.set_cons_succ])
          clear hC
          have hC := hC'
          clear hC'
          (refine wpM_take (i := 19) (v := ?_) rfl (by kernel_rfl) (by kernel_rfl) (by kernel_rfl) (by decide) (fun _ _ _ h => h) hcl hC (fun _ => hE) (Or.inl ⟨by rfl, ?_⟩) ?_; rotate_left; (· (intro w hSw; (try dsimp only at hSw); go_simp; (try with_reducible rfl))); clear hcl; intro hcl; (try simp only [Act.put, List.getElem_toArray, List.getElem_cons_zero, List.getElem_cons_succ, List.setIfInBounds_toArray, List.set_cons_zero, List.set_cons_succ]))
          (refine wpM_take (i := 20) (v := ?_) rfl (by kernel_rfl) (by kernel_rfl) (by kernel_rfl) (by decide) (fun _ _ _ h => h) hcl hC (fun _ => hE) (Or.inl ⟨by rfl, ?_⟩) ?_; rotate_left; (· (intro w hSw; (try dsimp only at hSw); go_simp; (try with_reducible rfl))); clear hcl; intro hcl; (try simp only [Act.put, List.getElem_toArray, List.getElem_cons_zero, List.getElem_cons_succ, List.setIfInBounds_toArray, List.set_cons_zero, List.set_cons_succ]))
          (refine wpM_take (i := 21) (v := ?_) rfl (by kernel_rfl) (by kernel_rfl) (by kernel_rfl) (by decide) (fun _ _ _ h => h) hcl hC (fun _ => hE) (Or.inl ⟨by rfl, ?_⟩) ?_; rotate_left; (· (intro w hSw; (try dsimp only at hSw); go_simp; (try with_reducible rfl))); clear hcl; intro hcl; (try simp only [Act.put, List.getElem_toArray, List.getElem_cons_zero, List.getElem_cons_succ, List.setIfInBounds_toArray, List.set_cons_zero, List.set_cons_succ]))
          (refine wpM_take (i := 22) (v := ?_) rfl (by kernel_rfl) (by kernel_rfl) (by kernel_rfl) (by decide) (fun _ _ _ h => h) hcl hC (fun _ => hE) (Or.inl ⟨by rfl, ?_⟩) ?_; rotate_left; (· (intro w hSw; (try dsimp only at hSw); go_simp; (try with_reducible rfl))); clear hcl; intro hcl; (try simp only [Act.put, List.getElem_toArray, List.getElem_cons_zero, List.getElem_cons_succ, List.setIfInBounds_toArray, List.set_cons_zero, List.set_cons_succ]))
          (refine wpM_take (i := 23) (v := ?_) rfl (by kernel_rfl) (by kernel_rfl) (by kernel_rfl) (by decide) (fun _ _ _ h => h) hcl hC (fun _ => hE) (Or.inl ⟨by rfl, ?_⟩) ?_; rotate_left; (· (intro w hSw; (try dsimp only at hSw); go_simp; (try with_reducible rfl))); clear hcl; intro hcl; (try simp only [Act.put, List.getElem_toArray, List.getElem_cons_zero, List.getElem_cons_succ, List.setIfInBounds_toArray, List.set_cons_zero, List.set_cons_succ]))
          refine wpM_only (i := 24) rfl (by kernel_rfl) hcl (fun K hK => ?_)
          go_simp
          refine (L2.out _ hC).mono ?_
          rintro e v5 ⟨rfl, hv5⟩
          have hC' := kq_call hC (Nat.le_refl _) hv5
          refine hK.out _ _ hC' trivial ?_
          clear hK K
          clear hcl
          intro hcl
          (try simp only [Act.put, List.getElem_toArray, List.getElem_cons_zero, List.getElem_cons_succ, List.setIfInBounds_toArray, List.set_cons_zero, List.set_cons_succ])
          clear hC
          have hC := hC'
          clear hC'
          (refine wpM_take (i := 25) (v := ?_) rfl (by kernel_rfl) (by kernel_rfl) (by kernel_rfl) (by decide) (fun _ _ _ h => h) hcl hC (fun _ => hE) (Or.inl ⟨by rfl, ?_⟩) ?_; rotate_left; (· (intro w hSw; (try dsimp only at hSw); go_simp; (try with_reducible rfl))); clear hcl; intro hcl; (try simp only [Act.put, List.getElem_toArray, List.getElem_cons_zero, List.getElem_cons_succ, List.setIfInBounds_toArray, List.set_cons_zero, List.set_cons_succ]))
          (refine wpM_take (i := 26) (v := ?_) rfl (by kernel_rfl) (by kernel_rfl) (by kernel_rfl) (by decide) (fun _ _ _ h => h) hcl hC (fun _ => hE) (Or.inl ⟨by rfl, ?_⟩) ?_; rotate_left; (· (intro w hSw; (try dsimp only at hSw); go_simp; (try with_reducible rfl))); clear hcl; intro hcl; (try simp only [Act.put, List.getElem_toArray, List.getElem_cons_zero, List.getElem_cons_succ, List.setIfInBounds_toArray, List.set_cons_zero, List.set_cons_succ]))
          (refine wpM_take (i := 27) (v := ?_) rfl (by kernel_rfl) (by kernel_rfl) (by kernel_rfl) (by decide) (fun _ _ _ h => h) hcl hC (fun _ => hE) (Or.inl ⟨by rfl, ?_⟩) ?_; rotate_left; (· (intro w hSw; (try dsimp only at hSw); go_simp; (try with_reducible rfl))); clear hcl; intro hcl; (try simp only [Act.put, List.getElem_toArray, List.getElem_cons_zero, List.getElem_cons_succ, List.setIfInBounds_toArray, List.set_cons_zero, List.set_cons_succ]))
          refine wpM_done (by kernel_rfl) ?_
          clear hcl
          try simp only [List.getElem_toArray, List.getElem_cons_zero, List.getElem_cons_succ, List.setIfInBounds_toArray, List.set_cons_zero, List.set_cons_succ]
          go_wp2_with fail
          go_meet
          exact ⟨rfl, hC.1⟩
        rw [Bool.false_or] at HJ
        have HJ := Lib.hid HJ
        have HP := Lib.hid HP
        have HQ := Lib.hid HQ
        clear K6
        cases bq
        case true =>
          skip
          refine wp_region_M (fun w' => KQ w6.heap.size w6 w') (fun _ => True) 99 (by kernel_rfl) (kq (Below.refl _ _).drew) trivial ?_
          intro hcl
          have hC : KQ w6.heap.size w6 w6.drew := kq (Below.refl _ _).drew
          have hE := trivial
          (refine wpM_take (i := 0) (v := ?_) rfl (by kernel_rfl) (by kernel_rfl) (by kernel_rfl) (by decide) (fun _ _ _ h => h) hcl hC (fun _ => hE) (Or.inl ⟨by rfl, ?_⟩) ?_; rotate_left; (· (intro w hSw; (try dsimp only at hSw); go_simp; (try with_reducible rfl))); clear hcl; intro hcl; (try simp only [Act.put, List.getElem_toArray, List.getElem_cons_zero, List.getElem_cons_succ, List.setIfInBounds_toArray, List.set_cons_zero, List.set_cons_succ]))
          (refine wpM_take (i := 1) (v := ?_) rfl (by kernel_rfl) (by kernel_rfl) (by kernel_rfl) (by decide) (fun _ _ _ h => h) hcl hC (fun _ => hE) (Or.inl ⟨by rfl, ?_⟩) ?_; rotate_left; (· (intro w hSw; (try dsimp only at hSw); go_simp; (try with_reducible rfl))); clear hcl; intro hcl; (try simp only [Act.put, List.getElem_toArray, List.getElem_cons_zero, List.getElem_cons_succ, List.setIfInBounds_toArray, List.set_cons_zero, List.set_cons_succ]))
          (refine wpM_take (i := 2) (v := ?_) rfl (by kernel_rfl) (by kernel_rfl) (by kernel_rfl) (by decide) (fun _ _ _ h => h) hcl hC (fun _ => hE) (Or.inl ⟨by rfl, ?_⟩) ?_; rotate_left; (· (intro w hSw; (try dsimp only at hSw); go_simp; (try with_reducible rfl))); clear hcl; intro hcl; (try simp only [Act.put, List.getElem_toArray, List.getElem_cons_zero, List.getElem_cons_succ, List.setIfInBounds_toArray, List.set_cons_zero, List.set_cons_succ]))
          (refine wpM_take (i := 3) (v := ?_) rfl (by kernel_rfl) (by kernel_rfl) (by kernel_rfl) (by decide) (fun _ _ _ h => h) hcl hC (fun _ => hE) (Or.inl ⟨by rfl, ?_⟩) ?_; rotate_left; (· (intro w hSw; (try dsimp only at hSw); go_simp; (try with_reducible rfl))); clear hcl; intro hcl; (try simp only [Act.put, List.getElem_toArray, List.getElem_cons_zero, List.getElem_cons_succ, List.setIfInBounds_toArray, List.set_cons_zero, List.set_cons_succ]))
          (refine wpM_take (i := 4) (v := ?_) rfl (by kernel_rfl) (by kernel_rfl) (by kernel_rfl) (by decide) (fun _ _ _ h => h) hcl hC (fun _ => hE) (Or.inl ⟨by rfl, ?_⟩) ?_; rotate_left; (· (intro w hSw; (try dsimp only at hSw); go_simp; (try with_reducible rfl))); clear hcl; intro hcl; (try simp only [Act.put, List.getElem_toArray, List.getElem_cons_zero, List.getElem_cons_succ, List.setIfInBounds_toArray, List.set_cons_zero, List.set_cons_succ]))
          (refine wpM_take (i := 6) (v := ?_) rfl (by kernel_rfl) (by kernel_rfl) (by kernel_rfl) (by decide) (fun _ _ _ h => h) hcl hC (fun _ => hE) (Or.inl ⟨by rfl, ?_⟩) ?_; rotate_left; (· (intro w hSw; (try dsimp only at hSw); go_simp; (try with_reducible rfl))); clear hcl; intro hcl; (try simp only [Act.put, List.getElem_toArray, List.getElem_cons_zero, List.getElem_cons_succ, List.setIfInBounds_toArray, List.set_cons_zero, List.set_cons_succ]))
          (refine wpM_take (i := 7) (v := ?_) rfl (by kernel_rfl) (by kernel_rfl) (by kernel_rfl) (by decide) (fun _ _ _ h => h) hcl hC (fun _ => hE) (Or.inl ⟨by rfl, ?_⟩) ?_; rotate_left; (· (intro w hSw; (try dsimp only at hSw); go_simp; (try with_reducible rfl))); clear hcl; intro hcl; (try simp only [Act.put, List.getElem_toArray, List.getElem_cons_zero, List.getElem_cons_succ, List.setIfInBounds_toArray, List.set_cons_zero, List.set_cons_succ]))
          refine wpM_only (i := 5) rfl (by kernel_rfl) hcl (fun K hK => ?_)
          go_simp
          refine (HJ.out _ hC).mono ?_
          rintro e v1 ⟨rfl, hv1⟩
          have hC' := kq_call hC (Nat.le_refl _) hv1
          refine hK.out _ _ hC' trivial ?_
          clear hK K
          clear hcl
          intro hcl
          (try simp only [Act.put, List.getElem_toArray, List.getElem_cons_zero, List.getElem_cons_succ, List.setIfInBounds_toArray, List.set_cons_zero, List.set_cons_succ])
          clear hC
          have hC := hC'
          clear hC'
          refine wpM_only (i := 8) rfl (by kernel_rfl) hcl (fun K hK => ?_)
          go_simp
          refine (HP.out _ hC).mono ?_
          rintro e v2 ⟨rfl, hv2⟩
          have hC' := kq_call hC (Nat.le_refl _) hv2
          refine hK.out _ _ hC' trivial ?_
          clear hK K
          clear hcl
          intro hcl
          (try simp only [Act.put, List.getElem_toArray, List.getElem_cons_zero, List.getElem_cons_succ, List.setIfInBounds_toArray, List.set_cons_zero, List.set_cons_succ])
          clear hC
          have hC := hC'
          clear hC'
          (refine wpM_take (i := 9) (v := ?_) rfl (by kernel_rfl) (by kernel_rfl) (by kernel_rfl) (by decide) (fun _ _ _ h => h) hcl hC (fun _ => hE) (Or.inl ⟨by rfl, ?_⟩) ?_; rotate_left; (· (intro w hSw; (try dsimp only at hSw); go_simp; (try with_reducible rfl))); clear hcl; intro hcl; (try simp only [Act.put, List.getElem_toArray, List.getElem_cons_zero, List.getElem_cons_succ, List.setIfInBounds_toArray, List.set_cons_zero, List.set_cons_succ]))
          (refine wpM_take (i := 10) (v := ?_) rfl (by kernel_rfl) (by kernel_rfl) (by kernel_rfl) (by decide) (fun _ _ _ h => h) hcl hC (fun _ => hE) (Or.inl ⟨by rfl, ?_⟩) ?_; rotate_left; (· (intro w hSw; (try dsimp only at hSw); go_simp; (try with_reducible rfl))); clear hcl; intro hcl; (try simp only [Act.put, List.getElem_toArray, List.getElem_cons_zero, List.getElem_cons_succ, List.setIfInBounds_toArray, List.set_cons_zero, List.set_cons_succ]))
          (refine wpM_take (i := 11) (v := ?_) rfl (by kernel_rfl) (by kernel_rfl) (by kernel_rfl) (by decide) (fun _ _ _ h => h) hcl hC (fun _ => hE) (Or.inl ⟨by rfl, ?_⟩) ?_; rotate_left; (· (intro w hSw; (try dsimp only at hSw); go_simp; (try with_reducible rfl))); clear hcl; intro hcl; (try simp only [Act.put, List.getElem_toArray, List.getElem_cons_zero, List.getElem_cons_succ, List.setIfInBounds_toArray, List.set_cons_zero, List.set_cons_succ]))
          refine wpM_only (i := 12) rfl (by kernel_rfl) hcl (fun K hK => ?_)
          go_simp
          refine (HQ.out _ hC).mono ?_
          rintro e v3 ⟨rfl, hv3⟩
          have hC' := kq_call hC (Nat.le_refl _) hv3
          refine hK.out _ _ hC' trivial ?_
          clear hK K
          clear hcl
          intro hcl
          (try simp only [Act.put, List.getElem_toArray, List.getElem_cons_zero, List.getElem_cons_succ, List.setIfInBounds_toArray, List.set_cons_zero, List.set_cons_succ])
          clear hC
          have hC := hC'
          clear hC'
          (refine wpM_take (i := 13) (v := ?_) rfl (by kernel_rfl) (by kernel_rfl) (by kernel_rfl) (by decide) (fun _ _ _ h => h) hcl hC (fun _ => hE) (Or.inl ⟨by rfl, ?_⟩) ?_; rotate_left; (· (intro w hSw; (try dsimp only at hSw); go_simp; (try with_reducible rfl))); clear hcl; intro hcl; (try simp only [Act.put, List.getElem_toArray, List.getElem_cons_zero, List.getElem_cons_succ, List.setIfInBounds_toArray, List.set_cons_zero, List.set_cons_succ]))
          (refine wpM_take (i := 14) (v := ?_) rfl (by kernel_rfl) (by kernel_rfl) (by kernel_rfl) (by decide) (fun _ _ _ h => h) hcl hC (fun _ => hE) (Or.inl ⟨by rfl, ?_⟩) ?_; rotate_left; (· (intro w hSw; (try dsimp only at hSw); go_simp; (try with_reducible rfl))); clear hcl; intro hcl; (try simp only [Act.put, List.getElem_toArray, List.getElem_cons_zero, List.getElem_cons_succ, List.setIfInBounds_toArray, List.set_cons_zero, List.set_cons_succ]))
          (refine wpM_take (i := 15) (v := ?_) rfl (by kernel_rfl) (by kernel_rfl) (by kernel_rfl) (by decide) (fun _ _ _ h => h) hcl hC (fun _ => hE) (Or.inl ⟨by rfl, ?_⟩) ?_; rotate_left; (· (intro w hSw; (try dsimp only at hSw); go_simp; (try with_reducible rfl))); clear hcl; intro hcl; (try simp only [Act.put, List.getElem_toArray, List.getElem_cons_zero, List.getElem_cons_succ, List.setIfInBounds_toArray, List.set_cons_zero, List.set_cons_succ]))
          (refine wpM_take (i := 16) (v := ?_) rfl (by kernel_rfl) (by kernel_rfl) (by kernel_rfl) (by decide) (fun _ _ _ h => h) hcl hC (fun _ => hE) (Or.inl ⟨by rfl, ?_⟩) ?_; rotate_left; (· (intro w hSw; (try dsimp only at hSw); go_simp; (try with_reducible rfl))); clear hcl; intro hcl; (try simp only [Act.put, List.getElem_toArray, List.getElem_cons_zero, List.getElem_cons_succ, List.setIfInBounds_toArray, List.set_cons_zero, List.set_cons_succ]))
          (refine wpM_take (i := 17) (v := ?_) rfl (by kernel_rfl) (by kernel_rfl) (by kernel_rfl) (by decide) (fun _ _ _ h => h) hcl hC (fun _ => hE) (Or.inl ⟨by rfl, ?_⟩) ?_; rotate_left; (· (intro w hSw; (try dsimp only at hSw); go_simp; (try with_reducible rfl))); clear hcl; intro hcl; (try simp only [Act.put, List.getElem_toArray, List.getElem_cons_zero, List.getElem_cons_succ, List.setIfInBounds_toArray, List.set_cons_zero, List.set_cons_succ]))
          refine wpM_only (i := 18) rfl (by kernel_rfl) hcl (fun K hK => ?_)
          go_simp
          refine (L1.out _ hC).mono ?_
          rintro e v4 ⟨rfl, hv4⟩
          have hC' := kq_call hC (Nat.le_refl _) hv4
          refine hK.out _ _ hC' trivial ?_
          clear hK K
          clear hcl
          intro hcl
          (try simp only [Act.put, List.getElem_toArray, List.getElem_cons_zero, List.getElem_cons_succ, List.setIfInBounds_toArray, List.set_cons_zero, List.set_cons_succ])
          clear hC
          have hC := hC'
          clear hC'
          (refine wpM_take (i := 19) (v := ?_) rfl (by kernel_rfl) (by kernel_rfl) (by kernel_rfl) (by decide) (fun _ _ _ h => h) hcl hC (fun _ => hE) (Or.inl ⟨by rfl, ?_⟩) ?_; rotate_left; (· (intro w hSw; (try dsimp only at hSw); go_simp; (try with_reducible rfl))); clear hcl; intro hcl; (try simp only [Act.put, List.getElem_toArray, List.getElem_cons_zero, List.getElem_cons_succ, List.setIfInBounds_toArray, List.set_cons_zero, List.set_cons_succ]))
          (refine wpM_take (i := 20) (v := ?_) rfl (by kernel_rfl) (by kernel_rfl) (by kernel_rfl) (by decide) (fun _ _ _ h => h) hcl hC (fun _ => hE) (Or.inl ⟨by rfl, ?_⟩) ?_; rotate_left; (· (intro w hSw; (try dsimp only at hSw); go_simp; (try with_reducible rfl))); clear hcl; intro hcl; (try simp only [Act.put, List.getElem_toArray, List.getElem_cons_zero, List.getElem_cons_succ, List.setIfInBounds_toArray, List.set_cons_zero, List.set_cons_succ]))
          (refine wpM_take (i := 21) (v := ?_) rfl (by kernel_rfl) (by kernel_rfl) (by kernel_rfl) (by decide) (fun _ _ _ h => h) hcl hC (fun _ => hE) (Or.inl ⟨by rfl, ?_⟩) ?_; rotate_left; (· (intro w hSw; (try dsimp only at hSw); go_simp; (try with_reducible rfl))); clear hcl; intro hcl; (try simp only [Act.put, List.getElem_toArray, List.getElem_cons_zero, List.getElem_cons_succ, List.setIfInBounds_toArray, List.set_cons_zero, List.set_cons_succ]))
          (refine wpM_take (i := 22) (v := ?_) rfl (by kernel_rfl) (by kernel_rfl) (by kernel_rfl) (by decide) (fun _ _ _ h => h) hcl hC (fun _ => hE) (Or.inl ⟨by rfl, ?_⟩) ?_; rotate_left; (· (intro w hSw; (try dsimp only at hSw); go_simp; (try with_reducible rfl))); clear hcl; intro hcl; (try simp only [Act.put, List.getElem_toArray, List.getElem_cons_zero, List.getElem_cons_succ, List.setIfInBounds_toArray, List.set_cons_zero, List.set_cons_succ]))
          (refine wpM_take (i := 23) (v := ?_) rfl (by kernel_rfl) (by kernel_rfl) (by kernel_rfl) (by decide) (fun _ _ _ h => h) hcl hC (fun _ => hE) (Or.inl ⟨by rfl, ?_⟩) ?_; rotate_left; (· (intro w hSw; (try dsimp only at hSw); go_simp; (try with_reducible rfl))); clear hcl; intro hcl; (try simp only [Act.put, List.getElem_toArray, List.getElem_cons_zero, List.getElem_cons_succ, List.setIfInBounds_toArray, List.set_cons_zero, List.set_cons_succ]))
          refine wpM_only (i := 24) rfl (by kernel_rfl) hcl (fun K hK => ?_)
          go_simp
          refine (L2.out _ hC).mono ?_
          rintro e v5 ⟨rfl, hv5⟩
          have hC' := kq_call hC (Nat.le_refl _) hv5
          refine hK.out _ _ hC' trivial ?_
          clear hK K
          clear hcl
          intro hcl
          (try simp only [Act.put, List.getElem_toArray, List.getElem_cons_zero, List.getElem_cons_succ, List.setIfInBounds_toArray, List.set_cons_zero, List.set_cons_succ])
          clear hC
          have hC := hC'
          clear hC'
          (refine wpM_take (i := 25) (v := ?_) rfl (by kernel_rfl) (by kernel_rfl) (by kernel_rfl) (by decide) (fun _ _ _ h => h) hcl hC (fun _ => hE) (Or.inl ⟨by rfl, ?_⟩) ?_; rotate_left; (· (intro w hSw; (try dsimp only at hSw); go_simp; (try with_reducible rfl))); clear hcl; intro hcl; (try simp only [Act.put, List.getElem_toArray, List.getElem_cons_zero, List.getElem_cons_succ, List.setIfInBounds_toArray, List.set_cons_zero, List.set_cons_succ]))
          (refine wpM_take (i := 26) (v := ?_) rfl (by kernel_rfl) (by kernel_rfl) (by kernel_rfl) (by decide) (fun _ _ _ h => h) hcl hC (fun _ => hE) (Or.inl ⟨by rfl, ?_⟩) ?_; rotate_left; (· (intro w hSw; (try dsimp only at hSw); go_simp; (try with_reducible rfl))); clear hcl; intro hcl; (try simp only [Act.put, List.getElem_toArray, List.getElem_cons_zero, List.getElem_cons_succ, List.setIfInBounds_toArray, List.set_cons_zero, List.set_cons_succ]))
          (refine wpM_take (i := 27) (v := ?_) rfl (by kernel_rfl) (by kernel_rfl) (by kernel_rfl) (by decide) (fun _ _ _ h => h) hcl hC (fun _ => hE) (Or.inl ⟨by rfl, ?_⟩) ?_; rotate_left; (· (intro w hSw; (try dsimp only at hSw); go_simp; (try with_reducible rfl))); clear hcl; intro hcl; (try simp only [Act.put, List.getElem_toArray, List.getElem_cons_zero, List.getElem_cons_succ, List.setIfInBounds_toArray, List.set_cons_zero, List.set_cons_succ]))
          refine wpM_done (by kernel_rfl) ?_
          clear hcl
          try simp only [List.getElem_toArray, List.getElem_cons_zero, List.getElem_cons_succ, List.setIfInBounds_toArray, List.set_cons_zero, List.set_cons_succ]
          go_wp2_with fail
          go_meet
          exact ⟨rfl, hC.1⟩
        skip
        refine wp_region_M (fun w' => KQ w6.heap.size w6 w') (fun _ => True) 99 (by kernel_rfl) (kq (Below.refl _ _).drew) trivial ?_
        intro hcl
        have hC : KQ w6.heap.size w6 w6.drew := kq (Below.refl _ _).drew
        have hE := trivial
        (refine wpM_take (i := 0) (v := ?_) rfl (by kernel_rfl) (by kernel_rfl) (by kernel_rfl) (by decide) (fun _ _ _ h => h) hcl hC (fun _ => hE) (Or.inl ⟨by rfl, ?_⟩) ?_; rotate_left; (· (intro w hSw; (try dsimp only at hSw); go_simp; (try with_reducible rfl))); clear hcl; intro hcl; (try simp only [Act.put, List.getElem_toArray, List.getElem_cons_zero, List.getElem_cons_succ, List.setIfInBounds_toArray, List.set_cons_zero, List.set_cons_succ]))
        (refine wpM_take (i := 1) (v := ?_) rfl (by kernel_rfl) (by kernel_rfl) (by kernel_rfl) (by decide) (fun _ _ _ h => h) hcl hC (fun _ => hE) (Or.inl ⟨by rfl, ?_⟩) ?_; rotate_left; (· (intro w hSw; (try dsimp only at hSw); go_simp; (try with_reducible rfl))); clear hcl; intro hcl; (try simp only [Act.put, List.getElem_toArray, List.getElem_cons_zero, List.getElem_cons_succ, List.setIfInBounds_toArray, List.set_cons_zero, List.set_cons_succ]))
        (refine wpM_take (i := 2) (v := ?_) rfl (by kernel_rfl) (by kernel_rfl) (by kernel_rfl) (by decide) (fun _ _ _ h => h) hcl hC (fun _ => hE) (Or.inl ⟨by rfl, ?_⟩) ?_; rotate_left; (· (intro w hSw; (try dsimp only at hSw); go_simp; (try with_reducible rfl))); clear hcl; intro hcl; (try simp only [Act.put, List.getElem_toArray, List.getElem_cons_zero, List.getElem_cons_succ, List.setIfInBounds_toArray, List.set_cons_zero, List.set_cons_succ]))
        (refine wpM_take (i := 3) (v := ?_) rfl (by kernel_rfl) (by kernel_rfl) (by kernel_rfl) (by decide) (fun _ _ _ h => h) hcl hC (fun _ => hE) (Or.inl ⟨by rfl, ?_⟩) ?_; rotate_left; (· (intro w hSw; (try dsimp only at hSw); go_simp; (try with_reducible rfl))); clear hcl; intro hcl; (try simp only [Act.put, List.getElem_toArray, List.getElem_cons_zero, List.getElem_cons_succ, List.setIfInBounds_toArray, List.set_cons_zero, List.set_cons_succ]))
        (refine wpM_take (i := 4) (v := ?_) rfl (by kernel_rfl) (by kernel_rfl) (by kernel_rfl) (by decide) (fun _ _ _ h => h) hcl hC (fun _ => hE) (Or.inl ⟨by rfl, ?_⟩) ?_; rotate_left; (· (intro w hSw; (try dsimp only at hSw); go_simp; (try with_reducible rfl))); clear hcl; intro hcl; (try simp only [Act.put, List.getElem_toArray, List.getElem_cons_zero, List.getElem_cons_succ, List.setIfInBounds_toArray, List.set_cons_zero, List.set_cons_succ]))
        (refine wpM_take (i := 6) (v := ?_) rfl (by kernel_rfl) (by kernel_rfl) (by kernel_rfl) (by decide) (fun _ _ _ h => h) hcl hC (fun _ => hE) (Or.inl ⟨by rfl, ?_⟩) ?_; rotate_left; (· (intro w hSw; (try dsimp only at hSw); go_simp; (try with_reducible rfl))); clear hcl; intro hcl; (try simp only [Act.put, List.getElem_toArray, List.getElem_cons_zero, List.getElem_cons_succ, List.setIfInBounds_toArray, List.set_cons_zero, List.set_cons_succ]))
        (refine wpM_take (i := 7) (v := ?_) rfl (by kernel_rfl) (by kernel_rfl) (by kernel_rfl) (by decide) (fun _ _ _ h => h) hcl hC (fun _ => hE) (Or.inl ⟨by rfl, ?_⟩) ?_; rotate_left; (· (intro w hSw; (try dsimp only at hSw); go_simp; (try with_reducible rfl))); clear hcl; intro hcl; (try simp only [Act.put, List.getElem_toArray, List.getElem_cons_zero, List.getElem_cons_succ, List.setIfInBounds_toArray, List.set_cons_zero, List.set_cons_succ]))
        refine wpM_only (i := 5) rfl (by kernel_rfl) hcl (fun K hK => ?_)
        go_simp
        refine (HJ.out _ hC).mono ?_
        rintro e v1 ⟨rfl, hv1⟩
        have hC' := kq_call hC (Nat.le_refl _) hv1
        refine hK.out _ _ hC' trivial ?_
        clear hK K
        clear hcl
        intro hcl
        (try simp only [Act.put, List.getElem_toArray, List.getElem_cons_zero, List.getElem_cons_succ, List.setIfInBounds_toArray, List.set_cons_zero, List.set_cons_succ])
        clear hC
        have hC := hC'
        clear hC'
        refine wpM_only (i := 8) rfl (by kernel_rfl) hcl (fun K hK => ?_)
        go_simp
        refine (HP.out _ hC).mono ?_
        rintro e v2 ⟨rfl, hv2⟩
        have hC' := kq_call hC (Nat.le_refl _) hv2
        refine hK.out _ _ hC' trivial ?_
        clear hK K
        clear hcl
        intro hcl
        (try simp only [Act.put, List.getElem_toArray, List.getElem_cons_zero, List.getElem_cons_succ, List.setIfInBounds_toArray, List.set_cons_zero, List.set_cons_succ])
        clear hC
        have hC := hC'
        clear hC'
        (refine wpM_take (i := 9) (v := ?_) rfl (by kernel_rfl) (by kernel_rfl) (by kernel_rfl) (by decide) (fun _ _ _ h => h) hcl hC (fun _ => hE) (Or.inl ⟨by rfl, ?_⟩) ?_; rotate_left; (· (intro w hSw; (try dsimp only at hSw); go_simp; (try with_reducible rfl))); clear hcl; intro hcl; (try simp only [Act.put, List.getElem_toArray, List.getElem_cons_zero, List.getElem_cons_succ, List.setIfInBounds_toArray, List.set_cons_zero, List.set_cons_succ]))
        (refine wpM_take (i := 10) (v := ?_) rfl (by kernel_rfl) (by kernel_rfl) (by kernel_rfl) (by decide) (fun _ _ _ h => h) hcl hC (fun _ => hE) (Or.inl ⟨by rfl, ?_⟩) ?_; rotate_left; (· (intro w hSw; (try dsimp only at hSw); go_simp; (try with_reducible rfl))); clear hcl; intro hcl; (try simp only [Act.put, List.getElem_toArray, List.getElem_cons_zero, List.getElem_cons_succ, List.setIfInBounds_toArray, List.set_cons_zero, List.set_cons_succ]))
        (refine wpM_take (i := 11) (v := ?_) rfl (by kernel_rfl) (by kernel_rfl) (by kernel_rfl) (by decide) (fun _ _ _ h => h) hcl hC (fun _ => hE) (Or.inl ⟨by rfl, ?_⟩) ?_; rotate_left; (· (intro w hSw; (try dsimp only at hSw); go_simp; (try with_reducible rfl))); clear hcl; intro hcl; (try simp only [Act.put, List.getElem_toArray, List.getElem_cons_zero, List.getElem_cons_succ, List.setIfInBounds_toArray, List.set_cons_zero, List.set_cons_succ]))
        refine wpM_only (i := 12) rfl (by kernel_rfl) hcl (fun K hK => ?_)
        go_simp
        refine (HQ.out _ hC).mono ?_
        rintro e v3 ⟨rfl, hv3⟩
        have hC' := kq_call hC (Nat.le_refl _) hv3
        refine hK.out _ _ hC' trivial ?_
        clear hK K
        clear hcl
        intro hcl
        (try simp only [Act.put, List.getElem_toArray, List.getElem_cons_zero, List.getElem_cons_succ, List.setIfInBounds_toArray, List.set_cons_zero, List.set_cons_succ])
        clear hC
        have hC := hC'
        clear hC'
        (refine wpM_take (i := 13) (v := ?_) rfl (by kernel_rfl) (by kernel_rfl) (by kernel_rfl) (by decide) (fun _ _ _ h => h) hcl hC (fun _ => hE) (Or.inl ⟨by rfl, ?_⟩) ?_; rotate_left; (· (intro w hSw; (try dsimp only at hSw); go_simp; (try with_reducible rfl))); clear hcl; intro hcl; (try simp only [Act.put, List.getElem_toArray, List.getElem_cons_zero, List.getElem_cons_succ, List.setIfInBounds_toArray, List.set_cons_zero, List.set_cons_succ]))
        (refine wpM_take (i := 14) (v := ?_) rfl (by kernel_rfl) (by kernel_rfl) (by kernel_rfl) (by decide) (fun _ _ _ h => h) hcl hC (fun _ => hE) (Or.inl ⟨by rfl, ?_⟩) ?_; rotate_left; (· (intro w hSw; (try dsimp only at hSw); go_simp; (try with_reducible rfl))); clear hcl; intro hcl; (try simp only [Act.put, List.getElem_toArray, List.getElem_cons_zero, List.getElem_cons_succ, List.setIfInBounds_toArray, List.set_cons_zero, List.set_cons_succ]))
        (refine wpM_take (i := 15) (v := ?_) rfl (by kernel_rfl) (by kernel_rfl) (by kernel_rfl) (by decide) (fun _ _ _ h => h) hcl hC (fun _ => hE) (Or.inl ⟨by rfl, ?_⟩) ?_; rotate_left; (· (intro w hSw; (try dsimp only at hSw); go_simp; (try with_reducible rfl))); clear hcl; intro hcl; (try simp only [Act.put, List.getElem_toArray, List.getElem_cons_zero, List.getElem_cons_succ, List.setIfInBounds_toArray, List.set_cons_zero, List.set_cons_succ]))
        (refine wpM_take (i := 16) (v := ?_) rfl (by kernel_rfl) (by kernel_rfl) (by kernel_rfl) (by decide) (fun _ _ _ h => h) hcl hC (fun _ => hE) (Or.inl ⟨by rfl, ?_⟩) ?_; rotate_left; (· (intro w hSw; (try dsimp only at hSw); go_simp; (try with_reducible rfl))); clear hcl; intro hcl; (try simp only [Act.put, List.getElem_toArray, List.getElem_cons_zero, List.getElem_cons_succ, List.setIfInBounds_toArray, List.set_cons_zero, List.set_cons_succ]))
        (refine wpM_take (i := 17) (v := ?_) rfl (by kernel_rfl) (by kernel_rfl) (by kernel_rfl) (by decide) (fun _ _ _ h => h) hcl hC (fun _ => hE) (Or.inl ⟨by rfl, ?_⟩) ?_; rotate_left; (· (intro w hSw; (try dsimp only at hSw); go_simp; (try with_reducible rfl))); clear hcl; intro hcl; (try simp only [Act.put, List.getElem_toArray, List.getElem_cons_zero, List.getElem_cons_succ, List.setIfInBounds_toArray, List.set_cons_zero, List.set_cons_succ]))
        refine wpM_only (i := 18) rfl (by kernel_rfl) hcl (fun K hK => ?_)
        go_simp
        refine (L1.out _ hC).mono ?_
        rintro e v4 ⟨rfl, hv4⟩
        have hC' := kq_call hC (Nat.le_refl _) hv4
        refine hK.out _ _ hC' trivial ?_
        clear hK K
        clear hcl
        intro hcl
        (try simp only [Act.put, List.getElem_toArray, List.getElem_cons_zero, List.getElem_cons_succ, List.setIfInBounds_toArray, List.set_cons_zero, List.set_cons_succ])
        clear hC
        have hC := hC'
        clear hC'
        (refine wpM_take (i := 19) (v := ?_) rfl (by kernel_rfl) (by kernel_rfl) (by kernel_rfl) (by decide) (fun _ _ _ h => h) hcl hC (fun _ => hE) (Or.inl ⟨by rfl, ?_⟩) ?_; rotate_left; (· (intro w hSw; (try dsimp only at hSw); go_simp; (try with_reducible rfl))); clear hcl; intro hcl; (try simp only [Act.put, List.getElem_toArray, List.getElem_cons_zero, List.getElem_cons_succ, List.setIfInBounds_toArray, List.set_cons_zero, List.set_cons_succ]))
        (refine wpM_take (i := 20) (v := ?_) rfl (by kernel_rfl) (by kernel_rfl) (by kernel_rfl) (by decide) (fun _ _ _ h => h) hcl hC (fun _ => hE) (Or.inl ⟨by rfl, ?_⟩) ?_; rotate_left; (· (intro w hSw; (try dsimp only at hSw); go_simp; (try with_reducible rfl))); clear hcl; intro hcl; (try simp only [Act.put, List.getElem_toArray, List.getElem_cons_zero, List.getElem_cons_succ, List.setIfInBounds_toArray, List.set_cons_zero, List.set_cons_succ]))
        (refine wpM_take (i := 21) (v := ?_) rfl (by kernel_rfl) (by kernel_rfl) (by kernel_rfl) (by decide) (fun _ _ _ h => h) hcl hC (fun _ => hE) (Or.inl ⟨by rfl, ?_⟩) ?_; rotate_left; (· (intro w hSw; (try dsimp only at hSw); go_simp; (try with_reducible rfl))); clear hcl; intro hcl; (try simp only [Act.put, List.getElem_toArray, List.getElem_cons_zero, List.getElem_cons_succ, List.setIfInBounds_toArray, List.set_cons_zero, List.set_cons_succ]))
        (refine wpM_take (i := 22) (v := ?_) rfl (by kernel_rfl) (by kernel_rfl) (by kernel_rfl) (by decide) (fun _ _ _ h => h) hcl hC (fun _ => hE) (Or.inl ⟨by rfl, ?_⟩) ?_; rotate_left; (· (intro w hSw; (try dsimp only at hSw); go_simp; (try with_reducible rfl))); clear hcl; intro hcl; (try simp only [Act.put, List.getElem_toArray, List.getElem_cons_zero, List.getElem_cons_succ, List.setIfInBounds_toArray, List.set_cons_zero, List.set_cons_succ]))
        (refine wpM_take (i := 23) (v := ?_) rfl (by kernel_rfl) (by kernel_rfl) (by kernel_rfl) (by decide) (fun _ _ _ h => h) hcl hC (fun _ => hE) (Or.inl ⟨by rfl, ?_⟩) ?_; rotate_left; (· (intro w hSw; (try dsimp only at hSw); go_simp; (try with_reducible rfl))); clear hcl; intro hcl; (try simp only [Act.put, List.getElem_toArray, List.getElem_cons_zero, List.getElem_cons_succ, List.setIfInBounds_toArray, List.set_cons_zero, List.set_cons_succ]))
        refine wpM_only (i := 24) rfl (by kernel_rfl) hcl (fun K hK => ?_)
        go_simp
        refine (L2.out _ hC).mono ?_
        rintro e v5 ⟨rfl, hv5⟩
        have hC' := kq_call hC (Nat.le_refl _) hv5
        refine hK.out _ _ hC' trivial ?_
        clear hK K
        clear hcl
        intro hcl
        (try simp only [Act.put, List.getElem_toArray, List.getElem_cons_zero, List.getElem_cons_succ, List.setIfInBounds_toArray, List.set_cons_zero, List.set_cons_succ])
        clear hC
        have hC := hC'
        clear hC'
        (refine wpM_take (i := 25) (v := ?_) rfl (by kernel_rfl) (by kernel_rfl) (by kernel_rfl) (by decide) (fun _ _ _ h => h) hcl hC (fun _ => hE) (Or.inl ⟨by rfl, ?_⟩) ?_; rotate_left; (· (intro w hSw; (try dsimp only at hSw); go_simp; (try with_reducible rfl))); clear hcl; intro hcl; (try simp only [Act.put, List.getElem_toArray, List.getElem_cons_zero, List.getElem_cons_succ, List.setIfInBounds_toArray, List.set_cons_zero, List.set_cons_succ]))
        (refine wpM_take (i := 26) (v := ?_) rfl (by kernel_rfl) (by kernel_rfl) (by kernel_rfl) (by decide) (fun _ _ _ h => h) hcl hC (fun _ => hE) (Or.inl ⟨by rfl, ?_⟩) ?_; rotate_left; (· (intro w hSw; (try dsimp only at hSw); go_simp; (try with_reducible rfl))); clear hcl; intro hcl; (try simp only [Act.put, List.getElem_toArray, List.getElem_cons_zero, List.getElem_cons_succ, List.setIfInBounds_toArray, List.set_cons_zero, List.set_cons_succ]))
        (refine wpM_take (i := 27) (v := ?_) rfl (by kernel_rfl) (by kernel_rfl) (by kernel_rfl) (by decide) (fun _ _ _ h => h) hcl hC (fun _ => hE) (Or.inl ⟨by rfl, ?_⟩) ?_; rotate_left; (· (intro w hSw; (try dsimp only at hSw); go_simp; (try with_reducible rfl))); clear hcl; intro hcl; (try simp only [Act.put, List.getElem_toArray, List.getElem_cons_zero, List.getElem_cons_succ, List.setIfInBounds_toArray, List.set_cons_zero, List.set_cons_succ]))
        refine wpM_done (by kernel_rfl) ?_
        clear hcl
        try simp only [List.getElem_toArray, List.getElem_cons_zero, List.getElem_cons_succ, List.setIfInBounds_toArray, List.set_cons_zero, List.set_cons_succ]
        go_wp2_with fail
        go_meet
        exact ⟨rfl, hC.1⟩
      case rest =>
        obtain ⟨rfl, hb7'⟩ := hcut
        obtain ⟨w7, hw7⟩ : ∃ w7, w7 = wc := ⟨_, rfl⟩
        obtain rfl := hw7
        have hb7 := hb6.trans (hb7'.mono hb6.size)
        have hG7 := hG3.trans (hb7.mono hG3.size)
        skip
        (try clear q0 q1 q2 q3 q4 q5 q6 q7 q8)
        (try clear s0 s1 s2 s3 s4 s5 s6 s7 s8)
        (try clear t0 t1 t2 t3 t4 t5 t6 t7 t8)
        (try clear i0 i1)
        clear hltP6 hltQ6 hltJ6 hltI6 jl jw oj6 hJ6 hb66 hb7'
        skip
        have qX := blk_below hP3.out hb7
        have hltP7 := blk_lt qX
        have q0 := blk_cell qX 0
        have q1 := blk_cell qX 1
        have q2 := blk_cell qX 2
        have q3 := blk_cell qX 3
        have q4 := blk_cell qX 4
        have q5 := blk_cell qX 5
        have q6 := blk_cell qX 6
        have q7 := blk_cell qX 7
        have q8 := blk_cell qX 8
        simp at q0 q1 q2 q3 q4 q5 q6 q7 q8
        clear qX
        have iX := blk_below hI3.out hb7
        have hltI7 := blk_lt iX
        have i0 := blk_cell iX 0
        have i1 := blk_cell iX 1
        simp at i0 i1
        clear iX
        have cN := Lib.hid (cadd_any pv Ap np kp pd x w7 (op3H.out.below hb7).rd.1 (by have := pnH.out; omega) op3H.out.rd.2.2.1 op3H.out.rd.2.2.2 pw.out (kn_wf pk0H.out) hxwH.out)
        have al := Lib.hid (fun h : addErr pv pd x = 0 => add_law h)
        have aw : Hid ((addV pv pd x).wf) := Lib.hid (by unfold addV; split <;> first | exact zV_wf | exact kn_vwf _ pw.out)
        generalize addV pv pd x = av at *
        generalize addD pv pd x = ad at *
        generalize addErr pv pd x = ae at *
        go_wp2_with fail
        refine cN.out.mono ?_
        rintro e w8 ⟨Aw, nw, kw, rfl, ow, hb8⟩
        skip
        (try clear q0 q1 q2 q3 q4 q5 q6 q7 q8)
        (try clear s0 s1 s2 s3 s4 s5 s6 s7 s8)
        (try clear t0 t1 t2 t3 t4 t5 t6 t7 t8)
        (try clear i0 i1)
        clear cN hltP7 hltI7
        go_upto_region 15 with (fail)
        obtain ⟨w9, hw9⟩ : ∃ w9, w8.alloc (.cells #[.int .u32 av.d0, .int .u32 av.d1, .int .u32 av.d2, .int .u32 av.d3, .int .u32 av.d4, .int .u32 av.d5, .int .u32 av.d6, .int .u32 av.d7, .slice Aw nw kw] 50) = w9 := ⟨_, rfl⟩
        have hbN9 : w9.heap[w8.heap.size]? = some (.cells #[.int .u32 av.d0, .int .u32 av.d1, .int .u32 av.d2, .int .u32 av.d3, .int .u32 av.d4, .int .u32 av.d5, .int .u32 av.d6, .int .u32 av.d7, .slice Aw nw kw] 50 (0, 0)) := by rw [← hw9]; exact heap_at _ _ rfl
        have hb9' : Below w8.heap.size w8 w9 := by rw [← hw9]; exact (Below.refl _ w8).alloc (Nat.le_refl _) _
        rw [hw9]
        clear hw9
        have hb9 : Below w3.heap.size w3 w9 := (hb7.trans (hb8.mono hb7.size)).trans (hb9'.mono (Nat.le_trans hb7.size hb8.size))
        have hG9 := hG3.trans (hb9.mono hG3.size)
        have ow9 := ow.below hb9'
        have hN9 := Lib.hid hbN9
        clear hb7 hb8 hb9' hbN9 ow hG7
        by_cases hae : ae = 0
        case neg =>
          have hne : (ae != 0) = true := by simpa using hae
          go_wp2
          go_ret
          exact ⟨rfl, hG9⟩
        subst hae
        obtain ⟨_, ah, _, ak, akn⟩ := al.out rfl
        have had := (lerr_zero.1 (cut_ok.1 ak).2.1).1
        have han : ad.length = nw := by simpa using ow9.rd.2.1
        have m1 : hasC av ad x = true := by rw [akn]; simp
        have l1 : leC pv pd av ad := ⟨pk0H.out, ak, fun y hy => by rw [akn, hy]; rfl⟩
        have l2 : ¬ leC av ad pv pd := fun h => by
          have := h.2.2 x m1
          rw [ah] at this
          exact absurd this (by decide)
        have HN := fun w' (h : Below w9.heap.size w9 w') => chas_any av Aw nw kw ad x w' (ow9.below h).rd.1 (by omega) hxwH.out
        have HP := fun w' (h : Below w9.heap.size w9 w') => chas_any pv Ap np kp pd x w' (op3H.out.below (hb9.trans (h.mono hb9.size))).rd.1 (by have := pnH.out; omega) hxwH.out
        have L1 := Lib.hid (fun w' (h : Below w9.heap.size w9 w') => (cle_any pv av Ap Aw np nw kp kw pd ad w' (op3H.out.below (hb9.trans (h.mono hb9.size))).rd.1 (ow9.below h).rd.1 (by have := pnH.out; omega) (by omega) pw.out aw.out (kn_wf pk0H.out) (kn_wf ak)).mono (fun e w'' h => kn_true h l1))
        have L2 := Lib.hid (fun w' (h : Below w9.heap.size w9 w') => (cle_any av pv Aw Ap nw np kw kp ad pd w' (ow9.below h).rd.1 (op3H.out.below (hb9.trans (h.mono hb9.size))).rd.1 (by omega) (by have := pnH.out; omega) aw.out pw.out (kn_wf ak) (kn_wf pk0H.out)).mono (fun e w'' h => kn_false h l2))
        rw [m1] at HN
        rw [ah] at HP
        have HN := Lib.hid HN
        have HP := Lib.hid HP
        have hb99 : Below w9.heap.size w9 w9 := Below.refl _ _
        clear ah ak akn had han m1 l1 l2 al aw
        skip
        have qX := blk_below hP3.out hb9
        have hltP9 := blk_lt qX
        have q0 := blk_cell qX 0
        have q1 := blk_cell qX 1
        have q2 := blk_cell qX 2
        have q3 := blk_cell qX 3
        have q4 := blk_cell qX 4
        have q5 := blk_cell qX 5
        have q6 := blk_cell qX 6
        have q7 := blk_cell qX 7
        have q8 := blk_cell qX 8
        simp at q0 q1 q2 q3 q4 q5 q6 q7 q8
        clear qX
        have tX := blk_below hN9.out hb99
        have hltN9 := blk_lt tX
        have t0 := blk_cell tX 0
        have t1 := blk_cell tX 1
        have t2 := blk_cell tX 2
        have t3 := blk_cell tX 3
        have t4 := blk_cell tX 4
        have t5 := blk_cell tX 5
        have t6 := blk_cell tX 6
        have t7 := blk_cell tX 7
        have t8 := blk_cell tX 8
        simp at t0 t1 t2 t3 t4 t5 t6 t7 t8
        clear tX
        have iX := blk_below hI3.out hb9
        have hltI9 := blk_lt iX
        have i0 := blk_cell iX 0
        have i1 := blk_cell iX 1
        simp at i0 i1
        clear iX
        go_wp2_with fail
        refine (HN.out w9 hb99).mono ?_
        rintro e w10 ⟨rfl, hb10⟩
        skip
        (try clear q0 q1 q2 q3 q4 q5 q6 q7 q8)
        (try clear s0 s1 s2 s3 s4 s5 s6 s7 s8)
        (try clear t0 t1 t2 t3 t4 t5 t6 t7 t8)
        (try clear i0 i1)
        have hc10 := hb9.trans (hb10.mono hb9.size)
        have qX := blk_below hP3.out hc10
        have hltP10 := blk_lt qX
        have q0 := blk_cell qX 0
        have q1 := blk_cell qX 1
        have q2 := blk_cell qX 2
        have q3 := blk_cell qX 3
        have q4 := blk_cell qX 4
        have q5 := blk_cell qX 5
        have q6 := blk_cell qX 6
        have q7 := blk_cell qX 7
        have q8 := blk_cell qX 8
        simp at q0 q1 q2 q3 q4 q5 q6 q7 q8
        clear qX
        have tX := blk_below hN9.out hb10
        have hltN10 := blk_lt tX
        have t0 := blk_cell tX 0
        have t1 := blk_cell tX 1
        have t2 := blk_cell tX 2
        have t3 := blk_cell tX 3
        have t4 := blk_cell tX 4
        have t5 := blk_cell tX 5
        have t6 := blk_cell tX 6
        have t7 := blk_cell tX 7
        have t8 := blk_cell tX 8
        simp at t0 t1 t2 t3 t4 t5 t6 t7 t8
        clear tX
        have iX := blk_below hI3.out hc10
        have hltI10 := blk_lt iX
        have i0 := blk_cell iX 0
        have i1 := blk_cell iX 1
        simp at i0 i1
        clear iX
        go_wp2_with fail
        refine (HP.out w10 hb10).mono ?_
        rintro e w11 ⟨rfl, hb11⟩
        replace hb11 := hb10.trans (hb11.mono hb10.size)
        skip
        (try clear q0 q1 q2 q3 q4 q5 q6 q7 q8)
        (try clear s0 s1 s2 s3 s4 s5 s6 s7 s8)
        (try clear t0 t1 t2 t3 t4 t5 t6 t7 t8)
        (try clear i0 i1)
        have hc11 := hb9.trans (hb11.mono hb9.size)
        have qX := blk_below hP3.out hc11
        have hltP11 := blk_lt qX
        have q0 := blk_cell qX 0
        have q1 := blk_cell qX 1
        have q2 := blk_cell qX 2
        have q3 := blk_cell qX 3
        have q4 := blk_cell qX 4
        have q5 := blk_cell qX 5
        have q6 := blk_cell qX 6
        have q7 := blk_cell qX 7
        have q8 := blk_cell qX 8
        simp at q0 q1 q2 q3 q4 q5 q6 q7 q8
        clear qX
        have tX := blk_below hN9.out hb11
        have hltN11 := blk_lt tX
        have t0 := blk_cell tX 0
        have t1 := blk_cell tX 1
        have t2 := blk_cell tX 2
        have t3 := blk_cell tX 3
        have t4 := blk_cell tX 4
        have t5 := blk_cell tX 5
        have t6 := blk_cell tX 6
        have t7 := blk_cell tX 7
        have t8 := blk_cell tX 8
        simp at t0 t1 t2 t3 t4 t5 t6 t7 t8
        clear tX
        have iX := blk_below hI3.out hc11
        have hltI11 := blk_lt iX
        have i0 := blk_cell iX 0
        have i1 := blk_cell iX 1
        simp at i0 i1
        clear iX
        go_wp2_with fail
        refine (L1.out w11 hb11).mono ?_
        rintro e w12 ⟨rfl, hb12⟩
        replace hb12 := hb11.trans (hb12.mono hb11.size)
        skip
        (try clear q0 q1 q2 q3 q4 q5 q6 q7 q8)
        (try clear s0 s1 s2 s3 s4 s5 s6 s7 s8)
        (try clear t0 t1 t2 t3 t4 t5 t6 t7 t8)
        (try clear i0 i1)
        have hc12 := hb9.trans (hb12.mono hb9.size)
        have qX := blk_below hP3.out hc12
        have hltP12 := blk_lt qX
        have q0 := blk_cell qX 0
        have q1 := blk_cell qX 1
        have q2 := blk_cell qX 2
        have q3 := blk_cell qX 3
        have q4 := blk_cell qX 4
        have q5 := blk_cell qX 5
        have q6 := blk_cell qX 6
        have q7 := blk_cell qX 7
        have q8 := blk_cell qX 8
        simp at q0 q1 q2 q3 q4 q5 q6 q7 q8
        clear qX
        have tX := blk_below hN9.out hb12
        have hltN12 := blk_lt tX
        have t0 := blk_cell tX 0
        have t1 := blk_cell tX 1
        have t2 := blk_cell tX 2
        have t3 := blk_cell tX 3
        have t4 := blk_cell tX 4
        have t5 := blk_cell tX 5
        have t6 := blk_cell tX 6
        have t7 := blk_cell tX 7
        have t8 := blk_cell tX 8
        simp at t0 t1 t2 t3 t4 t5 t6 t7 t8
        clear tX
        have iX := blk_below hI3.out hc12
        have hltI12 := blk_lt iX
        have i0 := blk_cell iX 0
        have i1 := blk_cell iX 1
        simp at i0 i1
        clear iX
        go_wp2_with fail
        refine (L2.out w12 hb12).mono ?_
        rintro e w13 ⟨rfl, hb13⟩
        replace hb13 := hb12.trans (hb13.mono hb12.size)
        have hG := hG9.trans (hb13.mono hG9.size)
        go_wp2
        go_ret
        exact ⟨rfl, hG⟩
end Go.Proofs.Ythfjbbijcemmoaa
