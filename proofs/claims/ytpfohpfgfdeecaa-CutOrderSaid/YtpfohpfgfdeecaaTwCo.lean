/- The statement CutOrder, walked. -/
import Derived.Test.YtpfohpfgfdeecaaCmW
import Derived.Test.YtpfohpfgfdeecaaCtI
namespace Go.Proofs.Ytpfohpfgfdeecaa
open Go.RowKit

theorem grI_ord {n : Nat} (h : grI n = false) : n ≤ 1100 := by
  unfold grI at h
  rw [decide_eq_false_iff_not] at h
  omega
theorem ret_true {e : Ending} {w w' : World} {P : Prop} {n : Nat} (h : ∃ r : Bool, e = .returned (.bool r) ∧ (r = true ↔ P) ∧ Below n w w') (hP : P) : e = .returned (.bool true) ∧ Below n w w' := by
  obtain ⟨r, he, hr, hb⟩ := h
  exact ⟨by rw [he, hr.2 hP], hb⟩
theorem ret_false {e : Ending} {w w' : World} {P : Prop} {n : Nat} (h : ∃ r : Bool, e = .returned (.bool r) ∧ (r = true ↔ P) ∧ Below n w w') (hP : ¬ P) : e = .returned (.bool false) ∧ Below n w w' := by
  obtain ⟨r, he, hr, hb⟩ := h
  cases r
  · exact ⟨he, hb⟩
  · exact absurd (hr.1 rfl) hP
theorem rcD_len {v : Vm} {xs : List Im} (h : cutErr (rcV v xs) (rcD v xs) = 0) : (rcD v xs).length ≤ 64 := (lerr_zero.1 (cut_ok.1 h).2.1).1
theorem cut_wf {v : Vm} {xs : List Im} (h : cutErr v xs = 0) : ∀ x ∈ xs, x.wf := fun x hx => chk_wf ((lerr_zero.1 (cut_ok.1 h).2.1).2.1 x hx)
theorem rcV_wf {v : Vm} (xs : List Im) (h : v.wf) : (rcV v xs).wf := by
  unfold rcV
  split
  · exact zV_wf
  · exact foldV_wf _ h
set_option maxRecDepth 100000 in
set_option maxHeartbeats 60000000 in
theorem cutorder_any (v u t : Vm) (A B C : Option Addr) (n m k c d f : Nat) (xs ys zs : List Im) (w : World) (hA : RdI w w.heap.size A n xs) (hB : RdI w w.heap.size B m ys) (hC : RdI w w.heap.size C k zs) (hv : v.wf) (hu : u.wf) (ht : t.wf) (hx : ∀ x ∈ xs, x.wf) (hy : ∀ x ∈ ys, x.wf) (hz : ∀ x ∈ zs, x.wf) :
    Calls Try.prog 3 #[.agg #[.int .u32 v.d0, .int .u32 v.d1, .int .u32 v.d2, .int .u32 v.d3, .int .u32 v.d4, .int .u32 v.d5, .int .u32 v.d6, .int .u32 v.d7, .slice A n c], .agg #[.int .u32 u.d0, .int .u32 u.d1, .int .u32 u.d2, .int .u32 u.d3, .int .u32 u.d4, .int .u32 u.d5, .int .u32 u.d6, .int .u32 u.d7, .slice B m d], .agg #[.int .u32 t.d0, .int .u32 t.d1, .int .u32 t.d2, .int .u32 t.d3, .int .u32 t.d4, .int .u32 t.d5, .int .u32 t.d6, .int .u32 t.d7, .slice C k f]] w fun e w' => e = .returned (.bool true) ∧ Below w.heap.size w w' := by
  have hW : Below w.heap.size w (((w.alloc (.cells #[.int .u32 v.d0, .int .u32 v.d1, .int .u32 v.d2, .int .u32 v.d3, .int .u32 v.d4, .int .u32 v.d5, .int .u32 v.d6, .int .u32 v.d7, .slice A n c] 27)).alloc (.cells #[.int .u32 u.d0, .int .u32 u.d1, .int .u32 u.d2, .int .u32 u.d3, .int .u32 u.d4, .int .u32 u.d5, .int .u32 u.d6, .int .u32 u.d7, .slice B m d] 27)).alloc (.cells #[.int .u32 t.d0, .int .u32 t.d1, .int .u32 t.d2, .int .u32 t.d3, .int .u32 t.d4, .int .u32 t.d5, .int .u32 t.d6, .int .u32 t.d7, .slice C k f] 27)) := (((Below.refl _ w).alloc (Nat.le_refl _) _).alloc (by simp) _).alloc (by simp; omega) _
  have hbA : (((w.alloc (.cells #[.int .u32 v.d0, .int .u32 v.d1, .int .u32 v.d2, .int .u32 v.d3, .int .u32 v.d4, .int .u32 v.d5, .int .u32 v.d6, .int .u32 v.d7, .slice A n c] 27)).alloc (.cells #[.int .u32 u.d0, .int .u32 u.d1, .int .u32 u.d2, .int .u32 u.d3, .int .u32 u.d4, .int .u32 u.d5, .int .u32 u.d6, .int .u32 u.d7, .slice B m d] 27)).alloc (.cells #[.int .u32 t.d0, .int .u32 t.d1, .int .u32 t.d2, .int .u32 t.d3, .int .u32 t.d4, .int .u32 t.d5, .int .u32 t.d6, .int .u32 t.d7, .slice C k f] 27)).heap[w.heap.size]? = some (.cells #[.int .u32 v.d0, .int .u32 v.d1, .int .u32 v.d2, .int .u32 v.d3, .int .u32 v.d4, .int .u32 v.d5, .int .u32 v.d6, .int .u32 v.d7, .slice A n c] 27 (0, 0)) := heap_old _ (by simp; omega) (heap_old _ (by simp) (heap_at _ _ rfl))
  have hbB : (((w.alloc (.cells #[.int .u32 v.d0, .int .u32 v.d1, .int .u32 v.d2, .int .u32 v.d3, .int .u32 v.d4, .int .u32 v.d5, .int .u32 v.d6, .int .u32 v.d7, .slice A n c] 27)).alloc (.cells #[.int .u32 u.d0, .int .u32 u.d1, .int .u32 u.d2, .int .u32 u.d3, .int .u32 u.d4, .int .u32 u.d5, .int .u32 u.d6, .int .u32 u.d7, .slice B m d] 27)).alloc (.cells #[.int .u32 t.d0, .int .u32 t.d1, .int .u32 t.d2, .int .u32 t.d3, .int .u32 t.d4, .int .u32 t.d5, .int .u32 t.d6, .int .u32 t.d7, .slice C k f] 27)).heap[w.heap.size + 1]? = some (.cells #[.int .u32 u.d0, .int .u32 u.d1, .int .u32 u.d2, .int .u32 u.d3, .int .u32 u.d4, .int .u32 u.d5, .int .u32 u.d6, .int .u32 u.d7, .slice B m d] 27 (0, 0)) := heap_old _ (by simp) (heap_at _ _ (by simp))
  have hbC : (((w.alloc (.cells #[.int .u32 v.d0, .int .u32 v.d1, .int .u32 v.d2, .int .u32 v.d3, .int .u32 v.d4, .int .u32 v.d5, .int .u32 v.d6, .int .u32 v.d7, .slice A n c] 27)).alloc (.cells #[.int .u32 u.d0, .int .u32 u.d1, .int .u32 u.d2, .int .u32 u.d3, .int .u32 u.d4, .int .u32 u.d5, .int .u32 u.d6, .int .u32 u.d7, .slice B m d] 27)).alloc (.cells #[.int .u32 t.d0, .int .u32 t.d1, .int .u32 t.d2, .int .u32 t.d3, .int .u32 t.d4, .int .u32 t.d5, .int .u32 t.d6, .int .u32 t.d7, .slice C k f] 27)).heap[w.heap.size + 1 + 1]? = some (.cells #[.int .u32 t.d0, .int .u32 t.d1, .int .u32 t.d2, .int .u32 t.d3, .int .u32 t.d4, .int .u32 t.d5, .int .u32 t.d6, .int .u32 t.d7, .slice C k f] 27 (0, 0)) := heap_at _ _ (by simp)
  generalize hWe : (((w.alloc (.cells #[.int .u32 v.d0, .int .u32 v.d1, .int .u32 v.d2, .int .u32 v.d3, .int .u32 v.d4, .int .u32 v.d5, .int .u32 v.d6, .int .u32 v.d7, .slice A n c] 27)).alloc (.cells #[.int .u32 u.d0, .int .u32 u.d1, .int .u32 u.d2, .int .u32 u.d3, .int .u32 u.d4, .int .u32 u.d5, .int .u32 u.d6, .int .u32 u.d7, .slice B m d] 27)).alloc (.cells #[.int .u32 t.d0, .int .u32 t.d1, .int .u32 t.d2, .int .u32 t.d3, .int .u32 t.d4, .int .u32 t.d5, .int .u32 t.d6, .int .u32 t.d7, .slice C k f] 27)) = W at hW hbA hbB hbC
  have hAk := Lib.hid hbA
  have hBk := Lib.hid hbB
  have hCk := Lib.hid hbC
  have hzW := hW.size
  have g1 := great_any A n c
  have g2 := great_any B m d
  have g3 := great_any C k f
  generalize hga : grI n = ga at g1
  generalize hgb : grI m = gb at g2
  generalize hgc : grI k = gc at g3
  have gaH := Lib.hid hga
  have gbH := Lib.hid hgb
  have gcH := Lib.hid hgc
  clear hbA hbB hbC hga hgb hgc
  go_enter Try.func3, Try.ntmps3
  go_wp2_with fail
  refine (works8_any _).mono ?_
  rintro e w1 ⟨rfl, hb1⟩
  have hG1 : Below w.heap.size w w1 := hW.trans (hb1.mono hzW)
  have hbA1 := blk_below hAk.out hb1
  have hbB1 := blk_below hBk.out hb1
  have hbC1 := blk_below hCk.out hb1
  have hltA1 := blk_lt hbA1
  have hltB1 := blk_lt hbB1
  have hltC1 := blk_lt hbC1
  have q0 := blk_cell hbA1 0
  have q1 := blk_cell hbA1 1
  have q2 := blk_cell hbA1 2
  have q3 := blk_cell hbA1 3
  have q4 := blk_cell hbA1 4
  have q5 := blk_cell hbA1 5
  have q6 := blk_cell hbA1 6
  have q7 := blk_cell hbA1 7
  have q8 := blk_cell hbA1 8
  simp at q0 q1 q2 q3 q4 q5 q6 q7 q8
  have s0 := blk_cell hbB1 0
  have s1 := blk_cell hbB1 1
  have s2 := blk_cell hbB1 2
  have s3 := blk_cell hbB1 3
  have s4 := blk_cell hbB1 4
  have s5 := blk_cell hbB1 5
  have s6 := blk_cell hbB1 6
  have s7 := blk_cell hbB1 7
  have s8 := blk_cell hbB1 8
  simp at s0 s1 s2 s3 s4 s5 s6 s7 s8
  have t0 := blk_cell hbC1 0
  have t1 := blk_cell hbC1 1
  have t2 := blk_cell hbC1 2
  have t3 := blk_cell hbC1 3
  have t4 := blk_cell hbC1 4
  have t5 := blk_cell hbC1 5
  have t6 := blk_cell hbC1 6
  have t7 := blk_cell hbC1 7
  have t8 := blk_cell hbC1 8
  simp at t0 t1 t2 t3 t4 t5 t6 t7 t8
  clear hbA1 hbB1 hbC1
  go_wp2_with fail
  refine (g1 _).mono ?_
  rintro e w2 ⟨rfl, hw2⟩
  obtain rfl := hw2.symm
  cases ga
  case true =>
    go_wp2
    go_ret
    exact ⟨rfl, hG1⟩
  go_wp2_with fail
  refine (g2 _).mono ?_
  rintro e w2 ⟨rfl, hw2⟩
  obtain rfl := hw2.symm
  cases gb
  case true =>
    go_wp2
    go_ret
    exact ⟨rfl, hG1⟩
  go_wp2_with fail
  refine (g3 _).mono ?_
  rintro e w2 ⟨rfl, hw2⟩
  obtain rfl := hw2.symm
  cases gc
  case true =>
    go_wp2
    go_ret
    exact ⟨rfl, hG1⟩
  have hn := grI_ord gaH.out
  have hm := grI_ord gbH.out
  have hk := grI_ord gcH.out
  clear g1 g2 g3 gaH gbH gcH
  have hA1 : RdI w1 w1.heap.size A n xs := (hA.below hG1).more hG1.size
  have cA := Lib.hid (fun A' c' w' (h1 : RdI w' w'.heap.size A' n xs) => cmake_any v A' n c' xs w' h1 hn hv hx)
  have cB := Lib.hid (fun A' c' w' (h1 : RdI w' w'.heap.size A' m ys) => cmake_any u A' m c' ys w' h1 hm hu hy)
  have cC := Lib.hid (fun A' c' w' (h1 : RdI w' w'.heap.size A' k zs) => cmake_any t A' k c' zs w' h1 hk ht hz)
  have pw := Lib.hid (rcV_wf xs hv)
  have qw := Lib.hid (rcV_wf ys hu)
  have rw' := Lib.hid (rcV_wf zs ht)
  have pk := Lib.hid (fun h : rcErr v xs = 0 => (make_law h).1)
  have qk := Lib.hid (fun h : rcErr u ys = 0 => (make_law h).1)
  have rk := Lib.hid (fun h : rcErr t zs = 0 => (make_law h).1)
  have hAH := Lib.hid hA
  have hBH := Lib.hid hB
  have hCH := Lib.hid hC
  generalize rcV v xs = pv at *
  generalize rcD v xs = pd at *
  generalize rcErr v xs = pe at *
  generalize rcV u ys = qv at *
  generalize rcD u ys = qd at *
  generalize rcErr u ys = qe at *
  generalize rcV t zs = rv at *
  generalize rcD t zs = rd at *
  generalize rcErr t zs = re at *
  have hl := hA1.len
  clear hA hB hC s0 s1 s2 s3 s4 s5 s6 s7 s8 t0 t1 t2 t3 t4 t5 t6 t7 t8 hltB1 hltC1
  go_upto_region 5 with (fail)
  skip
  go_cut [7, 8] (fun sa sb wx => ∃ g A' n' c', sa = .pointer (some ⟨g, 0, none⟩) ∧ w1.heap.size ≤ g ∧ sb = .int .i64 pe ∧ wx.heap[g]? = some (.cells #[.int .u32 pv.d0, .int .u32 pv.d1, .int .u32 pv.d2, .int .u32 pv.d3, .int .u32 pv.d4, .int .u32 pv.d5, .int .u32 pv.d6, .int .u32 pv.d7, .slice A' n' c'] 30 (0, 0)) ∧ Ow wx w1.heap.size 37 2 (.slice A' n' c') ((pd).map Im.enc) ∧ Below w1.heap.size w1 wx)
  case first =>
        have hq0 : KQ w1.heap.size w1 w1 := kq (Below.refl _ _)
        go_region_held3 (fun w' => KQ w1.heap.size w1 w') (first
      | with_reducible exact kq_call (by assumption) (by simp) (by assumption)
      | with_reducible exact kq_grown (by assumption) (by simp) (by assumption) (by simp [Value.ownBlock])
      | ((repeat (first | (with_reducible refine kq_set ?_ (by first | (simp; done) | (simp; omega) | omega) _) | (with_reducible refine kq_alloc ?_ (by first | exact Nat.le_refl _ | (simp; done) | (simp; omega)) _))); (with_reducible assumption))
      | ((with_reducible refine kq ?_); (repeat (first | (with_reducible exact Below.refl _ _) | (with_reducible refine Below.drew ?_) | (with_reducible refine Below.alloc ?_ (by simp) _) | (with_reducible refine Below.setCell ?_ (by simp) _) | (with_reducible exact (by assumption : KQ _ _ _).1))); done))
          (first
            | (go_at_call 6; refine (cA.out A4 c4' _ (by first | exact hown4'.rd.1 | exact (hown4'.below ((Below.refl _ _).alloc (Nat.le_refl _) _)).rd.1)).mono ?_
               rintro e v5 ⟨A5, n5, c5, rfl, o5, hb5⟩
               have hz5 := hb5.size
               (try simp at hz5)
               have hq5 : KQ w1.heap.size w1 v5 := kq_call (by assumption) (Nat.le_refl _) hb5
               (first
                 | (have hx5 := (hb5.block _ (blk_lt hx4)).trans hx4
                    have hfx := blk_frozen hx5
                    have x0 := blk_cell hx5 0
                    have x1 := blk_cell hx5 1
                    have x2 := blk_cell hx5 2
                    have x3 := blk_cell hx5 3
                    have x4 := blk_cell hx5 4
                    have x5 := blk_cell hx5 5
                    have x6 := blk_cell hx5 6
                    have x7 := blk_cell hx5 7
                    have x8 := blk_cell hx5 8
                    simp at x0 x1 x2 x3 x4 x5 x6 x7 x8)
                 | (have hx5 : v5.heap[v4.heap.size]? = some (.cells #[.int .u32 0, .int .u32 0, .int .u32 0, .int .u32 0, .int .u32 0, .int .u32 0, .int .u32 0, .int .u32 0, .slice none 0 0] 30 (0, 0)) := (hb5.block _ (by simp; done)).trans (heap_at _ _ rfl)
                    have hfx := blk_frozen hx5
                    have x0 := blk_cell hx5 0
                    have x1 := blk_cell hx5 1
                    have x2 := blk_cell hx5 2
                    have x3 := blk_cell hx5 3
                    have x4 := blk_cell hx5 4
                    have x5 := blk_cell hx5 5
                    have x6 := blk_cell hx5 6
                    have x7 := blk_cell hx5 7
                    have x8 := blk_cell hx5 8
                    simp at x0 x1 x2 x3 x4 x5 x6 x7 x8)
                 | skip))
            | (refine step_append_rd _ rfl _ _ _ rfl eId (base := w1.heap.size) (v := .slice (some ⟨w1.heap.size, 0, none⟩) 0 0) (xs := []) rfl (Ow.made_at (by first | exact heap_drew (heap_at _ _ (by first | rfl | (simp; done))) | exact heap_drew (heap_old _ (by simp) (heap_drew (heap_at _ _ rfl)))) (by omega)) rfl (kq_rd (n := w1.heap.size) hA1 (Nat.le_refl _) (by assumption)) Im.len Im.one (by simp [maxLen]; omega) (by simp; omega) (by first | (simp; done) | (simp; omega)) ?_
               intro A4 n4 c4' v4 hn4 hown4 hg4 hat4
               obtain rfl : n = n4 := by simpa using hn4.symm
               clear hn4 hat4
               have hz4 := hg4.size
               simp at hz4
               have hown4' : Ow v4 w1.heap.size 37 2 (.slice A4 n c4') ((xs).map Im.enc) := by simpa using hown4
               clear hown4
               (try (have hx4 : v4.heap[w1.heap.size + 1]? = some (.cells #[.int .u32 0, .int .u32 0, .int .u32 0, .int .u32 0, .int .u32 0, .int .u32 0, .int .u32 0, .int .u32 0, .slice none 0 0] 30 (0, 0)) := (hg4.block _ (by simp; done) (by simp [Value.ownBlock]; done)).trans (heap_drew (heap_at _ _ (by simp; done)))))
               (try (have hx4 : v4.heap[w1.heap.size]? = some (.cells #[.int .u32 0, .int .u32 0, .int .u32 0, .int .u32 0, .int .u32 0, .int .u32 0, .int .u32 0, .int .u32 0, .slice none 0 0] 30 (0, 0)) := (hg4.block _ (by simp; omega) (by simp [Value.ownBlock]; done)).trans (heap_drew (heap_old _ (by simp; done) (heap_drew (heap_at _ _ rfl))))))
               have hq4 : KQ w1.heap.size w1 v4 := by
                 refine kq_grown ?_ (Nat.le_refl _) hg4 ?_
                 · assumption
                 · intro k hk; simp [Value.ownBlock] at hk; omega
               clear hg4)
            | (refine step_append_rd _ rfl _ _ _ rfl eId (base := w1.heap.size) (v := .slice (some ⟨w1.heap.size + 1, 0, none⟩) 0 0) (xs := []) rfl (Ow.made_at (by first | exact heap_drew (heap_at _ _ (by first | rfl | (simp; done))) | exact heap_drew (heap_old _ (by simp) (heap_drew (heap_at _ _ rfl)))) (by omega)) rfl (kq_rd (n := w1.heap.size) hA1 (Nat.le_refl _) (by assumption)) Im.len Im.one (by simp [maxLen]; omega) (by simp; omega) (by first | (simp; done) | (simp; omega)) ?_
               intro A4 n4 c4' v4 hn4 hown4 hg4 hat4
               obtain rfl : n = n4 := by simpa using hn4.symm
               clear hn4 hat4
               have hz4 := hg4.size
               simp at hz4
               have hown4' : Ow v4 w1.heap.size 37 2 (.slice A4 n c4') ((xs).map Im.enc) := by simpa using hown4
               clear hown4
               (try (have hx4 : v4.heap[w1.heap.size + 1]? = some (.cells #[.int .u32 0, .int .u32 0, .int .u32 0, .int .u32 0, .int .u32 0, .int .u32 0, .int .u32 0, .int .u32 0, .slice none 0 0] 30 (0, 0)) := (hg4.block _ (by simp; done) (by simp [Value.ownBlock]; done)).trans (heap_drew (heap_at _ _ (by simp; done)))))
               (try (have hx4 : v4.heap[w1.heap.size]? = some (.cells #[.int .u32 0, .int .u32 0, .int .u32 0, .int .u32 0, .int .u32 0, .int .u32 0, .int .u32 0, .int .u32 0, .slice none 0 0] 30 (0, 0)) := (hg4.block _ (by simp; omega) (by simp [Value.ownBlock]; done)).trans (heap_drew (heap_old _ (by simp; done) (heap_drew (heap_at _ _ rfl))))))
               have hq4 : KQ w1.heap.size w1 v4 := by
                 refine kq_grown ?_ (Nat.le_refl _) hg4 ?_
                 · assumption
                 · intro k hk; simp [Value.ownBlock] at hk; omega
               clear hg4))
        all_goals
          (go_wp2_with fail
           go_meet
           refine ⟨_, A5, n5, c5, rfl, by omega, rfl, ?_, ?_, ?_⟩
           · first
               | (with_reducible exact heap9 hx5 _ _ _ _ _ _ _ _ _)
               | (with_reducible exact heap_at _ _ rfl)
           · first
               | (with_reducible refine Ow.base (base := v4.heap.size) ?_ (by omega)
                  repeat (with_reducible refine Ow.setCell ?_ (by first | (simp; done) | (simp; omega) | omega) _)
                  with_reducible exact o5)
               | (with_reducible refine Ow.base (base := v4.heap.size + 1) ?_ (by omega)
                  repeat (with_reducible refine Ow.setCell ?_ (by first | (simp; done) | (simp; omega) | omega) _)
                  with_reducible exact o5.base (by simp))
               | exact (o5.below ((Below.refl _ _).alloc (Nat.le_refl _) _)).base (by omega)
           · first
               | (with_reducible exact (kq_alloc hq5 (Nat.le_refl _) _).1)
               | (have hq5B := hq5.1
                  repeat (first | (with_reducible exact hq5B) | (with_reducible refine Below.drew ?_) | (with_reducible refine Below.alloc ?_ (by first | (simp; done) | (simp; omega) | omega) _) | (with_reducible refine Below.setCell ?_ (by first | (simp; done) | (simp; omega) | omega) _))))
  case rest =>
    obtain ⟨gp, Ap, np, kp, rfl, hgp, rfl, hbP, op, hB2⟩ := hcut
    obtain ⟨w2, hw2⟩ : ∃ w2, w2 = wc := ⟨_, rfl⟩
    obtain rfl := hw2
    clear q0 q1 q2 q3 q4 q5 q6 q7 q8 cA hltA1 hl hA1
    have hG2 : Below w.heap.size w w2 := hG1.trans (hB2.mono hG1.size)
    have hBW2 : Below W.heap.size W w2 := hb1.trans (hB2.mono hb1.size)
    have hbB2 := blk_below hBk.out hBW2
    have hltB2 := blk_lt hbB2
    have s0 := blk_cell hbB2 0
    have s1 := blk_cell hbB2 1
    have s2 := blk_cell hbB2 2
    have s3 := blk_cell hbB2 3
    have s4 := blk_cell hbB2 4
    have s5 := blk_cell hbB2 5
    have s6 := blk_cell hbB2 6
    have s7 := blk_cell hbB2 7
    have s8 := blk_cell hbB2 8
    simp at s0 s1 s2 s3 s4 s5 s6 s7 s8
    have hB2R : RdI w2 w2.heap.size B m ys := (hBH.out.below hG2).more hG2.size
    have hl := hB2R.len
    clear hbB2
    go_upto_region 6 with (fail)
    skip
    go_cut [9, 10] (fun sa sb wx => ∃ g A' n' c', sa = .pointer (some ⟨g, 0, none⟩) ∧ w2.heap.size ≤ g ∧ sb = .int .i64 qe ∧ wx.heap[g]? = some (.cells #[.int .u32 qv.d0, .int .u32 qv.d1, .int .u32 qv.d2, .int .u32 qv.d3, .int .u32 qv.d4, .int .u32 qv.d5, .int .u32 qv.d6, .int .u32 qv.d7, .slice A' n' c'] 30 (0, 0)) ∧ Ow wx w2.heap.size 37 2 (.slice A' n' c') ((qd).map Im.enc) ∧ Below w2.heap.size w2 wx)
    case first =>
        have hq0 : KQ w2.heap.size w2 w2 := kq (Below.refl _ _)
        go_region_held3 (fun w' => KQ w2.heap.size w2 w') (first
      | with_reducible exact kq_call (by assumption) (by simp) (by assumption)
      | with_reducible exact kq_grown (by assumption) (by simp) (by assumption) (by simp [Value.ownBlock])
      | ((repeat (first | (with_reducible refine kq_set ?_ (by first | (simp; done) | (simp; omega) | omega) _) | (with_reducible refine kq_alloc ?_ (by first | exact Nat.le_refl _ | (simp; done) | (simp; omega)) _))); (with_reducible assumption))
      | ((with_reducible refine kq ?_); (repeat (first | (with_reducible exact Below.refl _ _) | (with_reducible refine Below.drew ?_) | (with_reducible refine Below.alloc ?_ (by simp) _) | (with_reducible refine Below.setCell ?_ (by simp) _) | (with_reducible exact (by assumption : KQ _ _ _).1))); done))
          (first
            | (go_at_call 6; refine (cB.out A4 c4' _ (by first | exact hown4'.rd.1 | exact (hown4'.below ((Below.refl _ _).alloc (Nat.le_refl _) _)).rd.1)).mono ?_
               rintro e v5 ⟨A5, n5, c5, rfl, o5, hb5⟩
               have hz5 := hb5.size
               (try simp at hz5)
               have hq5 : KQ w2.heap.size w2 v5 := kq_call (by assumption) (Nat.le_refl _) hb5
               (first
                 | (have hx5 := (hb5.block _ (blk_lt hx4)).trans hx4
                    have hfx := blk_frozen hx5
                    have x0 := blk_cell hx5 0
                    have x1 := blk_cell hx5 1
                    have x2 := blk_cell hx5 2
                    have x3 := blk_cell hx5 3
                    have x4 := blk_cell hx5 4
                    have x5 := blk_cell hx5 5
                    have x6 := blk_cell hx5 6
                    have x7 := blk_cell hx5 7
                    have x8 := blk_cell hx5 8
                    simp at x0 x1 x2 x3 x4 x5 x6 x7 x8)
                 | (have hx5 : v5.heap[v4.heap.size]? = some (.cells #[.int .u32 0, .int .u32 0, .int .u32 0, .int .u32 0, .int .u32 0, .int .u32 0, .int .u32 0, .int .u32 0, .slice none 0 0] 30 (0, 0)) := (hb5.block _ (by simp; done)).trans (heap_at _ _ rfl)
                    have hfx := blk_frozen hx5
                    have x0 := blk_cell hx5 0
                    have x1 := blk_cell hx5 1
                    have x2 := blk_cell hx5 2
                    have x3 := blk_cell hx5 3
                    have x4 := blk_cell hx5 4
                    have x5 := blk_cell hx5 5
                    have x6 := blk_cell hx5 6
                    have x7 := blk_cell hx5 7
                    have x8 := blk_cell hx5 8
                    simp at x0 x1 x2 x3 x4 x5 x6 x7 x8)
                 | skip))
            | (refine step_append_rd _ rfl _ _ _ rfl eId (base := w2.heap.size) (v := .slice (some ⟨w2.heap.size, 0, none⟩) 0 0) (xs := []) rfl (Ow.made_at (by first | exact heap_drew (heap_at _ _ (by first | rfl | (simp; done))) | exact heap_drew (heap_old _ (by simp) (heap_drew (heap_at _ _ rfl)))) (by omega)) rfl (kq_rd (n := w2.heap.size) hB2R (Nat.le_refl _) (by assumption)) Im.len Im.one (by simp [maxLen]; omega) (by simp; omega) (by first | (simp; done) | (simp; omega)) ?_
               intro A4 n4 c4' v4 hn4 hown4 hg4 hat4
               obtain rfl : m = n4 := by simpa using hn4.symm
               clear hn4 hat4
               have hz4 := hg4.size
               simp at hz4
               have hown4' : Ow v4 w2.heap.size 37 2 (.slice A4 m c4') ((ys).map Im.enc) := by simpa using hown4
               clear hown4
               (try (have hx4 : v4.heap[w2.heap.size + 1]? = some (.cells #[.int .u32 0, .int .u32 0, .int .u32 0, .int .u32 0, .int .u32 0, .int .u32 0, .int .u32 0, .int .u32 0, .slice none 0 0] 30 (0, 0)) := (hg4.block _ (by simp; done) (by simp [Value.ownBlock]; done)).trans (heap_drew (heap_at _ _ (by simp; done)))))
               (try (have hx4 : v4.heap[w2.heap.size]? = some (.cells #[.int .u32 0, .int .u32 0, .int .u32 0, .int .u32 0, .int .u32 0, .int .u32 0, .int .u32 0, .int .u32 0, .slice none 0 0] 30 (0, 0)) := (hg4.block _ (by simp; omega) (by simp [Value.ownBlock]; done)).trans (heap_drew (heap_old _ (by simp; done) (heap_drew (heap_at _ _ rfl))))))
               have hq4 : KQ w2.heap.size w2 v4 := by
                 refine kq_grown ?_ (Nat.le_refl _) hg4 ?_
                 · assumption
                 · intro k hk; simp [Value.ownBlock] at hk; omega
               clear hg4)
            | (refine step_append_rd _ rfl _ _ _ rfl eId (base := w2.heap.size) (v := .slice (some ⟨w2.heap.size + 1, 0, none⟩) 0 0) (xs := []) rfl (Ow.made_at (by first | exact heap_drew (heap_at _ _ (by first | rfl | (simp; done))) | exact heap_drew (heap_old _ (by simp) (heap_drew (heap_at _ _ rfl)))) (by omega)) rfl (kq_rd (n := w2.heap.size) hB2R (Nat.le_refl _) (by assumption)) Im.len Im.one (by simp [maxLen]; omega) (by simp; omega) (by first | (simp; done) | (simp; omega)) ?_
               intro A4 n4 c4' v4 hn4 hown4 hg4 hat4
               obtain rfl : m = n4 := by simpa using hn4.symm
               clear hn4 hat4
               have hz4 := hg4.size
               simp at hz4
               have hown4' : Ow v4 w2.heap.size 37 2 (.slice A4 m c4') ((ys).map Im.enc) := by simpa using hown4
               clear hown4
               (try (have hx4 : v4.heap[w2.heap.size + 1]? = some (.cells #[.int .u32 0, .int .u32 0, .int .u32 0, .int .u32 0, .int .u32 0, .int .u32 0, .int .u32 0, .int .u32 0, .slice none 0 0] 30 (0, 0)) := (hg4.block _ (by simp; done) (by simp [Value.ownBlock]; done)).trans (heap_drew (heap_at _ _ (by simp; done)))))
               (try (have hx4 : v4.heap[w2.heap.size]? = some (.cells #[.int .u32 0, .int .u32 0, .int .u32 0, .int .u32 0, .int .u32 0, .int .u32 0, .int .u32 0, .int .u32 0, .slice none 0 0] 30 (0, 0)) := (hg4.block _ (by simp; omega) (by simp [Value.ownBlock]; done)).trans (heap_drew (heap_old _ (by simp; done) (heap_drew (heap_at _ _ rfl))))))
               have hq4 : KQ w2.heap.size w2 v4 := by
                 refine kq_grown ?_ (Nat.le_refl _) hg4 ?_
                 · assumption
                 · intro k hk; simp [Value.ownBlock] at hk; omega
               clear hg4))
        all_goals
          (go_wp2_with fail
           go_meet
           refine ⟨_, A5, n5, c5, rfl, by omega, rfl, ?_, ?_, ?_⟩
           · first
               | (with_reducible exact heap9 hx5 _ _ _ _ _ _ _ _ _)
               | (with_reducible exact heap_at _ _ rfl)
           · first
               | (with_reducible refine Ow.base (base := v4.heap.size) ?_ (by omega)
                  repeat (with_reducible refine Ow.setCell ?_ (by first | (simp; done) | (simp; omega) | omega) _)
                  with_reducible exact o5)
               | (with_reducible refine Ow.base (base := v4.heap.size + 1) ?_ (by omega)
                  repeat (with_reducible refine Ow.setCell ?_ (by first | (simp; done) | (simp; omega) | omega) _)
                  with_reducible exact o5.base (by simp))
               | exact (o5.below ((Below.refl _ _).alloc (Nat.le_refl _) _)).base (by omega)
           · first
               | (with_reducible exact (kq_alloc hq5 (Nat.le_refl _) _).1)
               | (have hq5B := hq5.1
                  repeat (first | (with_reducible exact hq5B) | (with_reducible refine Below.drew ?_) | (with_reducible refine Below.alloc ?_ (by first | (simp; done) | (simp; omega) | omega) _) | (with_reducible refine Below.setCell ?_ (by first | (simp; done) | (simp; omega) | omega) _))))
    case rest =>
      obtain ⟨gq, Aq, nq, kq', rfl, hgq, rfl, hbQ, oq, hB3⟩ := hcut
      obtain ⟨w3, hw3⟩ : ∃ w3, w3 = wc := ⟨_, rfl⟩
      obtain rfl := hw3
      clear s0 s1 s2 s3 s4 s5 s6 s7 s8 cB hltB2 hl hB2R
      have hG3 : Below w.heap.size w w3 := hG2.trans (hB3.mono hG2.size)
      have hBW3 : Below W.heap.size W w3 := hBW2.trans (hB3.mono hBW2.size)
      have hbC3 := blk_below hCk.out hBW3
      have hltC3 := blk_lt hbC3
      have s0 := blk_cell hbC3 0
      have s1 := blk_cell hbC3 1
      have s2 := blk_cell hbC3 2
      have s3 := blk_cell hbC3 3
      have s4 := blk_cell hbC3 4
      have s5 := blk_cell hbC3 5
      have s6 := blk_cell hbC3 6
      have s7 := blk_cell hbC3 7
      have s8 := blk_cell hbC3 8
      simp at s0 s1 s2 s3 s4 s5 s6 s7 s8
      have hC3R : RdI w3 w3.heap.size C k zs := (hCH.out.below hG3).more hG3.size
      have hl := hC3R.len
      have hbP3 := blk_below hbP hB3
      have op3 := op.below hB3
      clear hbC3 hbP op
      go_upto_region 7 with (fail)
      skip
      go_cut [11, 12] (fun sa sb wx => ∃ g A' n' c', sa = .pointer (some ⟨g, 0, none⟩) ∧ w3.heap.size ≤ g ∧ sb = .int .i64 re ∧ wx.heap[g]? = some (.cells #[.int .u32 rv.d0, .int .u32 rv.d1, .int .u32 rv.d2, .int .u32 rv.d3, .int .u32 rv.d4, .int .u32 rv.d5, .int .u32 rv.d6, .int .u32 rv.d7, .slice A' n' c'] 30 (0, 0)) ∧ Ow wx w3.heap.size 37 2 (.slice A' n' c') ((rd).map Im.enc) ∧ Below w3.heap.size w3 wx)
      case first =>
        have hq0 : KQ w3.heap.size w3 w3 := kq (Below.refl _ _)
        go_region_held3 (fun w' => KQ w3.heap.size w3 w') (first
      | with_reducible exact kq_call (by assumption) (by simp) (by assumption)
      | with_reducible exact kq_grown (by assumption) (by simp) (by assumption) (by simp [Value.ownBlock])
      | ((repeat (first | (with_reducible refine kq_set ?_ (by first | (simp; done) | (simp; omega) | omega) _) | (with_reducible refine kq_alloc ?_ (by first | exact Nat.le_refl _ | (simp; done) | (simp; omega)) _))); (with_reducible assumption))
      | ((with_reducible refine kq ?_); (repeat (first | (with_reducible exact Below.refl _ _) | (with_reducible refine Below.drew ?_) | (with_reducible refine Below.alloc ?_ (by simp) _) | (with_reducible refine Below.setCell ?_ (by simp) _) | (with_reducible exact (by assumption : KQ _ _ _).1))); done))
          (first
            | (go_at_call 6; refine (cC.out A4 c4' _ (by first | exact hown4'.rd.1 | exact (hown4'.below ((Below.refl _ _).alloc (Nat.le_refl _) _)).rd.1)).mono ?_
               rintro e v5 ⟨A5, n5, c5, rfl, o5, hb5⟩
               have hz5 := hb5.size
               (try simp at hz5)
               have hq5 : KQ w3.heap.size w3 v5 := kq_call (by assumption) (Nat.le_refl _) hb5
               (first
                 | (have hx5 := (hb5.block _ (blk_lt hx4)).trans hx4
                    have hfx := blk_frozen hx5
                    have x0 := blk_cell hx5 0
                    have x1 := blk_cell hx5 1
                    have x2 := blk_cell hx5 2
                    have x3 := blk_cell hx5 3
                    have x4 := blk_cell hx5 4
                    have x5 := blk_cell hx5 5
                    have x6 := blk_cell hx5 6
                    have x7 := blk_cell hx5 7
                    have x8 := blk_cell hx5 8
                    simp at x0 x1 x2 x3 x4 x5 x6 x7 x8)
                 | (have hx5 : v5.heap[v4.heap.size]? = some (.cells #[.int .u32 0, .int .u32 0, .int .u32 0, .int .u32 0, .int .u32 0, .int .u32 0, .int .u32 0, .int .u32 0, .slice none 0 0] 30 (0, 0)) := (hb5.block _ (by simp; done)).trans (heap_at _ _ rfl)
                    have hfx := blk_frozen hx5
                    have x0 := blk_cell hx5 0
                    have x1 := blk_cell hx5 1
                    have x2 := blk_cell hx5 2
                    have x3 := blk_cell hx5 3
                    have x4 := blk_cell hx5 4
                    have x5 := blk_cell hx5 5
                    have x6 := blk_cell hx5 6
                    have x7 := blk_cell hx5 7
                    have x8 := blk_cell hx5 8
                    simp at x0 x1 x2 x3 x4 x5 x6 x7 x8)
                 | skip))
            | (refine step_append_rd _ rfl _ _ _ rfl eId (base := w3.heap.size) (v := .slice (some ⟨w3.heap.size, 0, none⟩) 0 0) (xs := []) rfl (Ow.made_at (by first | exact heap_drew (heap_at _ _ (by first | rfl | (simp; done))) | exact heap_drew (heap_old _ (by simp) (heap_drew (heap_at _ _ rfl)))) (by omega)) rfl (kq_rd (n := w3.heap.size) hC3R (Nat.le_refl _) (by assumption)) Im.len Im.one (by simp [maxLen]; omega) (by simp; omega) (by first | (simp; done) | (simp; omega)) ?_
               intro A4 n4 c4' v4 hn4 hown4 hg4 hat4
               obtain rfl : k = n4 := by simpa using hn4.symm
               clear hn4 hat4
               have hz4 := hg4.size
               simp at hz4
               have hown4' : Ow v4 w3.heap.size 37 2 (.slice A4 k c4') ((zs).map Im.enc) := by simpa using hown4
               clear hown4
               (try (have hx4 : v4.heap[w3.heap.size + 1]? = some (.cells #[.int .u32 0, .int .u32 0, .int .u32 0, .int .u32 0, .int .u32 0, .int .u32 0, .int .u32 0, .int .u32 0, .slice none 0 0] 30 (0, 0)) := (hg4.block _ (by simp; done) (by simp [Value.ownBlock]; done)).trans (heap_drew (heap_at _ _ (by simp; done)))))
               (try (have hx4 : v4.heap[w3.heap.size]? = some (.cells #[.int .u32 0, .int .u32 0, .int .u32 0, .int .u32 0, .int .u32 0, .int .u32 0, .int .u32 0, .int .u32 0, .slice none 0 0] 30 (0, 0)) := (hg4.block _ (by simp; omega) (by simp [Value.ownBlock]; done)).trans (heap_drew (heap_old _ (by simp; done) (heap_drew (heap_at _ _ rfl))))))
               have hq4 : KQ w3.heap.size w3 v4 := by
                 refine kq_grown ?_ (Nat.le_refl _) hg4 ?_
                 · assumption
                 · intro k hk; simp [Value.ownBlock] at hk; omega
               clear hg4)
            | (refine step_append_rd _ rfl _ _ _ rfl eId (base := w3.heap.size) (v := .slice (some ⟨w3.heap.size + 1, 0, none⟩) 0 0) (xs := []) rfl (Ow.made_at (by first | exact heap_drew (heap_at _ _ (by first | rfl | (simp; done))) | exact heap_drew (heap_old _ (by simp) (heap_drew (heap_at _ _ rfl)))) (by omega)) rfl (kq_rd (n := w3.heap.size) hC3R (Nat.le_refl _) (by assumption)) Im.len Im.one (by simp [maxLen]; omega) (by simp; omega) (by first | (simp; done) | (simp; omega)) ?_
               intro A4 n4 c4' v4 hn4 hown4 hg4 hat4
               obtain rfl : k = n4 := by simpa using hn4.symm
               clear hn4 hat4
               have hz4 := hg4.size
               simp at hz4
               have hown4' : Ow v4 w3.heap.size 37 2 (.slice A4 k c4') ((zs).map Im.enc) := by simpa using hown4
               clear hown4
               (try (have hx4 : v4.heap[w3.heap.size + 1]? = some (.cells #[.int .u32 0, .int .u32 0, .int .u32 0, .int .u32 0, .int .u32 0, .int .u32 0, .int .u32 0, .int .u32 0, .slice none 0 0] 30 (0, 0)) := (hg4.block _ (by simp; done) (by simp [Value.ownBlock]; done)).trans (heap_drew (heap_at _ _ (by simp; done)))))
               (try (have hx4 : v4.heap[w3.heap.size]? = some (.cells #[.int .u32 0, .int .u32 0, .int .u32 0, .int .u32 0, .int .u32 0, .int .u32 0, .int .u32 0, .int .u32 0, .slice none 0 0] 30 (0, 0)) := (hg4.block _ (by simp; omega) (by simp [Value.ownBlock]; done)).trans (heap_drew (heap_old _ (by simp; done) (heap_drew (heap_at _ _ rfl))))))
               have hq4 : KQ w3.heap.size w3 v4 := by
                 refine kq_grown ?_ (Nat.le_refl _) hg4 ?_
                 · assumption
                 · intro k hk; simp [Value.ownBlock] at hk; omega
               clear hg4))
        all_goals
          (go_wp2_with fail
           go_meet
           refine ⟨_, A5, n5, c5, rfl, by omega, rfl, ?_, ?_, ?_⟩
           · first
               | (with_reducible exact heap9 hx5 _ _ _ _ _ _ _ _ _)
               | (with_reducible exact heap_at _ _ rfl)
           · first
               | (with_reducible refine Ow.base (base := v4.heap.size) ?_ (by omega)
                  repeat (with_reducible refine Ow.setCell ?_ (by first | (simp; done) | (simp; omega) | omega) _)
                  with_reducible exact o5)
               | (with_reducible refine Ow.base (base := v4.heap.size + 1) ?_ (by omega)
                  repeat (with_reducible refine Ow.setCell ?_ (by first | (simp; done) | (simp; omega) | omega) _)
                  with_reducible exact o5.base (by simp))
               | exact (o5.below ((Below.refl _ _).alloc (Nat.le_refl _) _)).base (by omega)
           · first
               | (with_reducible exact (kq_alloc hq5 (Nat.le_refl _) _).1)
               | (have hq5B := hq5.1
                  repeat (first | (with_reducible exact hq5B) | (with_reducible refine Below.drew ?_) | (with_reducible refine Below.alloc ?_ (by first | (simp; done) | (simp; omega) | omega) _) | (with_reducible refine Below.setCell ?_ (by first | (simp; done) | (simp; omega) | omega) _))))
      case rest =>
        obtain ⟨gr, Ar, nr, kr, rfl, hgr, rfl, hbR, or', hB4⟩ := hcut
        obtain ⟨w4, hw4⟩ : ∃ w4, w4 = wc := ⟨_, rfl⟩
        obtain rfl := hw4
        clear s0 s1 s2 s3 s4 s5 s6 s7 s8 cC hltC3 hl hC3R
        have hG4 : Below w.heap.size w w4 := hG3.trans (hB4.mono hG3.size)
        have hbP4 := blk_below hbP3 hB4
        have op4 := op3.below hB4
        have hbQ4 := blk_below hbQ hB4
        have oq4 := oq.below hB4
        clear hbP3 op3 hbQ oq hB4 hB3 hB2 hBW2 hBW3 hb1
        by_cases hpe : pe = 0
        case neg =>
          have hne : (pe != 0) = true := by simpa using hpe
          go_wp2
          go_ret
          exact ⟨rfl, hG4⟩
        subst hpe
        by_cases hqe : qe = 0
        case neg =>
          have hne : (qe != 0) = true := by simpa using hqe
          go_wp2
          go_ret
          exact ⟨rfl, hG4⟩
        subst hqe
        by_cases hre : re = 0
        case neg =>
          have hne : (re != 0) = true := by simpa using hre
          go_wp2
          go_ret
          exact ⟨rfl, hG4⟩
        subst hre
        have pk0 := pk.out rfl
        have qk0 := qk.out rfl
        have rk0 := rk.out rfl
        have hpd := (lerr_zero.1 (cut_ok.1 pk0).2.1).1
        have hqd := (lerr_zero.1 (cut_ok.1 qk0).2.1).1
        have hrd := (lerr_zero.1 (cut_ok.1 rk0).2.1).1
        have hpn : pd.length = np := by simpa using op4.rd.2.1
        have hqn : qd.length = nq := by simpa using oq4.rd.2.1
        have hrn : rd.length = nr := by simpa using or'.rd.2.1
        have LPP := Lib.hid (fun w' (h : KQ w4.heap.size w4 w') => (cle_any pv pv Ap Ap np np kp kp pd pd w' (op4.below h.1).rd.1 (op4.below h.1).rd.1 (by omega) (by omega) pw.out pw.out (cut_wf pk0) (cut_wf pk0)).mono (fun e w'' h => ret_true h (leC_refl pk0)))
        have LPQ := Lib.hid (fun w' (h : KQ w4.heap.size w4 w') => cle_any pv qv Ap Aq np nq kp kq' pd qd w' (op4.below h.1).rd.1 (oq4.below h.1).rd.1 (by omega) (by omega) pw.out qw.out (cut_wf pk0) (cut_wf qk0))
        have LQR := Lib.hid (fun w' (h : KQ w4.heap.size w4 w') => cle_any qv rv Aq Ar nq nr kq' kr qd rd w' (oq4.below h.1).rd.1 (or'.below h.1).rd.1 (by omega) (by omega) qw.out rw'.out (cut_wf qk0) (cut_wf rk0))
        have LPR := Lib.hid (fun w' (h : KQ w4.heap.size w4 w') => cle_any pv rv Ap Ar np nr kp kr pd rd w' (op4.below h.1).rd.1 (or'.below h.1).rd.1 (by omega) (by omega) pw.out rw'.out (cut_wf pk0) (cut_wf rk0))
        have LQP := Lib.hid (fun w' (h : KQ w4.heap.size w4 w') => cle_any qv pv Aq Ap nq np kq' kp qd pd w' (oq4.below h.1).rd.1 (op4.below h.1).rd.1 (by omega) (by omega) qw.out pw.out (cut_wf qk0) (cut_wf pk0))
        have SPQ := Lib.hid (fun w' (h : KQ w4.heap.size w4 w') => csame_any pv qv Ap Aq np nq kp kq' pd qd w' (op4.below h.1).rd.1 (oq4.below h.1).rd.1 (by simp [maxLen]; omega) (by simp [maxLen]; omega))
        have hsame := Lib.hid (fun (h1 : leC pv pd qv qd) (h2 : leC qv qd pv pd) => same_law pw.out qw.out h1 h2)
        have hrefl := Lib.hid (leC_refl pk0)
        have htr := Lib.hid (fun (h1 : leC pv pd qv qd) (h2 : leC qv qd rv rd) => leC_trans h1 h2)
        clear pk0 qk0 rk0 hpd hqd hrd hpn hqn hrn pk qk rk pw qw rw' op4 oq4 or'
        have hP4 := Lib.hid hbP4
        have hQ4 := Lib.hid hbQ4
        have hR4 := Lib.hid hbR
        have hltP4 := blk_lt hbP4
        have hltQ4 := blk_lt hbQ4
        have hltR4 := blk_lt hbR
        have q0 := blk_cell hbP4 0
        have q1 := blk_cell hbP4 1
        have q2 := blk_cell hbP4 2
        have q3 := blk_cell hbP4 3
        have q4 := blk_cell hbP4 4
        have q5 := blk_cell hbP4 5
        have q6 := blk_cell hbP4 6
        have q7 := blk_cell hbP4 7
        have q8 := blk_cell hbP4 8
        simp at q0 q1 q2 q3 q4 q5 q6 q7 q8
        have s0 := blk_cell hbQ4 0
        have s1 := blk_cell hbQ4 1
        have s2 := blk_cell hbQ4 2
        have s3 := blk_cell hbQ4 3
        have s4 := blk_cell hbQ4 4
        have s5 := blk_cell hbQ4 5
        have s6 := blk_cell hbQ4 6
        have s7 := blk_cell hbQ4 7
        have s8 := blk_cell hbQ4 8
        simp at s0 s1 s2 s3 s4 s5 s6 s7 s8
        have t0 := blk_cell hbR 0
        have t1 := blk_cell hbR 1
        have t2 := blk_cell hbR 2
        have t3 := blk_cell hbR 3
        have t4 := blk_cell hbR 4
        have t5 := blk_cell hbR 5
        have t6 := blk_cell hbR 6
        have t7 := blk_cell hbR 7
        have t8 := blk_cell hbR 8
        simp at t0 t1 t2 t3 t4 t5 t6 t7 t8
        clear hbP4 hbQ4 hbR
        go_upto_region 10 with (fail)
        go_cut [87] (fun sa wx => sa = .bool false ∧ Below w4.heap.size w4 wx)
        case first =>
          go_wp2_with fail
          refine (LPP.out _ (kq (Below.refl _ _))).mono ?_
          rintro e w5 ⟨rfl, hb5⟩
          skip
          clear q0 q1 q2 q3 q4 q5 q6 q7 q8 s0 s1 s2 s3 s4 s5 s6 s7 s8 t0 t1 t2 t3 t4 t5 t6 t7 t8
          have hP5 := blk_below hP4.out hb5
          have hQ5 := blk_below hQ4.out hb5
          have hR5 := blk_below hR4.out hb5
          have hltP5 := blk_lt hP5
          have hltQ5 := blk_lt hQ5
          have hltR5 := blk_lt hR5
          have q0 := blk_cell hP5 0
          have q1 := blk_cell hP5 1
          have q2 := blk_cell hP5 2
          have q3 := blk_cell hP5 3
          have q4 := blk_cell hP5 4
          have q5 := blk_cell hP5 5
          have q6 := blk_cell hP5 6
          have q7 := blk_cell hP5 7
          have q8 := blk_cell hP5 8
          simp at q0 q1 q2 q3 q4 q5 q6 q7 q8
          have s0 := blk_cell hQ5 0
          have s1 := blk_cell hQ5 1
          have s2 := blk_cell hQ5 2
          have s3 := blk_cell hQ5 3
          have s4 := blk_cell hQ5 4
          have s5 := blk_cell hQ5 5
          have s6 := blk_cell hQ5 6
          have s7 := blk_cell hQ5 7
          have s8 := blk_cell hQ5 8
          simp at s0 s1 s2 s3 s4 s5 s6 s7 s8
          have t0 := blk_cell hR5 0
          have t1 := blk_cell hR5 1
          have t2 := blk_cell hR5 2
          have t3 := blk_cell hR5 3
          have t4 := blk_cell hR5 4
          have t5 := blk_cell hR5 5
          have t6 := blk_cell hR5 6
          have t7 := blk_cell hR5 7
          have t8 := blk_cell hR5 8
          simp at t0 t1 t2 t3 t4 t5 t6 t7 t8
          clear hP5 hQ5 hR5
          go_wp2_with fail
          refine (LPQ.out w5 (kq hb5)).mono ?_
          rintro e w6 ⟨r1, rfl, hr1, hb6⟩
          replace hb6 := hb5.trans (hb6.mono hb5.size)
          replace hr1 := Lib.hid hr1
          cases r1
          case false =>
            go_wp2_with fail
            go_meet
            exact ⟨rfl, hb6⟩
          skip
          clear q0 q1 q2 q3 q4 q5 q6 q7 q8 s0 s1 s2 s3 s4 s5 s6 s7 s8 t0 t1 t2 t3 t4 t5 t6 t7 t8
          have hP6 := blk_below hP4.out hb6
          have hQ6 := blk_below hQ4.out hb6
          have hR6 := blk_below hR4.out hb6
          have hltP6 := blk_lt hP6
          have hltQ6 := blk_lt hQ6
          have hltR6 := blk_lt hR6
          have q0 := blk_cell hP6 0
          have q1 := blk_cell hP6 1
          have q2 := blk_cell hP6 2
          have q3 := blk_cell hP6 3
          have q4 := blk_cell hP6 4
          have q5 := blk_cell hP6 5
          have q6 := blk_cell hP6 6
          have q7 := blk_cell hP6 7
          have q8 := blk_cell hP6 8
          simp at q0 q1 q2 q3 q4 q5 q6 q7 q8
          have s0 := blk_cell hQ6 0
          have s1 := blk_cell hQ6 1
          have s2 := blk_cell hQ6 2
          have s3 := blk_cell hQ6 3
          have s4 := blk_cell hQ6 4
          have s5 := blk_cell hQ6 5
          have s6 := blk_cell hQ6 6
          have s7 := blk_cell hQ6 7
          have s8 := blk_cell hQ6 8
          simp at s0 s1 s2 s3 s4 s5 s6 s7 s8
          have t0 := blk_cell hR6 0
          have t1 := blk_cell hR6 1
          have t2 := blk_cell hR6 2
          have t3 := blk_cell hR6 3
          have t4 := blk_cell hR6 4
          have t5 := blk_cell hR6 5
          have t6 := blk_cell hR6 6
          have t7 := blk_cell hR6 7
          have t8 := blk_cell hR6 8
          simp at t0 t1 t2 t3 t4 t5 t6 t7 t8
          clear hP6 hQ6 hR6
          go_wp2_with fail
          refine (LQR.out w6 (kq hb6)).mono ?_
          rintro e w7 ⟨r2, rfl, hr2, hb7⟩
          replace hb7 := hb6.trans (hb7.mono hb6.size)
          replace hr2 := Lib.hid hr2
          cases r2
          case false =>
            go_wp2_with fail
            go_meet
            exact ⟨rfl, hb7⟩
          skip
          clear q0 q1 q2 q3 q4 q5 q6 q7 q8 s0 s1 s2 s3 s4 s5 s6 s7 s8 t0 t1 t2 t3 t4 t5 t6 t7 t8
          have hP7 := blk_below hP4.out hb7
          have hQ7 := blk_below hQ4.out hb7
          have hR7 := blk_below hR4.out hb7
          have hltP7 := blk_lt hP7
          have hltQ7 := blk_lt hQ7
          have hltR7 := blk_lt hR7
          have q0 := blk_cell hP7 0
          have q1 := blk_cell hP7 1
          have q2 := blk_cell hP7 2
          have q3 := blk_cell hP7 3
          have q4 := blk_cell hP7 4
          have q5 := blk_cell hP7 5
          have q6 := blk_cell hP7 6
          have q7 := blk_cell hP7 7
          have q8 := blk_cell hP7 8
          simp at q0 q1 q2 q3 q4 q5 q6 q7 q8
          have s0 := blk_cell hQ7 0
          have s1 := blk_cell hQ7 1
          have s2 := blk_cell hQ7 2
          have s3 := blk_cell hQ7 3
          have s4 := blk_cell hQ7 4
          have s5 := blk_cell hQ7 5
          have s6 := blk_cell hQ7 6
          have s7 := blk_cell hQ7 7
          have s8 := blk_cell hQ7 8
          simp at s0 s1 s2 s3 s4 s5 s6 s7 s8
          have t0 := blk_cell hR7 0
          have t1 := blk_cell hR7 1
          have t2 := blk_cell hR7 2
          have t3 := blk_cell hR7 3
          have t4 := blk_cell hR7 4
          have t5 := blk_cell hR7 5
          have t6 := blk_cell hR7 6
          have t7 := blk_cell hR7 7
          have t8 := blk_cell hR7 8
          simp at t0 t1 t2 t3 t4 t5 t6 t7 t8
          clear hP7 hQ7 hR7
          have htrue := Lib.hid (htr.out (hr1.out.1 (by first | trivial | rfl | fail)) (hr2.out.1 (by first | trivial | rfl | fail)))
          go_wp2_with fail
          refine ((LPR.out w7 (kq hb7)).mono (fun e w'' h => ret_true h htrue.out)).mono ?_
          rintro e w8 ⟨rfl, hb8⟩
          replace hb8 := hb7.trans (hb8.mono hb7.size)
          go_wp2_with fail
          go_meet
          exact ⟨rfl, hb8⟩
        case rest =>
          obtain ⟨rfl, hb9⟩ := hcut
          obtain ⟨w9, hw9⟩ : ∃ w9, w9 = wc := ⟨_, rfl⟩
          obtain rfl := hw9
          clear hltP4 hltQ4 hltR4
          skip
          clear q0 q1 q2 q3 q4 q5 q6 q7 q8 s0 s1 s2 s3 s4 s5 s6 s7 s8 t0 t1 t2 t3 t4 t5 t6 t7 t8
          have hP9 := blk_below hP4.out hb9
          have hQ9 := blk_below hQ4.out hb9
          have hR9 := blk_below hR4.out hb9
          have hltP9 := blk_lt hP9
          have hltQ9 := blk_lt hQ9
          have hltR9 := blk_lt hR9
          have q0 := blk_cell hP9 0
          have q1 := blk_cell hP9 1
          have q2 := blk_cell hP9 2
          have q3 := blk_cell hP9 3
          have q4 := blk_cell hP9 4
          have q5 := blk_cell hP9 5
          have q6 := blk_cell hP9 6
          have q7 := blk_cell hP9 7
          have q8 := blk_cell hP9 8
          simp at q0 q1 q2 q3 q4 q5 q6 q7 q8
          have s0 := blk_cell hQ9 0
          have s1 := blk_cell hQ9 1
          have s2 := blk_cell hQ9 2
          have s3 := blk_cell hQ9 3
          have s4 := blk_cell hQ9 4
          have s5 := blk_cell hQ9 5
          have s6 := blk_cell hQ9 6
          have s7 := blk_cell hQ9 7
          have s8 := blk_cell hQ9 8
          simp at s0 s1 s2 s3 s4 s5 s6 s7 s8
          have t0 := blk_cell hR9 0
          have t1 := blk_cell hR9 1
          have t2 := blk_cell hR9 2
          have t3 := blk_cell hR9 3
          have t4 := blk_cell hR9 4
          have t5 := blk_cell hR9 5
          have t6 := blk_cell hR9 6
          have t7 := blk_cell hR9 7
          have t8 := blk_cell hR9 8
          simp at t0 t1 t2 t3 t4 t5 t6 t7 t8
          clear hP9 hQ9 hR9
          have hG9 : Below w.heap.size w w9 := hG4.trans (hb9.mono hG4.size)
          have hno : Hid (¬ leC pv pd qv qd ∨ ¬ leC qv qd pv pd → (eqV pv qv && decide (pd = qd)) = false) := Lib.hid (fun hor => Bool.eq_false_iff.2 (fun h => by
            rw [Bool.and_eq_true, eqV_iff, decide_eq_true_eq] at h
            obtain ⟨e1, e2⟩ := h
            subst e1
            subst e2
            rcases hor with h | h <;> exact h hrefl.out))
          have hyes : Hid (leC pv pd qv qd → leC qv qd pv pd → (eqV pv qv && decide (pd = qd)) = true) := Lib.hid (fun h1 h2 => by
            obtain ⟨e1, e2⟩ := hsame.out h1 h2
            rw [Bool.and_eq_true, eqV_iff, decide_eq_true_eq]
            exact ⟨e1, e2⟩)
          have K9 := Lib.hid (fun w' (h : KQ w9.heap.size w9 w') => (kq (hb9.trans (h.1.mono hb9.size)) : KQ w4.heap.size w4 w'))
          generalize (eqV pv qv && decide (pd = qd)) = sb at *
          go_upto_region 12 with (fail)
          by_cases h1 : leC pv pd qv qd
          · by_cases h2 : leC qv qd pv pd
            · have hsb := hyes.out h1 h2
              subst hsb
              have L1 := Lib.hid (fun w' (h : KQ w9.heap.size w9 w') => (LPQ.out w' (K9.out w' h)).mono (fun e w'' h => ret_true h h1))
              have L2 := Lib.hid (fun w' (h : KQ w9.heap.size w9 w') => (LQP.out w' (K9.out w' h)).mono (fun e w'' h => ret_true h h2))
              have S9 := Lib.hid (fun w' (h : KQ w9.heap.size w9 w') => SPQ.out w' (K9.out w' h))
              clear LPP LPQ LQR LPR LQP SPQ hsame hrefl htr hno hyes K9 h1 h2
              skip
              refine wp_region_M (fun w' => KQ w9.heap.size w9 w') (fun _ => True) 99 (by kernel_rfl) (kq (Below.refl _ _).drew) trivial ?_
              intro hcl
              have hC : KQ w9.heap.size w9 w9.drew := kq (Below.refl _ _).drew
              have hE := trivial
              (refine wpM_take (i := 0) (v := ?_) rfl (by kernel_rfl) (by kernel_rfl) (by kernel_rfl) (by decide) (fun _ _ _ h => h) hcl hC (fun _ => hE) (Or.inl ⟨by rfl, ?_⟩) ?_; rotate_left; (· (intro w hSw; (try dsimp only at hSw); go_simp; (try with_reducible rfl))); clear hcl; intro hcl; (try simp only [Act.put, List.getElem_toArray, List.getElem_cons_zero, List.setIfInBounds_toArray, List.set_cons_zero, List.set_cons_succ]))
              (refine wpM_take (i := 1) (v := ?_) rfl (by kernel_rfl) (by kernel_rfl) (by kernel_rfl) (by decide) (fun _ _ _ h => h) hcl hC (fun _ => hE) (Or.inl ⟨by rfl, ?_⟩) ?_; rotate_left; (· (intro w hSw; (try dsimp only at hSw); go_simp; (try with_reducible rfl))); clear hcl; intro hcl; (try simp only [Act.put, List.getElem_toArray, List.getElem_cons_zero, List.getElem_cons_succ, List.setIfInBounds_toArray, List.set_cons_zero, List.set_cons_succ]))
              (refine wpM_take (i := 8) (v := ?_) rfl (by kernel_rfl) (by kernel_rfl) (by kernel_rfl) (by decide) (fun _ _ _ h => h) hcl hC (fun _ => hE) (Or.inl ⟨by rfl, ?_⟩) ?_; rotate_left; (· (intro w hSw; (try dsimp only at hSw); go_simp; (try with_reducible rfl))); clear hcl; intro hcl; (try simp only [Act.put, List.getElem_toArray, List.getElem_cons_zero, List.getElem_cons_succ, List.setIfInBounds_toArray, List.set_cons_zero, List.set_cons_succ]))
              (refine wpM_take (i := 9) (v := ?_) rfl (by kernel_rfl) (by kernel_rfl) (by kernel_rfl) (by decide) (fun _ _ _ h => h) hcl hC (fun _ => hE) (Or.inl ⟨by rfl, ?_⟩) ?_; rotate_left; (· (intro w hSw; (try dsimp only at hSw); go_simp; (try with_reducible rfl))); clear hcl; intro hcl; (try simp only [Act.put, List.getElem_toArray, List.getElem_cons_zero, List.getElem_cons_succ, List.setIfInBounds_toArray, List.set_cons_zero, List.set_cons_succ]))
              refine wpM_only (i := 2) rfl (by kernel_rfl) hcl (fun K hK => ?_)
              go_simp
              refine (L1.out _ hC).mono ?_
              rintro e v1 ⟨rfl, hv1⟩
              have hC' := kq_call hC (Nat.le_refl _) hv1
              refine hK.out _ _ hC' trivial ?_
              clear hK K
              clear hcl
              intro hcl
              (try simp only [Act.put, List.getElem_toArray, List.getElem_cons_zero, List.getElem_cons_succ, List.setIfInBounds_toArray, List.set_cons_zero, List.set_cons_succ])
              clear hC
              have hC := hC'
              clear hC'
              (refine wpM_take (i := 3) (v := ?_) rfl (by kernel_rfl) (by kernel_rfl) (by kernel_rfl) (by decide) (fun _ _ _ h => h) hcl hC (fun _ => hE) (Or.inl ⟨by rfl, ?_⟩) ?_; rotate_left; (· (intro w hSw; (try dsimp only at hSw); go_simp; (try with_reducible rfl))); clear hcl; intro hcl; (try simp only [Act.put, List.getElem_toArray, List.getElem_cons_zero, List.getElem_cons_succ, List.setIfInBounds_toArray, List.set_cons_zero, List.set_cons_succ]))
              (refine wpM_take (i := 4) (v := ?_) rfl (by kernel_rfl) (by kernel_rfl) (by kernel_rfl) (by decide) (fun _ _ _ h => h) hcl hC (fun _ => hE) (Or.inl ⟨by rfl, ?_⟩) ?_; rotate_left; (· (intro w hSw; (try dsimp only at hSw); go_simp; (try with_reducible rfl))); clear hcl; intro hcl; (try simp only [Act.put, List.getElem_toArray, List.getElem_cons_zero, List.getElem_cons_succ, List.setIfInBounds_toArray, List.set_cons_zero, List.set_cons_succ]))
              (refine wpM_take (i := 5) (v := ?_) rfl (by kernel_rfl) (by kernel_rfl) (by kernel_rfl) (by decide) (fun _ _ _ h => h) hcl hC (fun _ => hE) (Or.inl ⟨by rfl, ?_⟩) ?_; rotate_left; (· (intro w hSw; (try dsimp only at hSw); go_simp; (try with_reducible rfl))); clear hcl; intro hcl; (try simp only [Act.put, List.getElem_toArray, List.getElem_cons_zero, List.getElem_cons_succ, List.setIfInBounds_toArray, List.set_cons_zero, List.set_cons_succ]))
              refine wpM_only (i := 6) rfl (by kernel_rfl) hcl (fun K hK => ?_)
              go_simp
              refine (L2.out _ hC).mono ?_
              rintro e v2 ⟨rfl, hv2⟩
              have hC' := kq_call hC (Nat.le_refl _) hv2
              refine hK.out _ _ hC' trivial ?_
              clear hK K
              clear hcl
              intro hcl
              (try simp only [Act.put, List.getElem_toArray, List.getElem_cons_zero, List.getElem_cons_succ, List.setIfInBounds_toArray, List.set_cons_zero, List.set_cons_succ])
              clear hC
              have hC := hC'
              clear hC'
              (refine wpM_take (i := 7) (v := ?_) rfl (by kernel_rfl) (by kernel_rfl) (by kernel_rfl) (by decide) (fun _ _ _ h => h) hcl hC (fun _ => hE) (Or.inl ⟨by rfl, ?_⟩) ?_; rotate_left; (· (intro w hSw; (try dsimp only at hSw); go_simp; (try with_reducible rfl))); clear hcl; intro hcl; (try simp only [Act.put, List.getElem_toArray, List.getElem_cons_zero, List.getElem_cons_succ, List.setIfInBounds_toArray, List.set_cons_zero, List.set_cons_succ]))
              refine wpM_only (i := 10) rfl (by kernel_rfl) hcl (fun K hK => ?_)
              go_simp
              refine (S9.out _ hC).mono ?_
              rintro e v3 ⟨rfl, hv3⟩
              have hC' := kq_call hC (Nat.le_refl _) hv3
              refine hK.out _ _ hC' trivial ?_
              clear hK K
              clear hcl
              intro hcl
              (try simp only [Act.put, List.getElem_toArray, List.getElem_cons_zero, List.getElem_cons_succ, List.setIfInBounds_toArray, List.set_cons_zero, List.set_cons_succ])
              clear hC
              have hC := hC'
              clear hC'
              (refine wpM_take (i := 11) (v := ?_) rfl (by kernel_rfl) (by kernel_rfl) (by kernel_rfl) (by decide) (fun _ _ _ h => h) hcl hC (fun _ => hE) (Or.inl ⟨by rfl, ?_⟩) ?_; rotate_left; (· (intro w hSw; (try dsimp only at hSw); go_simp; (try with_reducible rfl))); clear hcl; intro hcl; (try simp only [Act.put, List.getElem_toArray, List.getElem_cons_zero, List.getElem_cons_succ, List.setIfInBounds_toArray, List.set_cons_zero, List.set_cons_succ]))
              (refine wpM_take (i := 12) (v := ?_) rfl (by kernel_rfl) (by kernel_rfl) (by kernel_rfl) (by decide) (fun _ _ _ h => h) hcl hC (fun _ => hE) (Or.inl ⟨by rfl, ?_⟩) ?_; rotate_left; (· (intro w hSw; (try dsimp only at hSw); go_simp; (try with_reducible rfl))); clear hcl; intro hcl; (try simp only [Act.put, List.getElem_toArray, List.getElem_cons_zero, List.getElem_cons_succ, List.setIfInBounds_toArray, List.set_cons_zero, List.set_cons_succ]))
              refine wpM_done (by kernel_rfl) ?_
              clear hcl
              try simp only [List.getElem_toArray, List.getElem_cons_zero, List.getElem_cons_succ, List.setIfInBounds_toArray, List.set_cons_zero, List.set_cons_succ]
              have hG := hG9.trans (hC.1.mono hG9.size)
              go_wp2
              go_ret
              exact ⟨rfl, hG⟩
            · have hsb := hno.out (Or.inr h2)
              subst hsb
              have L1 := Lib.hid (fun w' (h : KQ w9.heap.size w9 w') => (LPQ.out w' (K9.out w' h)).mono (fun e w'' h => ret_true h h1))
              have L2 := Lib.hid (fun w' (h : KQ w9.heap.size w9 w') => (LQP.out w' (K9.out w' h)).mono (fun e w'' h => ret_false h h2))
              have S9 := Lib.hid (fun w' (h : KQ w9.heap.size w9 w') => SPQ.out w' (K9.out w' h))
              clear LPP LPQ LQR LPR LQP SPQ hsame hrefl htr hno hyes K9 h1 h2
              skip
              refine wp_region_M (fun w' => KQ w9.heap.size w9 w') (fun _ => True) 99 (by kernel_rfl) (kq (Below.refl _ _).drew) trivial ?_
              intro hcl
              have hC : KQ w9.heap.size w9 w9.drew := kq (Below.refl _ _).drew
              have hE := trivial
              (refine wpM_take (i := 0) (v := ?_) rfl (by kernel_rfl) (by kernel_rfl) (by kernel_rfl) (by decide) (fun _ _ _ h => h) hcl hC (fun _ => hE) (Or.inl ⟨by rfl, ?_⟩) ?_; rotate_left; (· (intro w hSw; (try dsimp only at hSw); go_simp; (try with_reducible rfl))); clear hcl; intro hcl; (try simp only [Act.put, List.getElem_toArray, List.getElem_cons_zero, List.setIfInBounds_toArray, List.set_cons_zero, List.set_cons_succ]))
              (refine wpM_take (i := 1) (v := ?_) rfl (by kernel_rfl) (by kernel_rfl) (by kernel_rfl) (by decide) (fun _ _ _ h => h) hcl hC (fun _ => hE) (Or.inl ⟨by rfl, ?_⟩) ?_; rotate_left; (· (intro w hSw; (try dsimp only at hSw); go_simp; (try with_reducible rfl))); clear hcl; intro hcl; (try simp only [Act.put, List.getElem_toArray, List.getElem_cons_zero, List.getElem_cons_succ, List.setIfInBounds_toArray, List.set_cons_zero, List.set_cons_succ]))
              (refine wpM_take (i := 8) (v := ?_) rfl (by kernel_rfl) (by kernel_rfl) (by kernel_rfl) (by decide) (fun _ _ _ h => h) hcl hC (fun _ => hE) (Or.inl ⟨by rfl, ?_⟩) ?_; rotate_left; (· (intro w hSw; (try dsimp only at hSw); go_simp; (try with_reducible rfl))); clear hcl; intro hcl; (try simp only [Act.put, List.getElem_toArray, List.getElem_cons_zero, List.getElem_cons_succ, List.setIfInBounds_toArray, List.set_cons_zero, List.set_cons_succ]))
              (refine wpM_take (i := 9) (v := ?_) rfl (by kernel_rfl) (by kernel_rfl) (by kernel_rfl) (by decide) (fun _ _ _ h => h) hcl hC (fun _ => hE) (Or.inl ⟨by rfl, ?_⟩) ?_; rotate_left; (· (intro w hSw; (try dsimp only at hSw); go_simp; (try with_reducible rfl))); clear hcl; intro hcl; (try simp only [Act.put, List.getElem_toArray, List.getElem_cons_zero, List.getElem_cons_succ, List.setIfInBounds_toArray, List.set_cons_zero, List.set_cons_succ]))
              refine wpM_only (i := 2) rfl (by kernel_rfl) hcl (fun K hK => ?_)
              go_simp
              refine (L1.out _ hC).mono ?_
              rintro e v1 ⟨rfl, hv1⟩
              have hC' := kq_call hC (Nat.le_refl _) hv1
              refine hK.out _ _ hC' trivial ?_
              clear hK K
              clear hcl
              intro hcl
              (try simp only [Act.put, List.getElem_toArray, List.getElem_cons_zero, List.getElem_cons_succ, List.setIfInBounds_toArray, List.set_cons_zero, List.set_cons_succ])
              clear hC
              have hC := hC'
              clear hC'
              (refine wpM_take (i := 3) (v := ?_) rfl (by kernel_rfl) (by kernel_rfl) (by kernel_rfl) (by decide) (fun _ _ _ h => h) hcl hC (fun _ => hE) (Or.inl ⟨by rfl, ?_⟩) ?_; rotate_left; (· (intro w hSw; (try dsimp only at hSw); go_simp; (try with_reducible rfl))); clear hcl; intro hcl; (try simp only [Act.put, List.getElem_toArray, List.getElem_cons_zero, List.getElem_cons_succ, List.setIfInBounds_toArray, List.set_cons_zero, List.set_cons_succ]))
              (refine wpM_take (i := 4) (v := ?_) rfl (by kernel_rfl) (by kernel_rfl) (by kernel_rfl) (by decide) (fun _ _ _ h => h) hcl hC (fun _ => hE) (Or.inl ⟨by rfl, ?_⟩) ?_; rotate_left; (· (intro w hSw; (try dsimp only at hSw); go_simp; (try with_reducible rfl))); clear hcl; intro hcl; (try simp only [Act.put, List.getElem_toArray, List.getElem_cons_zero, List.getElem_cons_succ, List.setIfInBounds_toArray, List.set_cons_zero, List.set_cons_succ]))
              (refine wpM_take (i := 5) (v := ?_) rfl (by kernel_rfl) (by kernel_rfl) (by kernel_rfl) (by decide) (fun _ _ _ h => h) hcl hC (fun _ => hE) (Or.inl ⟨by rfl, ?_⟩) ?_; rotate_left; (· (intro w hSw; (try dsimp only at hSw); go_simp; (try with_reducible rfl))); clear hcl; intro hcl; (try simp only [Act.put, List.getElem_toArray, List.getElem_cons_zero, List.getElem_cons_succ, List.setIfInBounds_toArray, List.set_cons_zero, List.set_cons_succ]))
              refine wpM_only (i := 6) rfl (by kernel_rfl) hcl (fun K hK => ?_)
              go_simp
              refine (L2.out _ hC).mono ?_
              rintro e v2 ⟨rfl, hv2⟩
              have hC' := kq_call hC (Nat.le_refl _) hv2
              refine hK.out _ _ hC' trivial ?_
              clear hK K
              clear hcl
              intro hcl
              (try simp only [Act.put, List.getElem_toArray, List.getElem_cons_zero, List.getElem_cons_succ, List.setIfInBounds_toArray, List.set_cons_zero, List.set_cons_succ])
              clear hC
              have hC := hC'
              clear hC'
              (refine wpM_take (i := 7) (v := ?_) rfl (by kernel_rfl) (by kernel_rfl) (by kernel_rfl) (by decide) (fun _ _ _ h => h) hcl hC (fun _ => hE) (Or.inl ⟨by rfl, ?_⟩) ?_; rotate_left; (· (intro w hSw; (try dsimp only at hSw); go_simp; (try with_reducible rfl))); clear hcl; intro hcl; (try simp only [Act.put, List.getElem_toArray, List.getElem_cons_zero, List.getElem_cons_succ, List.setIfInBounds_toArray, List.set_cons_zero, List.set_cons_succ]))
              refine wpM_only (i := 10) rfl (by kernel_rfl) hcl (fun K hK => ?_)
              go_simp
              refine (S9.out _ hC).mono ?_
              rintro e v3 ⟨rfl, hv3⟩
              have hC' := kq_call hC (Nat.le_refl _) hv3
              refine hK.out _ _ hC' trivial ?_
              clear hK K
              clear hcl
              intro hcl
              (try simp only [Act.put, List.getElem_toArray, List.getElem_cons_zero, List.getElem_cons_succ, List.setIfInBounds_toArray, List.set_cons_zero, List.set_cons_succ])
              clear hC
              have hC := hC'
              clear hC'
              (refine wpM_take (i := 11) (v := ?_) rfl (by kernel_rfl) (by kernel_rfl) (by kernel_rfl) (by decide) (fun _ _ _ h => h) hcl hC (fun _ => hE) (Or.inl ⟨by rfl, ?_⟩) ?_; rotate_left; (· (intro w hSw; (try dsimp only at hSw); go_simp; (try with_reducible rfl))); clear hcl; intro hcl; (try simp only [Act.put, List.getElem_toArray, List.getElem_cons_zero, List.getElem_cons_succ, List.setIfInBounds_toArray, List.set_cons_zero, List.set_cons_succ]))
              (refine wpM_take (i := 12) (v := ?_) rfl (by kernel_rfl) (by kernel_rfl) (by kernel_rfl) (by decide) (fun _ _ _ h => h) hcl hC (fun _ => hE) (Or.inl ⟨by rfl, ?_⟩) ?_; rotate_left; (· (intro w hSw; (try dsimp only at hSw); go_simp; (try with_reducible rfl))); clear hcl; intro hcl; (try simp only [Act.put, List.getElem_toArray, List.getElem_cons_zero, List.getElem_cons_succ, List.setIfInBounds_toArray, List.set_cons_zero, List.set_cons_succ]))
              refine wpM_done (by kernel_rfl) ?_
              clear hcl
              try simp only [List.getElem_toArray, List.getElem_cons_zero, List.getElem_cons_succ, List.setIfInBounds_toArray, List.set_cons_zero, List.set_cons_succ]
              have hG := hG9.trans (hC.1.mono hG9.size)
              go_wp2
              go_ret
              exact ⟨rfl, hG⟩
          · have hsb := hno.out (Or.inl h1)
            subst hsb
            have L1 := Lib.hid (fun w' (h : KQ w9.heap.size w9 w') => (LPQ.out w' (K9.out w' h)).mono (fun e w'' h => ret_false h h1))
            have S9 := Lib.hid (fun w' (h : KQ w9.heap.size w9 w') => SPQ.out w' (K9.out w' h))
            clear LPP LPQ LQR LPR LQP SPQ hsame hrefl htr hno hyes K9 h1
            skip
            refine wp_region_M (fun w' => KQ w9.heap.size w9 w') (fun _ => True) 99 (by kernel_rfl) (kq (Below.refl _ _).drew) trivial ?_
            intro hcl
            have hC : KQ w9.heap.size w9 w9.drew := kq (Below.refl _ _).drew
            have hE := trivial
            (refine wpM_take (i := 0) (v := ?_) rfl (by kernel_rfl) (by kernel_rfl) (by kernel_rfl) (by decide) (fun _ _ _ h => h) hcl hC (fun _ => hE) (Or.inl ⟨by rfl, ?_⟩) ?_; rotate_left; (· (intro w hSw; (try dsimp only at hSw); go_simp; (try with_reducible rfl))); clear hcl; intro hcl; (try simp only [Act.put, List.getElem_toArray, List.getElem_cons_zero, List.setIfInBounds_toArray, List.set_cons_zero, List.set_cons_succ]))
            (refine wpM_take (i := 1) (v := ?_) rfl (by kernel_rfl) (by kernel_rfl) (by kernel_rfl) (by decide) (fun _ _ _ h => h) hcl hC (fun _ => hE) (Or.inl ⟨by rfl, ?_⟩) ?_; rotate_left; (· (intro w hSw; (try dsimp only at hSw); go_simp; (try with_reducible rfl))); clear hcl; intro hcl; (try simp only [Act.put, List.getElem_toArray, List.getElem_cons_zero, List.getElem_cons_succ, List.setIfInBounds_toArray, List.set_cons_zero, List.set_cons_succ]))
            (refine wpM_take (i := 8) (v := ?_) rfl (by kernel_rfl) (by kernel_rfl) (by kernel_rfl) (by decide) (fun _ _ _ h => h) hcl hC (fun _ => hE) (Or.inl ⟨by rfl, ?_⟩) ?_; rotate_left; (· (intro w hSw; (try dsimp only at hSw); go_simp; (try with_reducible rfl))); clear hcl; intro hcl; (try simp only [Act.put, List.getElem_toArray, List.getElem_cons_zero, List.getElem_cons_succ, List.setIfInBounds_toArray, List.set_cons_zero, List.set_cons_succ]))
            (refine wpM_take (i := 9) (v := ?_) rfl (by kernel_rfl) (by kernel_rfl) (by kernel_rfl) (by decide) (fun _ _ _ h => h) hcl hC (fun _ => hE) (Or.inl ⟨by rfl, ?_⟩) ?_; rotate_left; (· (intro w hSw; (try dsimp only at hSw); go_simp; (try with_reducible rfl))); clear hcl; intro hcl; (try simp only [Act.put, List.getElem_toArray, List.getElem_cons_zero, List.getElem_cons_succ, List.setIfInBounds_toArray, List.set_cons_zero, List.set_cons_succ]))
            refine wpM_only (i := 2) rfl (by kernel_rfl) hcl (fun K hK => ?_)
            go_simp
            refine (L1.out _ hC).mono ?_
            rintro e v1 ⟨rfl, hv1⟩
            have hC' := kq_call hC (Nat.le_refl _) hv1
            refine hK.out _ _ hC' trivial ?_
            clear hK K
            clear hcl
            intro hcl
            (try simp only [Act.put, List.getElem_toArray, List.getElem_cons_zero, List.getElem_cons_succ, List.setIfInBounds_toArray, List.set_cons_zero, List.set_cons_succ])
            clear hC
            have hC := hC'
            clear hC'
            (refine wpM_take (i := 3) (v := ?_) rfl (by kernel_rfl) (by kernel_rfl) (by kernel_rfl) (by decide) (fun _ _ _ h => h) hcl hC (fun _ => hE) (Or.inl ⟨by rfl, ?_⟩) ?_; rotate_left; (· (intro w hSw; (try dsimp only at hSw); go_simp; (try with_reducible rfl))); clear hcl; intro hcl; (try simp only [Act.put, List.getElem_toArray, List.getElem_cons_zero, List.getElem_cons_succ, List.setIfInBounds_toArray, List.set_cons_zero, List.set_cons_succ]))
            (refine wpM_take (i := 4) (v := undef) rfl (by kernel_rfl) (by kernel_rfl) (by kernel_rfl) (by decide) (fun _ _ _ h => h) hcl hC (fun _ => hE) (Or.inr ⟨by rfl, rfl⟩) ?_; clear hcl; intro hcl; (try simp only [Act.put, List.getElem_toArray, List.getElem_cons_zero, List.getElem_cons_succ, List.setIfInBounds_toArray, List.set_cons_zero, List.set_cons_succ]))
            (refine wpM_take (i := 5) (v := undef) rfl (by kernel_rfl) (by kernel_rfl) (by kernel_rfl) (by decide) (fun _ _ _ h => h) hcl hC (fun _ => hE) (Or.inr ⟨by rfl, rfl⟩) ?_; clear hcl; intro hcl; (try simp only [Act.put, List.getElem_toArray, List.getElem_cons_zero, List.getElem_cons_succ, List.setIfInBounds_toArray, List.set_cons_zero, List.set_cons_succ]))
            (refine wpM_take (i := 6) (v := undef) rfl (by kernel_rfl) (by kernel_rfl) (by kernel_rfl) (by decide) (fun _ _ _ h => h) hcl hC (fun _ => hE) (Or.inr ⟨by rfl, rfl⟩) ?_; clear hcl; intro hcl; (try simp only [Act.put, List.getElem_toArray, List.getElem_cons_zero, List.getElem_cons_succ, List.setIfInBounds_toArray, List.set_cons_zero, List.set_cons_succ]))
            (refine wpM_take (i := 7) (v := ?_) rfl (by kernel_rfl) (by kernel_rfl) (by kernel_rfl) (by decide) (fun _ _ _ h => h) hcl hC (fun _ => hE) (Or.inl ⟨by rfl, ?_⟩) ?_; rotate_left; (· (intro w hSw; (try dsimp only at hSw); go_simp; (try with_reducible rfl))); clear hcl; intro hcl; (try simp only [Act.put, List.getElem_toArray, List.getElem_cons_zero, List.getElem_cons_succ, List.setIfInBounds_toArray, List.set_cons_zero, List.set_cons_succ]))
            refine wpM_only (i := 10) rfl (by kernel_rfl) hcl (fun K hK => ?_)
            go_simp
            refine (S9.out _ hC).mono ?_
            rintro e v3 ⟨rfl, hv3⟩
            have hC' := kq_call hC (Nat.le_refl _) hv3
            refine hK.out _ _ hC' trivial ?_
            clear hK K
            clear hcl
            intro hcl
            (try simp only [Act.put, List.getElem_toArray, List.getElem_cons_zero, List.getElem_cons_succ, List.setIfInBounds_toArray, List.set_cons_zero, List.set_cons_succ])
            clear hC
            have hC := hC'
            clear hC'
            (refine wpM_take (i := 11) (v := ?_) rfl (by kernel_rfl) (by kernel_rfl) (by kernel_rfl) (by decide) (fun _ _ _ h => h) hcl hC (fun _ => hE) (Or.inl ⟨by rfl, ?_⟩) ?_; rotate_left; (· (intro w hSw; (try dsimp only at hSw); go_simp; (try with_reducible rfl))); clear hcl; intro hcl; (try simp only [Act.put, List.getElem_toArray, List.getElem_cons_zero, List.getElem_cons_succ, List.setIfInBounds_toArray, List.set_cons_zero, List.set_cons_succ]))
            (refine wpM_take (i := 12) (v := ?_) rfl (by kernel_rfl) (by kernel_rfl) (by kernel_rfl) (by decide) (fun _ _ _ h => h) hcl hC (fun _ => hE) (Or.inl ⟨by rfl, ?_⟩) ?_; rotate_left; (· (intro w hSw; (try dsimp only at hSw); go_simp; (try with_reducible rfl))); clear hcl; intro hcl; (try simp only [Act.put, List.getElem_toArray, List.getElem_cons_zero, List.getElem_cons_succ, List.setIfInBounds_toArray, List.set_cons_zero, List.set_cons_succ]))
            refine wpM_done (by kernel_rfl) ?_
            clear hcl
            try simp only [List.getElem_toArray, List.getElem_cons_zero, List.getElem_cons_succ, List.setIfInBounds_toArray, List.set_cons_zero, List.set_cons_succ]
            have hG := hG9.trans (hC.1.mono hG9.size)
            go_wp2
            go_ret
            exact ⟨rfl, hG⟩
end Go.Proofs.Ytpfohpfgfdeecaa
