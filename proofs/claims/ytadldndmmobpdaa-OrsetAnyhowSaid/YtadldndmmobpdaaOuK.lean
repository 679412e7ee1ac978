/- 'works' of the statements on sets. -/
import Derived.Test.YtadldndmmobpdaaOuW
import Derived.Test.YtadldndmmobpdaaM30
import Derived.KernelRfl
namespace Go.Proofs.Ytadldndmmobpdaa
open Go.RowKit

def tg1 : Tm := ((1, 1), 0)
def tg2 : Tm := ((2, 1), 0)
def exB : List UInt8 := [120]
def vv01 : Vm := ⟨0, 1, 0, 0, 0, 0, 0, 0⟩
theorem wk1 : putO [] [] (tg1, exB) = (([(tg1, exB)], []), 0) := by kernel_rfl
theorem wk2 : putO [(tg1, exB)] [] (tg2, exB) = (([(tg1, exB), (tg2, exB)], []), 0) := by kernel_rfl
theorem wk3 : dropO [(tg1, exB), (tg2, exB)] [] [tg1] = (([(tg2, exB)], [tg1]), 0) := by kernel_rfl
theorem wk4 : putO [(tg2, exB)] [tg1] (tg1, exB) = (([(tg2, exB)], [tg1]), 0) := by kernel_rfl
theorem wk5 : compO [(tg2, exB)] [tg1] vv01 = ([(tg2, exB)], []) ∧ oErr [(tg2, exB)] [tg1] = 0 := by decide +kernel
theorem wk6 : hasO [(tg2, exB)] [tg1] exB = true ∧ tagsO [(tg2, exB)] [tg1] exB = [tg2] ∧ elemsO [(tg2, exB)] [] = [exB] ∧ hasO [(tg2, exB)] [] [121] = false ∧ oErr [(((0, 0), 0), [])] [] = 2 := by decide +kernel
set_option maxRecDepth 100000 in
theorem tag_any (o : Int) (w : World) :
    Calls Try.prog 110 #[.int .i64 o] w fun e w' => e = .returned (.agg #[.int .i64 o, .int .u32 1, .int .i64 0]) ∧ Below w.heap.size w w' := by
  go_enter Try.func110, Try.ntmps110
  go_wp2
  exact bodyPost_ret (v := .agg #[.int .i64 o, .int .u32 1, .int .i64 0]) (by simp [results, Try.results110, go_sem]) rfl ⟨rfl, (Below.refl _ w).alloc (Nat.le_refl _) _⟩
theorem RdT.new1 (t : Tm) (w : World) : RdT (w.alloc (.cells #[.int .i64 t.1.1, .int .u32 t.1.2, .int .i64 t.2] 79)) (w.alloc (.cells #[.int .i64 t.1.1, .int .u32 t.1.2, .int .i64 t.2] 79)).heap.size (some ⟨w.heap.size, 0, none⟩) 1 [t] := by
  have h := Rd.one' (sz := 3) (e := 79) (w := w) [.int .i64 t.1.1, .int .u32 t.1.2, .int .i64 t.2] rfl
  have hs : (w.alloc (.cells #[.int .i64 t.1.1, .int .u32 t.1.2, .int .i64 t.2] 79)).heap.size = w.heap.size + 1 := by simp
  rw [hs]
  exact h
theorem RdT.tg1' {w : World} {g : Nat} (hg : g = w.heap.size) : RdT (w.alloc (.cells #[.int .i64 1, .int .u32 1, .int .i64 0] 79)) (w.alloc (.cells #[.int .i64 1, .int .u32 1, .int .i64 0] 79)).heap.size (some ⟨g, 0, none⟩) 1 [tg1] := by
  subst hg; exact RdT.new1 tg1 w
theorem RdT.alloc1 {w : World} {A : Option Addr} {n : Nat} {xs : List Tm} (h : RdT w w.heap.size A n xs) (o : Obj) : RdT (w.alloc o) (w.alloc o).heap.size A n xs :=
  (RdT.below h ((Below.refl _ w).alloc (Nat.le_refl _) o)).more ((Below.refl _ w).alloc (Nat.le_refl _) o).size
theorem RdA.new1 (a : Am) (w : World) : RdA (w.alloc (.cells #[.int .i64 a.1.1.1, .int .u32 a.1.1.2, .int .i64 a.1.2, .string (bs a.2)] 83)) (w.alloc (.cells #[.int .i64 a.1.1.1, .int .u32 a.1.1.2, .int .i64 a.1.2, .string (bs a.2)] 83)).heap.size (some ⟨w.heap.size, 0, none⟩) 1 [a] := by
  have h := Rd.one' (sz := 4) (e := 83) (w := w) [.int .i64 a.1.1.1, .int .u32 a.1.1.2, .int .i64 a.1.2, .string (bs a.2)] rfl
  have hs : (w.alloc (.cells #[.int .i64 a.1.1.1, .int .u32 a.1.1.2, .int .i64 a.1.2, .string (bs a.2)] 83)).heap.size = w.heap.size + 1 := by simp
  rw [hs]
  exact h
theorem RdA.zero (w : World) : RdA (w.alloc (.cells #[.int .i64 0, .int .u32 0, .int .i64 0, .string ⟨#[]⟩] 83)) (w.alloc (.cells #[.int .i64 0, .int .u32 0, .int .i64 0, .string ⟨#[]⟩] 83)).heap.size (some ⟨w.heap.size, 0, none⟩) 1 [(((0, 0), 0), [])] := RdA.new1 (((0, 0), 0), []) w
set_option maxRecDepth 100000 in
set_option maxHeartbeats 16000000 in
theorem works_any (w : World) :
    Calls Try.prog 55 #[] w fun e w' => e = .returned (.bool true) ∧ Below w.heap.size w w' := by
  have hwf1 : tg1.wf := ⟨by decide, by decide⟩
  have hwf2 : tg2.wf := ⟨by decide, by decide⟩
  have c1 := Lib.hid (fun w => show Calls Try.prog 38 #[.agg #[.slice none 0 0, .slice none 0 0], .agg #[.int .i64 1, .int .u32 1, .int .i64 0, .string ⟨#[120]⟩]] w (PostO w ([(tg1, exB)], []) 0) from by
    have h := oput_any none 0 0 [] none 0 0 [] (tg1, exB) w ⟨rfl, fun h => absurd h (by decide)⟩ ⟨rfl, fun h => absurd h (by decide)⟩ (by omega) (by omega) (by simp) (by simp) (by simp) hwf1 (by simp [exB, maxLen])
    rw [wk1] at h; exact h)
  have c2 := Lib.hid (fun A n c B m d w (hA : RdA w w.heap.size A n [(tg1, exB)]) (hB : RdT w w.heap.size B m []) => show Calls Try.prog 38 #[.agg #[.slice A n c, .slice B m d], .agg #[.int .i64 2, .int .u32 1, .int .i64 0, .string ⟨#[120]⟩]] w (PostO w ([(tg1, exB), (tg2, exB)], []) 0) from by
    have h := oput_any A n c [(tg1, exB)] B m d [] (tg2, exB) w hA hB (by have := hA.len; simp at this; omega) (by have := hB.len; simp at this; omega) (by simp [Am.wf, hwf1]) (by simp) (by simp [exB, maxLen]) hwf2 (by simp [exB, maxLen])
    rw [wk2] at h; exact h)
  have c3 := Lib.hid (fun A n c B m d C w (hA : RdA w w.heap.size A n [(tg1, exB), (tg2, exB)]) (hB : RdT w w.heap.size B m []) (hC : RdT w w.heap.size C 1 [tg1]) => show Calls Try.prog 40 #[.agg #[.slice A n c, .slice B m d], .slice C 1 1] w (PostO w ([(tg2, exB)], [tg1]) 0) from by
    have h := odrop_any A n c [(tg1, exB), (tg2, exB)] B m d [] C 1 1 [tg1] w hA hB hC (by have := hA.len; simp at this; omega) (by have := hB.len; simp at this; omega) (by omega) (by simp [Am.wf, hwf1, hwf2]) (by simp) (by simp [hwf1]) (by simp [exB, maxLen])
    rw [wk3] at h; exact h)
  have c4 := Lib.hid (fun A n c B m d w (hA : RdA w w.heap.size A n [(tg2, exB)]) (hB : RdT w w.heap.size B m [tg1]) => show Calls Try.prog 38 #[.agg #[.slice A n c, .slice B m d], .agg #[.int .i64 1, .int .u32 1, .int .i64 0, .string ⟨#[120]⟩]] w (PostO w ([(tg2, exB)], [tg1]) 0) from by
    have h := oput_any A n c [(tg2, exB)] B m d [tg1] (tg1, exB) w hA hB (by have := hA.len; simp at this; omega) (by have := hB.len; simp at this; omega) (by simp [Am.wf, hwf2]) (by simp [hwf1]) (by simp [exB, maxLen]) hwf1 (by simp [exB, maxLen])
    rw [wk4] at h; exact h)
  have c5 := Lib.hid (fun A n c B m d w (hA : RdA w w.heap.size A n [(tg2, exB)]) (hB : RdT w w.heap.size B m [tg1]) => show Calls Try.prog 12 #[.agg #[.slice A n c, .slice B m d], .agg #[.int .u32 0, .int .u32 1, .int .u32 0, .int .u32 0, .int .u32 0, .int .u32 0, .int .u32 0, .int .u32 0]] w (PostO w ([(tg2, exB)], []) 0) from by
    have h := ocompact_any A n c [(tg2, exB)] B m d [tg1] vv01 w hA hB (by have := hA.len; simp at this; omega) (by have := hB.len; simp at this; omega) (by simp [Am.wf, hwf2]) (by simp [hwf1]) (by simp [exB, maxLen])
    rw [wk5.1, wk5.2] at h; exact h)
  have c6 := Lib.hid (fun A n c B m d w (hA : RdA w w.heap.size A n [(tg2, exB)]) (hB : RdT w w.heap.size B m [tg1]) => show Calls Try.prog 20 #[.agg #[.slice A n c, .slice B m d], .string ⟨#[120]⟩] w (fun r w' => r = .returned (.bool true) ∧ Below w.heap.size w w') from by
    have h := ohas_any A n c [(tg2, exB)] B m d [tg1] exB w hA hB (by have := hA.len; simp at this; omega) (by have := hB.len; simp at this; omega) (by simp [Am.wf, hwf2]) (by simp [hwf1]) (by simp [exB, maxLen])
    rw [wk6.1] at h; exact h)
  have c7 := Lib.hid (fun A n c B m d w (hA : RdA w w.heap.size A n [(tg2, exB)]) (hB : RdT w w.heap.size B m [tg1]) => show Calls Try.prog 15 #[.agg #[.slice A n c, .slice B m d], .string ⟨#[120]⟩] w (fun r w' => ∃ T c', r = .returned (.slice T 1 c') ∧ Below w.heap.size w w') from by
    have h := otags_any A n c [(tg2, exB)] B m d [tg1] exB w hA hB (by have := hA.len; simp at this; omega) (by have := hB.len; simp at this; omega) (by simp [Am.wf, hwf2]) (by simp [hwf1]) (by simp [exB, maxLen])
    rw [wk6.2.1] at h
    exact h.mono (by rintro e w' ⟨T, t, c', rfl, o, hb⟩; obtain rfl : t = 1 := by simpa using o.rd.2.1.symm
                     exact ⟨T, c', rfl, hb⟩))
  have c8 := Lib.hid (fun A n c B m d w (hA : RdA w w.heap.size A n [(tg2, exB)]) (hB : RdT w w.heap.size B m []) => show Calls Try.prog 22 #[.agg #[.slice A n c, .slice B m d]] w (fun r w' => ∃ T c', r = .returned (.slice T 1 c') ∧ Below w.heap.size w w') from by
    have h := oelems_any A n c [(tg2, exB)] B m d [] w hA hB (by have := hA.len; simp at this; omega) (by have := hB.len; simp at this; omega) (by simp [Am.wf, hwf2]) (by simp) (by simp [exB, maxLen])
    rw [wk6.2.2.1] at h
    exact h.mono (by rintro e w' ⟨T, t, c', rfl, o, hb⟩; obtain rfl : t = 1 := by simpa using o.rd.2.1.symm
                     exact ⟨T, c', rfl, hb⟩))
  have c9 := Lib.hid (fun A n c B m d w (hA : RdA w w.heap.size A n [(tg2, exB)]) (hB : RdT w w.heap.size B m []) => show Calls Try.prog 20 #[.agg #[.slice A n c, .slice B m d], .string ⟨#[121]⟩] w (fun r w' => r = .returned (.bool false) ∧ Below w.heap.size w w') from by
    have h := ohas_any A n c [(tg2, exB)] B m d [] [121] w hA hB (by have := hA.len; simp at this; omega) (by have := hB.len; simp at this; omega) (by simp [Am.wf, hwf2]) (by simp) (by simp [exB, maxLen])
    rw [wk6.2.2.2.1] at h; exact h)
  have c10 := Lib.hid (fun A w (hA : RdA w w.heap.size A 1 [(((0, 0), 0), [])]) => show Calls Try.prog 42 #[.agg #[.slice A 1 1, .slice none 0 0]] w (fun r w' => r = .returned (.int .i64 2) ∧ Below w.heap.size w w') from by
    have h := ocheck_any A 1 1 [(((0, 0), 0), [])] none 0 0 [] w hA ⟨rfl, fun h => absurd h (by decide)⟩ (by decide) (by decide) (by intro a ha; simp at ha; subst ha; exact ⟨by decide, by decide⟩) (by simp) (by simp)
    rw [wk6.2.2.2.2] at h; exact h)
  clear hwf1 hwf2
  go_enter Try.func55, Try.ntmps55
  go_wp2_with fail
  refine (tag_any 1 _).mono ?_
  rintro e w0 ⟨rfl, hv0⟩
  go_wp2_with fail
  refine (c1.out w0).mono ?_
  rintro e w1 ⟨A1, n1, k1, B1, m1, d1, rfl, hX1, hY1, _, _, _, _, _, _, hb1⟩
  go_upto_region 2 with (fail)
  obtain ⟨W1, hwn⟩ : ∃ w9, w1.alloc (.cells #[.slice A1 n1 k1, .slice B1 m1 d1] 32) = w9 := ⟨_, rfl⟩
  have hg1 : W1.heap[w1.heap.size]? = some (.cells #[.slice A1 n1 k1, .slice B1 m1 d1] 32 (0, 0)) := by rw [← hwn]; exact heap_at _ _ rfl
  have hb11 : Below w1.heap.size w1 W1 := by rw [← hwn]; exact (Below.refl _ w1).alloc (Nat.le_refl _) _
  rw [hwn]
  clear hwn
  have hG1 : Below w.heap.size w W1 := (hv0.trans (hb1.mono hv0.size)).trans (hb11.mono (hv0.trans (hb1.mono hv0.size)).size)
  have r1 := Lib.hid (And.intro ((hX1.below hb11).more hb11.size) ((hY1.below hb11).more hb11.size))
  clear hX1 hY1 hb1 hb11 hv0 c1
  have hl1 := blk_lt hg1
  have p0 := blk_cell hg1 0
  have p1 := blk_cell hg1 1
  simp at p0 p1
  clear hg1
  have cP := Lib.hid (fun w' (h : KQ W1.heap.size W1 w') => c2.out A1 n1 k1 B1 m1 d1 w' ((r1.out.1.below h.1).more h.1.size) ((r1.out.2.below h.1).more h.1.size))
  clear c2
  go_cut [3, 4] (fun sa sb wx => ∃ g A' n' c' B' m' d', sa = .pointer (some ⟨g, 0, none⟩) ∧ W1.heap.size ≤ g ∧ sb = .int .i64 0 ∧ wx.heap[g]? = some (.cells #[.slice A' n' c', .slice B' m' d'] 32 (0, 0)) ∧ RdA wx wx.heap.size A' n' [(tg1, exB), (tg2, exB)] ∧ RdT wx wx.heap.size B' m' [] ∧ Below W1.heap.size W1 wx)
  case first =>
    have hq0 : KQ W1.heap.size W1 W1 := kq (Below.refl _ _)
    go_region_held3 (fun w' => KQ W1.heap.size W1 w') (first
      | with_reducible exact kq_call (by assumption) (by simp) (by assumption)
      | with_reducible exact kq_grown (by assumption) (by simp) (by assumption) (by simp [Value.ownBlock])
      | ((repeat (first | (with_reducible refine kq_set ?_ (by first | (simp; done) | (simp; omega) | omega) _) | (with_reducible refine kq_alloc ?_ (by first | exact Nat.le_refl _ | (simp; done) | (simp; omega)) _))); (with_reducible assumption))
      | ((with_reducible refine kq ?_); (repeat (first | (with_reducible exact Below.refl _ _) | (with_reducible refine Below.drew ?_) | (with_reducible refine Below.alloc ?_ (by simp) _) | (with_reducible refine Below.setCell ?_ (by simp) _) | (with_reducible exact (by assumption : KQ _ _ _).1))); done))
      (first
        | (go_at_call 110
           refine (tag_any 2 _).mono ?_
           rintro e v1 ⟨rfl, hv1⟩
           have hz1 := hv1.size
           (try simp at hz1)
           have hq1 : KQ W1.heap.size W1 v1 := kq_call (by first | with_reducible assumption | exact kq_drew (Below.refl _ _) | exact kq_drew ((Below.refl _ _).alloc (Nat.le_refl _) _) | exact kq (((Below.refl _ _).drew).alloc (by simp) _)) (Nat.le_refl _) hv1
           (try (have hx1 : v1.heap[W1.heap.size]? = some (.cells #[.slice none 0 0, .slice none 0 0] 32 (0, 0)) := (hv1.block _ (by simp; done)).trans (by first | exact heap_drew (heap_at _ _ rfl) | exact heap_at _ _ rfl)))
          )
        | (go_at_call 38
           (with_reducible refine (cP.out _ (by first | with_reducible assumption | exact kq_alloc (by with_reducible assumption) (Nat.le_refl _) _ : KQ W1.heap.size W1 _)).mono ?_)
           rintro e v5 ⟨A5, n5, c5, B5, m5, d5, rfl, hY1, hY2, _, _, _, _, _, _, hb5⟩
           have hz5 := hb5.size
           (try simp at hz5)
           have hq5 : KQ W1.heap.size W1 v5 := kq_call (by first | with_reducible assumption | exact kq_alloc (by with_reducible assumption) (Nat.le_refl _) _ | exact kq_alloc (kq_alloc (by with_reducible assumption) (Nat.le_refl _) _) (Nat.le_refl _) _ | fail) (Nat.le_refl _) hb5
           (first
             | (have hx5 : v5.heap[W1.heap.size]? = some (.cells #[.slice none 0 0, .slice none 0 0] 32 (0, 0)) := (hb5.block _ (by first | exact blk_lt hx1 | (have h9 := blk_lt hx1; simp only [World.size_alloc]; omega) | fail)).trans (by first | exact hx1 | exact heap_old _ (blk_lt hx1) hx1 | fail)
                have hfx := blk_frozen hx5
                have hlx := blk_lt hx5
                have x0 := blk_cell hx5 0
                have x1 := blk_cell hx5 1
                simp at x0 x1)
             | (have hx5 : v5.heap[v1.heap.size]? = some (.cells #[.slice none 0 0, .slice none 0 0] 32 (0, 0)) := (hb5.block _ (by first | (simp only [World.size_alloc]; omega) | fail)).trans (by first | exact heap_at _ _ rfl | exact heap_old _ (by first | (simp only [World.size_alloc]; omega) | fail) (heap_at _ _ rfl) | fail)
                have hfx := blk_frozen hx5
                have hlx := blk_lt hx5
                have x0 := blk_cell hx5 0
                have x1 := blk_cell hx5 1
                simp at x0 x1)
             | (have hx5 : v5.heap[v1.heap.size + 1]? = some (.cells #[.slice none 0 0, .slice none 0 0] 32 (0, 0)) := (hb5.block _ (by first | (simp only [World.size_alloc]; omega) | fail)).trans (by first | exact heap_at _ _ (by first | (simp only [World.size_alloc]; done) | fail) | fail)
                have hfx := blk_frozen hx5
                have hlx := blk_lt hx5
                have x0 := blk_cell hx5 0
                have x1 := blk_cell hx5 1
                simp at x0 x1)
             | skip)
          )
        | fail "no arm")
    all_goals
    (have hYH := Lib.hid (And.intro hY1 hY2)
     have hk5 : Below W1.heap.size W1 v5 := hq5.1
     have hk5H := Lib.hid hk5
     have hzk := hk5.size
     go_wp2_with fail
     go_meet
     first
       | (have hb3 : Below v5.heap.size v5 (v5.alloc (.cells #[.slice A5 n5 c5, .slice B5 m5 d5] 32)) := (Below.refl _ v5).alloc (Nat.le_refl _) _
          exact ⟨v5.heap.size, A5, n5, c5, B5, m5, d5, rfl, hzk, rfl, heap_at _ _ rfl, (hYH.out.1.below hb3).more hb3.size, (hYH.out.2.below hb3).more hb3.size, hk5H.out.trans (hb3.mono hzk)⟩)
       | (have ha3 := (hYH.out.1.set_other hx5 0 (.slice A5 n5 c5)).set_other (blk_set hx5 0 (.slice A5 n5 c5)) 1 (.slice B5 m5 d5)
          have hb3 := (hYH.out.2.set_other hx5 0 (.slice A5 n5 c5)).set_other (blk_set hx5 0 (.slice A5 n5 c5)) 1 (.slice B5 m5 d5)
          have hx3 := blk_set (blk_set hx5 0 (.slice A5 n5 c5)) 1 (.slice B5 m5 d5)
          exact ⟨_, A5, n5, c5, B5, m5, d5, rfl, by omega, rfl, hx3, by rw [World.size_setCell, World.size_setCell]; exact ha3, by rw [World.size_setCell, World.size_setCell]; exact hb3, (hk5H.out.setCell (by dsimp only; omega) _).setCell (by dsimp only; omega) _⟩))
  case rest =>
    obtain ⟨g3, A3, n3, k3, B3, m3, d3, rfl, hgg3, rfl, hb3, hX3, hY3, hB3⟩ := hcut
    obtain ⟨w3, hw3⟩ : ∃ w3, w3 = wc := ⟨_, rfl⟩
    obtain rfl := hw3
    have hG3 := hG1.trans (hB3.mono hG1.size)
    have r3 := Lib.hid (And.intro hX3 hY3)
    have hl3 := blk_lt hb3
    have q0 := blk_cell hb3 0
    have q1 := blk_cell hb3 1
    simp at q0 q1
    clear hX3 hY3 cP p0 p1 hl1 hB3 hb3
    have cD := Lib.hid (fun C w' (h : KQ w3.heap.size w3 w') (hC : RdT w' w'.heap.size C 1 [tg1]) => c3.out A3 n3 k3 B3 m3 d3 C w' ((r3.out.1.below h.1).more h.1.size) ((r3.out.2.below h.1).more h.1.size) hC)
    clear c3
    go_upto_region 3 with (fail)
    go_cut [5, 6] (fun sa sb wx => ∃ g A' n' c' B' m' d', sa = .pointer (some ⟨g, 0, none⟩) ∧ w3.heap.size ≤ g ∧ sb = .int .i64 0 ∧ wx.heap[g]? = some (.cells #[.slice A' n' c', .slice B' m' d'] 32 (0, 0)) ∧ RdA wx wx.heap.size A' n' [(tg2, exB)] ∧ RdT wx wx.heap.size B' m' [tg1] ∧ Below w3.heap.size w3 wx)
    case first =>
      have hq0 : KQ w3.heap.size w3 w3 := kq (Below.refl _ _)
      go_region_held3 (fun w' => KQ w3.heap.size w3 w') (first
      | with_reducible exact kq_call (by assumption) (by simp) (by assumption)
      | with_reducible exact kq_grown (by assumption) (by simp) (by assumption) (by simp [Value.ownBlock])
      | ((repeat (first | (with_reducible refine kq_set ?_ (by first | (simp; done) | (simp; omega) | omega) _) | (with_reducible refine kq_alloc ?_ (by first | exact Nat.le_refl _ | (simp; done) | (simp; omega)) _))); (with_reducible assumption))
      | ((with_reducible refine kq ?_); (repeat (first | (with_reducible exact Below.refl _ _) | (with_reducible refine Below.drew ?_) | (with_reducible refine Below.alloc ?_ (by simp) _) | (with_reducible refine Below.setCell ?_ (by simp) _) | (with_reducible exact (by assumption : KQ _ _ _).1))); done))
        (first
          | (go_at_call 110
             refine (tag_any 1 _).mono ?_
             rintro e v1 ⟨rfl, hv1⟩
             have hz1 := hv1.size
             (try simp at hz1)
             have hq1 : KQ w3.heap.size w3 v1 := kq_call (by first | with_reducible assumption | exact kq_drew (Below.refl _ _) | exact kq_drew ((Below.refl _ _).alloc (Nat.le_refl _) _) | exact kq (((Below.refl _ _).drew).alloc (by simp) _)) (Nat.le_refl _) hv1
             (try (have hx1 : v1.heap[w3.heap.size]? = some (.cells #[.slice none 0 0, .slice none 0 0] 32 (0, 0)) := (hv1.block _ (by simp; done)).trans (by first | exact heap_drew (heap_at _ _ rfl) | exact heap_at _ _ rfl)))
            )
          | (go_at_call 40
             (with_reducible refine (cD.out _ _ (by first | with_reducible assumption | exact kq_alloc (by with_reducible assumption) (Nat.le_refl _) _ | exact kq_alloc (kq_alloc (by with_reducible assumption) (Nat.le_refl _) _) (Nat.le_refl _) _ | fail : KQ w3.heap.size w3 _) (by first | exact RdT.tg1' rfl | exact RdT.tg1' (by first | (simp only [World.size_alloc]; done) | fail) | exact RdT.alloc1 (RdT.tg1' rfl) _ | fail)).mono ?_)
             rintro e v5 ⟨A5, n5, c5, B5, m5, d5, rfl, hY1, hY2, _, _, _, _, _, _, hb5⟩
             have hz5 := hb5.size
             (try simp at hz5)
             have hq5 : KQ w3.heap.size w3 v5 := kq_call (by first | with_reducible assumption | exact kq_alloc (by with_reducible assumption) (Nat.le_refl _) _ | exact kq_alloc (kq_alloc (by with_reducible assumption) (Nat.le_refl _) _) (Nat.le_refl _) _ | fail) (Nat.le_refl _) hb5
             (first
               | (have hx5 : v5.heap[w3.heap.size]? = some (.cells #[.slice none 0 0, .slice none 0 0] 32 (0, 0)) := (hb5.block _ (by first | exact blk_lt hx1 | (have h9 := blk_lt hx1; simp only [World.size_alloc]; omega) | fail)).trans (by first | exact hx1 | exact heap_old _ (blk_lt hx1) hx1 | fail)
                  have hfx := blk_frozen hx5
                  have hlx := blk_lt hx5
                  have x0 := blk_cell hx5 0
                  have x1 := blk_cell hx5 1
                  simp at x0 x1)
               | (have hx5 : v5.heap[v1.heap.size]? = some (.cells #[.slice none 0 0, .slice none 0 0] 32 (0, 0)) := (hb5.block _ (by first | (simp only [World.size_alloc]; omega) | fail)).trans (by first | exact heap_at _ _ rfl | exact heap_old _ (by first | (simp only [World.size_alloc]; omega) | fail) (heap_at _ _ rfl) | fail)
                  have hfx := blk_frozen hx5
                  have hlx := blk_lt hx5
                  have x0 := blk_cell hx5 0
                  have x1 := blk_cell hx5 1
                  simp at x0 x1)
               | (have hx5 : v5.heap[v1.heap.size + 1]? = some (.cells #[.slice none 0 0, .slice none 0 0] 32 (0, 0)) := (hb5.block _ (by first | (simp only [World.size_alloc]; omega) | fail)).trans (by first | exact heap_at _ _ (by first | (simp only [World.size_alloc]; done) | fail) | fail)
                  have hfx := blk_frozen hx5
                  have hlx := blk_lt hx5
                  have x0 := blk_cell hx5 0
                  have x1 := blk_cell hx5 1
                  simp at x0 x1)
               | skip)
            )
          | fail "no arm")
      all_goals
      (have hYH := Lib.hid (And.intro hY1 hY2)
       have hk5 : Below w3.heap.size w3 v5 := hq5.1
       have hk5H := Lib.hid hk5
       have hzk := hk5.size
       go_wp2_with fail
       go_meet
       first
         | (have hb3 : Below v5.heap.size v5 (v5.alloc (.cells #[.slice A5 n5 c5, .slice B5 m5 d5] 32)) := (Below.refl _ v5).alloc (Nat.le_refl _) _
            exact ⟨v5.heap.size, A5, n5, c5, B5, m5, d5, rfl, hzk, rfl, heap_at _ _ rfl, (hYH.out.1.below hb3).more hb3.size, (hYH.out.2.below hb3).more hb3.size, hk5H.out.trans (hb3.mono hzk)⟩)
         | (have ha3 := (hYH.out.1.set_other hx5 0 (.slice A5 n5 c5)).set_other (blk_set hx5 0 (.slice A5 n5 c5)) 1 (.slice B5 m5 d5)
            have hb3 := (hYH.out.2.set_other hx5 0 (.slice A5 n5 c5)).set_other (blk_set hx5 0 (.slice A5 n5 c5)) 1 (.slice B5 m5 d5)
            have hx3 := blk_set (blk_set hx5 0 (.slice A5 n5 c5)) 1 (.slice B5 m5 d5)
            exact ⟨_, A5, n5, c5, B5, m5, d5, rfl, by omega, rfl, hx3, by rw [World.size_setCell, World.size_setCell]; exact ha3, by rw [World.size_setCell, World.size_setCell]; exact hb3, (hk5H.out.setCell (by dsimp only; omega) _).setCell (by dsimp only; omega) _⟩))
    case rest =>
      obtain ⟨g5, A5, n5, k5, B5, m5, d5, rfl, hgg5, rfl, hb5, hX5, hY5, hB5⟩ := hcut
      obtain ⟨w5, hw5⟩ : ∃ w5, w5 = wc := ⟨_, rfl⟩
      obtain rfl := hw5
      have hG5 := hG3.trans (hB5.mono hG3.size)
      have r5 := Lib.hid (And.intro hX5 hY5)
      have hb5H := Lib.hid hb5
      have hl5 := blk_lt hb5
      have q0 := blk_cell hb5 0
      have q1 := blk_cell hb5 1
      simp at q0 q1
      clear hX5 hY5 cD hl3 hB5 hb5
      have cP := Lib.hid (fun w' (h : KQ w5.heap.size w5 w') => c4.out A5 n5 k5 B5 m5 d5 w' ((r5.out.1.below h.1).more h.1.size) ((r5.out.2.below h.1).more h.1.size))
      clear c4
      go_upto_region 4 with (fail)
      go_cut [7, 8] (fun sa sb wx => ∃ g A' n' c' B' m' d', sa = .pointer (some ⟨g, 0, none⟩) ∧ w5.heap.size ≤ g ∧ sb = .int .i64 0 ∧ wx.heap[g]? = some (.cells #[.slice A' n' c', .slice B' m' d'] 32 (0, 0)) ∧ RdA wx wx.heap.size A' n' [(tg2, exB)] ∧ RdT wx wx.heap.size B' m' [tg1] ∧ Below w5.heap.size w5 wx)
      case first =>
        have hq0 : KQ w5.heap.size w5 w5 := kq (Below.refl _ _)
        go_region_held3 (fun w' => KQ w5.heap.size w5 w') (first
      | with_reducible exact kq_call (by assumption) (by simp) (by assumption)
      | with_reducible exact kq_grown (by assumption) (by simp) (by assumption) (by simp [Value.ownBlock])
      | ((repeat (first | (with_reducible refine kq_set ?_ (by first | (simp; done) | (simp; omega) | omega) _) | (with_reducible refine kq_alloc ?_ (by first | exact Nat.le_refl _ | (simp; done) | (simp; omega)) _))); (with_reducible assumption))
      | ((with_reducible refine kq ?_); (repeat (first | (with_reducible exact Below.refl _ _) | (with_reducible refine Below.drew ?_) | (with_reducible refine Below.alloc ?_ (by simp) _) | (with_reducible refine Below.setCell ?_ (by simp) _) | (with_reducible exact (by assumption : KQ _ _ _).1))); done))
          (first
            | (go_at_call 110
               refine (tag_any 1 _).mono ?_
               rintro e v1 ⟨rfl, hv1⟩
               have hz1 := hv1.size
               (try simp at hz1)
               have hq1 : KQ w5.heap.size w5 v1 := kq_call (by first | with_reducible assumption | exact kq_drew (Below.refl _ _) | exact kq_drew ((Below.refl _ _).alloc (Nat.le_refl _) _) | exact kq (((Below.refl _ _).drew).alloc (by simp) _)) (Nat.le_refl _) hv1
               (try (have hx1 : v1.heap[w5.heap.size]? = some (.cells #[.slice none 0 0, .slice none 0 0] 32 (0, 0)) := (hv1.block _ (by simp; done)).trans (by first | exact heap_drew (heap_at _ _ rfl) | exact heap_at _ _ rfl)))
              )
            | (go_at_call 38
               (with_reducible refine (cP.out _ (by first | with_reducible assumption | exact kq_alloc (by with_reducible assumption) (Nat.le_refl _) _ : KQ w5.heap.size w5 _)).mono ?_)
               rintro e v5 ⟨A5, n5, c5, B5, m5, d5, rfl, hY1, hY2, _, _, _, _, _, _, hb5⟩
               have hz5 := hb5.size
               (try simp at hz5)
               have hq5 : KQ w5.heap.size w5 v5 := kq_call (by first | with_reducible assumption | exact kq_alloc (by with_reducible assumption) (Nat.le_refl _) _ | exact kq_alloc (kq_alloc (by with_reducible assumption) (Nat.le_refl _) _) (Nat.le_refl _) _ | fail) (Nat.le_refl _) hb5
               (first
                 | (have hx5 : v5.heap[w5.heap.size]? = some (.cells #[.slice none 0 0, .slice none 0 0] 32 (0, 0)) := (hb5.block _ (by first | exact blk_lt hx1 | (have h9 := blk_lt hx1; simp only [World.size_alloc]; omega) | fail)).trans (by first | exact hx1 | exact heap_old _ (blk_lt hx1) hx1 | fail)
                    have hfx := blk_frozen hx5
                    have hlx := blk_lt hx5
                    have x0 := blk_cell hx5 0
                    have x1 := blk_cell hx5 1
                    simp at x0 x1)
                 | (have hx5 : v5.heap[v1.heap.size]? = some (.cells #[.slice none 0 0, .slice none 0 0] 32 (0, 0)) := (hb5.block _ (by first | (simp only [World.size_alloc]; omega) | fail)).trans (by first | exact heap_at _ _ rfl | exact heap_old _ (by first | (simp only [World.size_alloc]; omega) | fail) (heap_at _ _ rfl) | fail)
                    have hfx := blk_frozen hx5
                    have hlx := blk_lt hx5
                    have x0 := blk_cell hx5 0
                    have x1 := blk_cell hx5 1
                    simp at x0 x1)
                 | (have hx5 : v5.heap[v1.heap.size + 1]? = some (.cells #[.slice none 0 0, .slice none 0 0] 32 (0, 0)) := (hb5.block _ (by first | (simp only [World.size_alloc]; omega) | fail)).trans (by first | exact heap_at _ _ (by first | (simp only [World.size_alloc]; done) | fail) | fail)
                    have hfx := blk_frozen hx5
                    have hlx := blk_lt hx5
                    have x0 := blk_cell hx5 0
                    have x1 := blk_cell hx5 1
                    simp at x0 x1)
                 | skip)
              )
            | fail "no arm")
        all_goals
        (have hYH := Lib.hid (And.intro hY1 hY2)
         have hk5 : Below w5.heap.size w5 v5 := hq5.1
         have hk5H := Lib.hid hk5
         have hzk := hk5.size
         go_wp2_with fail
         go_meet
         first
           | (have hb3 : Below v5.heap.size v5 (v5.alloc (.cells #[.slice A5 n5 c5, .slice B5 m5 d5] 32)) := (Below.refl _ v5).alloc (Nat.le_refl _) _
              exact ⟨v5.heap.size, A5, n5, c5, B5, m5, d5, rfl, hzk, rfl, heap_at _ _ rfl, (hYH.out.1.below hb3).more hb3.size, (hYH.out.2.below hb3).more hb3.size, hk5H.out.trans (hb3.mono hzk)⟩)
           | (have ha3 := (hYH.out.1.set_other hx5 0 (.slice A5 n5 c5)).set_other (blk_set hx5 0 (.slice A5 n5 c5)) 1 (.slice B5 m5 d5)
              have hb3 := (hYH.out.2.set_other hx5 0 (.slice A5 n5 c5)).set_other (blk_set hx5 0 (.slice A5 n5 c5)) 1 (.slice B5 m5 d5)
              have hx3 := blk_set (blk_set hx5 0 (.slice A5 n5 c5)) 1 (.slice B5 m5 d5)
              exact ⟨_, A5, n5, c5, B5, m5, d5, rfl, by omega, rfl, hx3, by rw [World.size_setCell, World.size_setCell]; exact ha3, by rw [World.size_setCell, World.size_setCell]; exact hb3, (hk5H.out.setCell (by dsimp only; omega) _).setCell (by dsimp only; omega) _⟩))
      case rest =>
        obtain ⟨g7, A7, n7, k7, B7, m7, d7, rfl, hgg7, rfl, hb7, hX7, hY7, hB7⟩ := hcut
        obtain ⟨w7, hw7⟩ : ∃ w7, w7 = wc := ⟨_, rfl⟩
        obtain rfl := hw7
        have hG7 := hG5.trans (hB7.mono hG5.size)
        have r57 := Lib.hid (And.intro ((r5.out.1.below hB7).more hB7.size) ((r5.out.2.below hB7).more hB7.size))
        have hb57 := Lib.hid (blk_below hb5H.out hB7)
        have r7 := Lib.hid (And.intro hX7 hY7)
        have hb7H := Lib.hid hb7
        have hl7 := blk_lt hb7
        have q0 := blk_cell hb7 0
        have q1 := blk_cell hb7 1
        simp at q0 q1
        clear hX7 hY7 cP hl5 hB7 hb7 hb5H r5
        go_wp2_with fail
        refine (c5.out A7 n7 k7 B7 m7 d7 w7 r7.out.1 r7.out.2).mono ?_
        rintro e w8 ⟨A9, n9, k9, B9, m9, d9, rfl, hX9, hY9, _, _, _, _, _, _, hb8⟩
        go_upto_region 6 with (fail)
        obtain ⟨w9, hwn⟩ : ∃ w9, w8.alloc (.cells #[.slice A9 n9 k9, .slice B9 m9 d9] 32) = w9 := ⟨_, rfl⟩
        have hg9 : w9.heap[w8.heap.size]? = some (.cells #[.slice A9 n9 k9, .slice B9 m9 d9] 32 (0, 0)) := by rw [← hwn]; exact heap_at _ _ rfl
        have hb89 : Below w8.heap.size w8 w9 := by rw [← hwn]; exact (Below.refl _ w8).alloc (Nat.le_refl _) _
        rw [hwn]
        clear hwn
        have hB79 : Below w7.heap.size w7 w9 := hb8.trans (hb89.mono hb8.size)
        have hG9 := hG7.trans (hB79.mono hG7.size)
        have hn9 : n9 = 1 := by simpa using hX9.len.symm
        have hm9 : m9 = 0 := by simpa using hY9.len.symm
        have hm7 : m7 = 1 := by simpa using r7.out.2.len.symm
        have t9 := Lib.hid (And.intro ((hX9.below hb89).more hb89.size) ((hY9.below hb89).more hb89.size))
        have t7 := Lib.hid (And.intro ((r7.out.1.below hB79).more hB79.size) ((r7.out.2.below hB79).more hB79.size))
        have t5 := Lib.hid (And.intro ((r57.out.1.below hB79).more hB79.size) ((r57.out.2.below hB79).more hB79.size))
        have u7 := Lib.hid (blk_below hb7H.out hB79)
        have u5 := Lib.hid (blk_below hb57.out hB79)
        have u9 := Lib.hid hg9
        subst hm9 hm7 hn9
        clear hX9 hY9 hb8 hb89 hB79 hg9 q0 q1 hl7 r57 hb57 r7 hb7H c5
        have hle := blk_lt (u5).out
        have e0 := blk_cell (u5).out 0
        have e1 := blk_cell (u5).out 1
        simp at e0 e1
        have hlf := blk_lt (u7).out
        have f0 := blk_cell (u7).out 0
        have f1 := blk_cell (u7).out 1
        simp at f0 f1
        have hlh := blk_lt (u9).out
        have h0 := blk_cell (u9).out 0
        have h1 := blk_cell (u9).out 1
        simp at h0 h1
        go_wp2_with fail
        refine (c6.out A5 n5 k5 B5 m5 d5 w9 t5.out.1 t5.out.2).mono ?_
        rintro e v1 ⟨rfl, hv1⟩
        have i7 := blk_below u7.out hv1
        have i9 := blk_below u9.out hv1
        have hz1 := hv1.size
        clear e0 e1 hle f0 f1 hlf h0 h1 hlh
        have hlf := blk_lt (Lib.hid i7).out
        have f0 := blk_cell (Lib.hid i7).out 0
        have f1 := blk_cell (Lib.hid i7).out 1
        simp at f0 f1
        go_wp2_with fail
        refine (c7.out A7 n7 k7 B7 1 d7 v1 ((t7.out.1.below hv1).more hz1) ((t7.out.2.below hv1).more hz1)).mono ?_
        rintro e v2 ⟨T2, c2, rfl, hv2⟩
        have hz2 := hv2.size
        have j7 := blk_below i7 hv2
        have j9 := blk_below i9 hv2
        have hv12 := hv1.trans (hv2.mono hz1)
        clear f0 f1 hlf
        have hlf := blk_lt (Lib.hid j7).out
        have f0 := blk_cell (Lib.hid j7).out 0
        have f1 := blk_cell (Lib.hid j7).out 1
        simp at f0 f1
        have hlh := blk_lt (Lib.hid j9).out
        have h0 := blk_cell (Lib.hid j9).out 0
        have h1 := blk_cell (Lib.hid j9).out 1
        simp at h0 h1
        clear i7 i9
        have j9H := Lib.hid j9
        clear j7 j9
        go_wp2_with fail
        refine (c8.out A9 1 k9 B9 0 d9 v2 ((t9.out.1.below hv12).more hv12.size) ((t9.out.2.below hv12).more hv12.size)).mono ?_
        rintro e v3 ⟨T3, c3, rfl, hv3⟩
        have hz3 := hv3.size
        have hv13 := hv12.trans (hv3.mono hv12.size)
        have k9' := blk_below j9H.out hv3
        clear f0 f1 hlf h0 h1 hlh
        have hlh := blk_lt (Lib.hid k9').out
        have h0 := blk_cell (Lib.hid k9').out 0
        have h1 := blk_cell (Lib.hid k9').out 1
        simp at h0 h1
        clear k9'
        go_wp2_with fail
        refine (c9.out A9 1 k9 B9 0 d9 v3 ((t9.out.1.below hv13).more hv13.size) ((t9.out.2.below hv13).more hv13.size)).mono ?_
        rintro e v4 ⟨rfl, hv4⟩
        have hG4 := hG9.trans ((hv13.trans (hv4.mono hv13.size)).mono hG9.size)
        clear h0 h1 hlh
        go_wp2_with fail
        refine (c10.out (some ⟨v4.heap.size, 0, none⟩) _ (RdA.zero v4)).mono ?_
        rintro e v6 ⟨rfl, hv6⟩
        have hGf := hG4.trans ((((Below.refl _ v4).alloc (Nat.le_refl _) _).trans (hv6.mono (by simp))).mono hG4.size)
        go_wp2
        go_ret
        exact ⟨rfl, hGf⟩
end Go.Proofs.Ytadldndmmobpdaa
