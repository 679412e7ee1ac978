/- The statement OrmapPuts, walked. -/
import Derived.Test.YtadldndmmobpdaaOnM
import Derived.Test.YtadldndmmobpdaaOnI
import Derived.Test.YtadldndmmobpdaaM14
import Derived.Test.YtadldndmmobpdaaM12
namespace Go.Proofs.Ytadldndmmobpdaa
open Go.RowKit

set_option maxRecDepth 100000 in
set_option maxHeartbeats 8000000 in
theorem ormapputs_any (A : Option Addr) (n c : Nat) (xs : List Pm) (B : Option Addr) (m d : Nat) (gs : List Tm) (a : Pm) (C : Option Addr) (k f : Nat) (l : List Tm) (w : World) (hA : RdP w w.heap.size A n xs) (hB : RdT w w.heap.size B m gs) (hLr : RdT w w.heap.size C k l) (hx : ∀ a ∈ xs, a.wf) (hg : ∀ t ∈ gs, t.wf) (hl : ∀ a ∈ xs, a.2.1.length ≤ maxLen) (ha : a.wf) (hal : a.2.1.length ≤ maxLen) (hlw : ∀ t ∈ l, t.wf) (hnc : n ≤ c) (hcm : c ≤ maxLen) (hmd : m ≤ d) (hdm : d ≤ maxLen) :
    Calls Try.prog 6 #[.agg #[.slice A n c, .slice B m d], .agg #[.int .i64 a.1.1.1, .int .u32 a.1.1.2, .int .i64 a.1.2, .string (bs a.2.1), .int .i64 a.2.2.1, .int .u32 a.2.2.2.1, .int .i64 a.2.2.2.2], .slice C k f] w fun e w' => e = .returned (.bool true) ∧ Below w.heap.size w w' := by
  have hW : Below w.heap.size w ((w.alloc (.cells #[.slice A n c, .slice B m d] 52)).alloc (.cells #[.int .i64 a.1.1.1, .int .u32 a.1.1.2, .int .i64 a.1.2, .string (bs a.2.1), .int .i64 a.2.2.1, .int .u32 a.2.2.2.1, .int .i64 a.2.2.2.2] 94)) := ((Below.refl _ w).alloc (Nat.le_refl _) _).alloc (by simp) _
  have hbA : ((w.alloc (.cells #[.slice A n c, .slice B m d] 52)).alloc (.cells #[.int .i64 a.1.1.1, .int .u32 a.1.1.2, .int .i64 a.1.2, .string (bs a.2.1), .int .i64 a.2.2.1, .int .u32 a.2.2.2.1, .int .i64 a.2.2.2.2] 94)).heap[w.heap.size]? = some (.cells #[.slice A n c, .slice B m d] 52 (0, 0)) := heap_old _ (by simp) (heap_at _ _ rfl)
  have hbV : ((w.alloc (.cells #[.slice A n c, .slice B m d] 52)).alloc (.cells #[.int .i64 a.1.1.1, .int .u32 a.1.1.2, .int .i64 a.1.2, .string (bs a.2.1), .int .i64 a.2.2.1, .int .u32 a.2.2.2.1, .int .i64 a.2.2.2.2] 94)).heap[w.heap.size + 1]? = some (.cells #[.int .i64 a.1.1.1, .int .u32 a.1.1.2, .int .i64 a.1.2, .string (bs a.2.1), .int .i64 a.2.2.1, .int .u32 a.2.2.2.1, .int .i64 a.2.2.2.2] 94 (0, 0)) := heap_at _ _ (by simp)
  generalize hWe : ((w.alloc (.cells #[.slice A n c, .slice B m d] 52)).alloc (.cells #[.int .i64 a.1.1.1, .int .u32 a.1.1.2, .int .i64 a.1.2, .string (bs a.2.1), .int .i64 a.2.2.1, .int .u32 a.2.2.2.1, .int .i64 a.2.2.2.2] 94)) = W at hW hbA hbV
  have hAk := Lib.hid hbA
  have hVk := Lib.hid hbV
  have hzW := hW.size
  have g1 := Lib.hid (mgreat_any A n c B m d)
  have hltx := blk_lt hbA
  have s0 := blk_cell hbA 0
  have s1 := blk_cell hbA 1
  simp at s0 s1
  have a0 := blk_cell hbV 0
  have a1 := blk_cell hbV 1
  have a2 := blk_cell hbV 2
  have a3 := blk_cell hbV 3
  have a4 := blk_cell hbV 4
  have a5 := blk_cell hbV 5
  have a6 := blk_cell hbV 6
  simp at a0 a1 a2 a3 a4 a5 a6
  have hlta := blk_lt hbV
  clear hbA hbV
  cases hga : grM n m with
  | true =>
    rw [hga] at g1
    go_enter Try.func6, Try.ntmps6
    go_wp2_with fail
    refine (g1.out _).mono ?_
    rintro e w1 ⟨rfl, hv1⟩
    have hG := hW.trans (hv1.mono hzW)
    go_wp2
    go_ret
    exact ⟨rfl, hG⟩
  | false =>
    rw [hga] at g1
    have hnm : n ≤ 100 ∧ m ≤ 200 := by unfold grM at hga; rw [decide_eq_false_iff_not] at hga; omega
    obtain ⟨hn, hm⟩ := hnm
    clear hga
    by_cases hk2 : 200 < k
    · have hd : decide ((200 : Int) < (k : Int)) = true := decide_eq_true (by omega)
      go_enter Try.func6, Try.ntmps6
      go_wp2_with fail
      refine (g1.out _).mono ?_
      rintro e w1 ⟨rfl, hv1⟩
      have hG := hW.trans (hv1.mono hzW)
      go_wp2
      go_ret
      exact ⟨rfl, hG⟩
    have hd : decide ((200 : Int) < (k : Int)) = false := decide_eq_false (by omega)
    by_cases hl2 : 1000 < a.2.1.length
    · have hd2 : decide ((1000 : Int) < (((bs a.2.1).size : Nat) : Int)) = true := decide_eq_true (by rw [bs_size]; omega)
      go_enter Try.func6, Try.ntmps6
      go_wp2_with fail
      refine (g1.out _).mono ?_
      rintro e w1 ⟨rfl, hv1⟩
      have hG := hW.trans (hv1.mono hzW)
      have hv2 := blk_below hVk.out hv1
      clear a0 a1 a2 a3 a4 a5 a6 hlta
      have a0 := blk_cell hv2 0
      have a1 := blk_cell hv2 1
      have a2 := blk_cell hv2 2
      have a3 := blk_cell hv2 3
      have a4 := blk_cell hv2 4
      have a5 := blk_cell hv2 5
      have a6 := blk_cell hv2 6
      simp at a0 a1 a2 a3 a4 a5 a6
      have hlta := blk_lt hv2
      go_wp2
      go_ret
      exact ⟨rfl, hG⟩
    have hd2 : decide ((1000 : Int) < (((bs a.2.1).size : Nat) : Int)) = false := decide_eq_false (by rw [bs_size]; omega)
    have cT := Lib.hid (fun w' (h : Below W.heap.size W w') => mto_any A n c xs B m d gs w' ((hA.below (hW.trans (h.mono hzW))).more (hW.trans (h.mono hzW)).size) ((hB.below (hW.trans (h.mono hzW))).more (hW.trans (h.mono hzW)).size) (by omega) (by omega))
    have cP := Lib.hid (fun A' c' B' d' w' (h1 : RdP w' w'.heap.size A' n xs) (h2 : RdT w' w'.heap.size B' m gs) => mapply_any A' n c' xs B' m d' gs a w' h1 h2 (by omega) (by omega) hx hg hl ha hal)
    have cQ := Lib.hid (fun w' (h : Below W.heap.size W w') => rmapply_any A n c xs B m d gs a w' ((hA.below (hW.trans (h.mono hzW))).more (hW.trans (h.mono hzW)).size) ((hB.below (hW.trans (h.mono hzW))).more (hW.trans (h.mono hzW)).size) (by omega) (by omega) hx hg hl ha hal hnc hcm hmd hdm)
    have cD := Lib.hid (fun A' c' B' d' C' f' w' (h1 : RdP w' w'.heap.size A' n xs) (h2 : RdT w' w'.heap.size B' m gs) (h3 : RdT w' w'.heap.size C' k l) => mdrop_any A' n c' xs B' m d' gs C' k f' l w' h1 h2 h3 (by omega) (by omega) (by omega) hx hg hlw hl)
    have cE := Lib.hid (fun w' (h : Below W.heap.size W w') => rmdrop_any A n c xs B m d gs C k f l w' ((hA.below (hW.trans (h.mono hzW))).more (hW.trans (h.mono hzW)).size) ((hB.below (hW.trans (h.mono hzW))).more (hW.trans (h.mono hzW)).size) ((hLr.below (hW.trans (h.mono hzW))).more (hW.trans (h.mono hzW)).size) (by omega) (by omega) (by omega) hx hg hlw hl hmd hdm)
    have cK := Lib.hid (fun A' c' B' d' w' (h1 : RdP w' w'.heap.size A' n xs) (h2 : RdT w' w'.heap.size B' m gs) => mcheck_any A' n c' xs B' m d' gs w' h1 h2 (by simp [maxLen]; omega) (by simp [maxLen]; omega) hx hg hl)
    have cL := Lib.hid (fun w' (h : Below W.heap.size W w') => rmcheck_any A n c xs B m d gs w' ((hA.below (hW.trans (h.mono hzW))).more (hW.trans (h.mono hzW)).size) ((hB.below (hW.trans (h.mono hzW))).more (hW.trans (h.mono hzW)).size) (by omega) (by simp [maxLen]; omega) hx hg hl)
    have hAr := Lib.hid (fun w' (h : Below w.heap.size w w') => hA.below h)
    have hBr := Lib.hid (fun w' (h : Below w.heap.size w w') => hB.below h)
    have hLrH := Lib.hid (fun w' (h : Below w.heap.size w w') => hLr.below h)
    clear hA hB hx hg hl hcm hdm hLr ha hal hlw
    generalize putM xs gs a = X at *
    generalize dropM xs gs l = Y at *
    generalize mErr xs gs = er at *
    go_enter Try.func6, Try.ntmps6
    go_wp2_with fail
    refine (g1.out _).mono ?_
    rintro e w0 ⟨rfl, hv0⟩
    have hs0 := blk_below hAk.out hv0
    have hvv0 := blk_below hVk.out hv0
    clear s0 s1 hltx a0 a1 a2 a3 a4 a5 a6 hlta g1
    have hltx := blk_lt hs0
    have s0 := blk_cell hs0 0
    have s1 := blk_cell hs0 1
    simp at s0 s1
    have a0 := blk_cell hvv0 0
    have a1 := blk_cell hvv0 1
    have a2 := blk_cell hvv0 2
    have a3 := blk_cell hvv0 3
    have a4 := blk_cell hvv0 4
    have a5 := blk_cell hvv0 5
    have a6 := blk_cell hvv0 6
    simp at a0 a1 a2 a3 a4 a5 a6
    have hlta := blk_lt hvv0
    clear hs0 hvv0
    have hz0 := hv0.size
    go_wp2_with fail
    refine (cT.out w0 hv0).mono ?_
    rintro e w1 ⟨A1, c1, B1, d1, rfl, o1, p1, hb1⟩
    go_upto_region 4 with (fail)
    obtain ⟨w2, hw2⟩ : ∃ w2, w1.alloc (.cells #[.slice A1 n c1, .slice B1 m d1] 56) = w2 := ⟨_, rfl⟩
    have hbt2 : w2.heap[w1.heap.size]? = some (.cells #[.slice A1 n c1, .slice B1 m d1] 56 (0, 0)) := by rw [← hw2]; exact heap_at _ _ rfl
    have hb2 : Below w1.heap.size w1 w2 := by rw [← hw2]; exact (Below.refl _ w1).alloc (Nat.le_refl _) _
    rw [hw2]
    clear hw2
    have hX1 := (o1.below hb2).rdP
    have hX2 := (p1.below hb2).rdT
    have hz1 := hb1.size
    have hB2 : Below w0.heap.size w0 w2 := hb1.trans (hb2.mono hz1)
    have hG2 : Below W.heap.size W w2 := hv0.trans (hB2.mono hz0)
    have hs2 := blk_below hAk.out hG2
    have hvv2 := blk_below hVk.out hG2
    clear s0 s1 hltx a0 a1 a2 a3 a4 a5 a6 hlta o1 p1 hb1 hv0
    have hltx := blk_lt hs2
    have s0 := blk_cell hs2 0
    have s1 := blk_cell hs2 1
    simp at s0 s1
    have a0 := blk_cell hvv2 0
    have a1 := blk_cell hvv2 1
    have a2 := blk_cell hvv2 2
    have a3 := blk_cell hvv2 3
    have a4 := blk_cell hvv2 4
    have a5 := blk_cell hvv2 5
    have a6 := blk_cell hvv2 6
    simp at a0 a1 a2 a3 a4 a5 a6
    have hlta := blk_lt hvv2
    have hltt := blk_lt hbt2
    have t0 := blk_cell hbt2 0
    have t1 := blk_cell hbt2 1
    simp at t0 t1
    have htH := Lib.hid (And.intro hX1 hX2)
    have hbtH := Lib.hid hbt2
    clear hX1 hX2 hbt2 hs2 hvv2
    have cPd := Lib.hid (fun w' (hh : KQ w2.heap.size w2 w') => cP.out A1 c1 B1 d1 w' ((htH.out.1.below hh.1).more hh.1.size) ((htH.out.2.below hh.1).more hh.1.size))
    have cU := Lib.hid (put_any a)
    go_upto_region 4 with (fail)
    go_cut [8, 9] (fun sa sb wx => ∃ g A' n' c' B' m' d', sa = .pointer (some ⟨g, 0, none⟩) ∧ w2.heap.size ≤ g ∧ sb = .int .i64 X.2 ∧ wx.heap[g]? = some (.cells #[.slice A' n' c', .slice B' m' d'] 56 (0, 0)) ∧ RdP wx wx.heap.size A' n' X.1.1 ∧ RdT wx wx.heap.size B' m' X.1.2 ∧ n' ≤ 5000 ∧ m' ≤ 9000 ∧ Below w2.heap.size w2 wx)
    case first =>
      have hq0 : KQ w2.heap.size w2 w2 := kq (Below.refl _ _)
      go_region_held3 (fun w' => KQ w2.heap.size w2 w') (first
      | with_reducible exact kq_call (by assumption) (by simp) (by assumption)
      | with_reducible exact kq_grown (by assumption) (by simp) (by assumption) (by simp [Value.ownBlock])
      | ((repeat (first | (with_reducible refine kq_set ?_ (by first | (simp; done) | (simp; omega) | omega) _) | (with_reducible refine kq_alloc ?_ (by first | exact Nat.le_refl _ | (simp; done) | (simp; omega)) _))); (with_reducible assumption))
      | ((with_reducible refine kq ?_); (repeat (first | (with_reducible exact Below.refl _ _) | (with_reducible refine Below.drew ?_) | (with_reducible refine Below.alloc ?_ (by simp) _) | (with_reducible refine Below.setCell ?_ (by simp) _) | (with_reducible exact (by assumption : KQ _ _ _).1))); done))
        (first
          | (go_at_call 47
             refine (cU.out _).mono ?_
             rintro e v1 ⟨rfl, hv1⟩
             have hz1 := hv1.size
             (try simp at hz1)
             have hq1 : KQ w2.heap.size w2 v1 := kq_call (by first | with_reducible assumption | exact kq_drew (Below.refl _ _) | exact kq_drew ((Below.refl _ _).alloc (Nat.le_refl _) _) | exact kq (((Below.refl _ _).drew).alloc (by simp) _)) (Nat.le_refl _) hv1
             (try (have hx1 : v1.heap[w2.heap.size]? = some (.cells #[.slice none 0 0, .slice none 0 0] 56 (0, 0)) := (hv1.block _ (by simp; done)).trans (by first | exact heap_drew (heap_at _ _ rfl) | exact heap_at _ _ rfl)))
            )
          | (go_at_call 46
             (with_reducible refine (cPd.out _ (by first | with_reducible assumption | exact kq_alloc (by with_reducible assumption) (Nat.le_refl _) _ | fail : KQ w2.heap.size w2 _)).mono ?_)
             rintro e v5 ⟨A5, n5, c5, B5, m5, d5, rfl, hY1, hY2, hn5, hm5, _, _, _, _, hb5⟩
             have hz5 := hb5.size
             (try simp at hz5)
             have hq5 : KQ w2.heap.size w2 v5 := kq_call (by first | with_reducible assumption | exact kq_alloc (by with_reducible assumption) (Nat.le_refl _) _ | exact kq_alloc (kq_alloc (by with_reducible assumption) (Nat.le_refl _) _) (Nat.le_refl _) _ | fail) (Nat.le_refl _) hb5
             (first
               | (have hx5 : v5.heap[w2.heap.size]? = some (.cells #[.slice none 0 0, .slice none 0 0] 56 (0, 0)) := (hb5.block _ (by first | exact blk_lt hx1 | (have h9 := blk_lt hx1; simp only [World.size_alloc]; omega) | fail)).trans (by first | exact hx1 | exact heap_old _ (blk_lt hx1) hx1 | fail)
                  have hfx := blk_frozen hx5
                  have hlx := blk_lt hx5
                  have x0 := blk_cell hx5 0
                  have x1 := blk_cell hx5 1
                  simp at x0 x1)
               | (have hx5 : v5.heap[v1.heap.size]? = some (.cells #[.slice none 0 0, .slice none 0 0] 56 (0, 0)) := (hb5.block _ (by first | (simp only [World.size_alloc]; omega) | fail)).trans (by first | exact heap_at _ _ rfl | exact heap_old _ (by first | (simp only [World.size_alloc]; omega) | fail) (heap_at _ _ rfl) | fail)
                  have hfx := blk_frozen hx5
                  have hlx := blk_lt hx5
                  have x0 := blk_cell hx5 0
                  have x1 := blk_cell hx5 1
                  simp at x0 x1)
               | (have hx5 : v5.heap[v1.heap.size + 1]? = some (.cells #[.slice none 0 0, .slice none 0 0] 56 (0, 0)) := (hb5.block _ (by first | (simp only [World.size_alloc]; omega) | fail)).trans (by first | exact heap_at _ _ (by first | (simp only [World.size_alloc]; done) | fail) | fail)
                  have hfx := blk_frozen hx5
                  have hlx := blk_lt hx5
                  have x0 := blk_cell hx5 0
                  have x1 := blk_cell hx5 1
                  simp at x0 x1)
               | skip)
            )
          | fail "no arm")
      all_goals
      (have hYH := Lib.hid (And.intro hY1 hY2)
       have hk5 : Below w2.heap.size w2 v5 := hq5.1
       have hk5H := Lib.hid hk5
       have hzk := hk5.size
       go_wp2_with fail
       go_meet
       first
         | (have hb3 : Below v5.heap.size v5 (v5.alloc (.cells #[.slice A5 n5 c5, .slice B5 m5 d5] 56)) := (Below.refl _ v5).alloc (Nat.le_refl _) _
            exact ⟨v5.heap.size, A5, n5, c5, B5, m5, d5, rfl, hzk, rfl, heap_at _ _ rfl, (hYH.out.1.below hb3).more hb3.size, (hYH.out.2.below hb3).more hb3.size, hn5, hm5, hk5H.out.trans (hb3.mono hzk)⟩)
         | (have ha3 := (hYH.out.1.set_other hx5 0 (.slice A5 n5 c5)).set_other (blk_set hx5 0 (.slice A5 n5 c5)) 1 (.slice B5 m5 d5)
            have hb3 := (hYH.out.2.set_other hx5 0 (.slice A5 n5 c5)).set_other (blk_set hx5 0 (.slice A5 n5 c5)) 1 (.slice B5 m5 d5)
            have hx3 := blk_set (blk_set hx5 0 (.slice A5 n5 c5)) 1 (.slice B5 m5 d5)
            exact ⟨_, A5, n5, c5, B5, m5, d5, rfl, by omega, rfl, hx3, by rw [World.size_setCell, World.size_setCell]; exact ha3, by rw [World.size_setCell, World.size_setCell]; exact hb3, hn5, hm5, (hk5H.out.setCell (by dsimp only; omega) _).setCell (by dsimp only; omega) _⟩))
    obtain ⟨g4, A2, n2, c2, B2, m2, d2, rfl, hg4, rfl, hbx4, hX1, hX2, hn2, hm2, hB4⟩ := hcut
    obtain ⟨w4, hw4⟩ : ∃ w4, w4 = wc := ⟨_, rfl⟩
    obtain rfl := hw4
    have hG4 : Below W.heap.size W w4 := hG2.trans (hB4.mono hG2.size)
    have hXH := Lib.hid (And.intro hX1 hX2)
    have hbx4H := Lib.hid hbx4
    have hs4 := blk_below hAk.out hG4
    have hvv4 := blk_below hVk.out hG4
    clear s0 s1 hltx a0 a1 a2 a3 a4 a5 a6 hlta t0 t1 hltt hX1 hX2 hbx4 cPd cU
    have hltx := blk_lt hs4
    have s0 := blk_cell hs4 0
    have s1 := blk_cell hs4 1
    simp at s0 s1
    have a0 := blk_cell hvv4 0
    have a1 := blk_cell hvv4 1
    have a2 := blk_cell hvv4 2
    have a3 := blk_cell hvv4 3
    have a4 := blk_cell hvv4 4
    have a5 := blk_cell hvv4 5
    have a6 := blk_cell hvv4 6
    simp at a0 a1 a2 a3 a4 a5 a6
    have hlta := blk_lt hvv4
    clear hs4 hvv4
    go_wp2_with fail
    refine (cQ.out w4 hG4).mono ?_
    rintro e w5 ⟨A3, n3, c3, B3, m3, d3, rfl, hX1, hX2, hn3, hm3, _, _, _, _, hb5⟩
    go_upto_region 6 with (fail)
    obtain ⟨w6, hwn⟩ : ∃ w9, w5.alloc (.cells #[.slice A3 n3 c3, .slice B3 m3 d3] 52) = w9 := ⟨_, rfl⟩
    have hbx6 : w6.heap[w5.heap.size]? = some (.cells #[.slice A3 n3 c3, .slice B3 m3 d3] 52 (0, 0)) := by rw [← hwn]; exact heap_at _ _ rfl
    have hb56 : Below w5.heap.size w5 w6 := by rw [← hwn]; exact (Below.refl _ w5).alloc (Nat.le_refl _) _
    rw [hwn]
    clear hwn
    have hz5 := hb5.size
    have hz56 := hb56.size
    have hB6 : Below w4.heap.size w4 w6 := hb5.trans (hb56.mono hz5)
    have hG6 : Below W.heap.size W w6 := hG4.trans (hB6.mono hG4.size)
    have hX3H := Lib.hid (And.intro ((hX1.below hb56).more hz56) ((hX2.below hb56).more hz56))
    have hX2H := Lib.hid (And.intro ((hXH.out.1.below hB6).more hB6.size) ((hXH.out.2.below hB6).more hB6.size))
    have hb26 : Below w2.heap.size w2 w6 := hB4.trans (hB6.mono hB4.size)
    have htH6 := Lib.hid (And.intro ((htH.out.1.below hb26).more hb26.size) ((htH.out.2.below hb26).more hb26.size))
    have hbt6 := Lib.hid (blk_below hbtH.out hb26)
    have hbx6a := Lib.hid (blk_below hbx4H.out hB6)
    have hbx6H := Lib.hid hbx6
    have hz6 := hG6.size
    clear s0 s1 hltx a0 a1 a2 a3 a4 a5 a6 hlta hX1 hX2 hbx6 hb5 hB4 hb56 hXH htH hbtH hbx4H cP cQ
    have hbt6' := hbt6.out
    have hltt := blk_lt hbt6'
    have t0 := blk_cell hbt6' 0
    have t1 := blk_cell hbt6' 1
    simp at t0 t1
    clear hbt6'
    have hC6 : RdT w6 w6.heap.size C k l := (hLrH.out _ (hW.trans (hG6.mono hzW))).more (hW.trans (hG6.mono hzW)).size
    have cD2 := Lib.hid (fun C' f' w' (hh : KQ w6.heap.size w6 w') (h3 : RdT w' w'.heap.size C' k l) => cD.out A1 c1 B1 d1 C' f' w' ((htH6.out.1.below hh.1).more hh.1.size) ((htH6.out.2.below hh.1).more hh.1.size) h3)
    go_cut [12, 13] (fun sa sb wx => ∃ g A' n' c' B' m' d', sa = .pointer (some ⟨g, 0, none⟩) ∧ w6.heap.size ≤ g ∧ sb = .int .i64 Y.2 ∧ wx.heap[g]? = some (.cells #[.slice A' n' c', .slice B' m' d'] 56 (0, 0)) ∧ RdP wx wx.heap.size A' n' Y.1.1 ∧ RdT wx wx.heap.size B' m' Y.1.2 ∧ n' ≤ 5000 ∧ m' ≤ 9000 ∧ Below w6.heap.size w6 wx)
    case first =>
      have hq0 : KQ w6.heap.size w6 w6 := kq (Below.refl _ _)
      go_region_held3 (fun w' => KQ w6.heap.size w6 w') (first
      | with_reducible exact kq_call (by assumption) (by simp) (by assumption)
      | with_reducible exact kq_grown (by assumption) (by simp) (by assumption) (by simp [Value.ownBlock])
      | ((repeat (first | (with_reducible refine kq_set ?_ (by first | (simp; done) | (simp; omega) | omega) _) | (with_reducible refine kq_alloc ?_ (by first | exact Nat.le_refl _ | (simp; done) | (simp; omega)) _))); (with_reducible assumption))
      | ((with_reducible refine kq ?_); (repeat (first | (with_reducible exact Below.refl _ _) | (with_reducible refine Below.drew ?_) | (with_reducible refine Below.alloc ?_ (by simp) _) | (with_reducible refine Below.setCell ?_ (by simp) _) | (with_reducible exact (by assumption : KQ _ _ _).1))); done))
          (first
            | (go_at_call 49
               (with_reducible refine (cD2.out A4 c4' _ (by first | exact hq4 | exact kq_alloc hq4 (Nat.le_refl _) _ | exact kq_alloc (kq_drew hq4.1) (Nat.le_refl _) _ : KQ w6.heap.size w6 _) (by first | exact hown4'.rdT | exact (hown4'.below ((Below.refl _ _).alloc (Nat.le_refl _) _)).rdT)).mono ?_)
               rintro e v5 ⟨A5, n5, c5, B5, m5, d5, rfl, hY1, hY2, hn5, hm5, _, _, _, _, hb5⟩
               have hz5 := hb5.size
               (try simp at hz5)
               have hq5 : KQ w6.heap.size w6 v5 := kq_call (by assumption) (Nat.le_refl _) hb5
               (first
                 | (have hx5 := (hb5.block _ (blk_lt hx4)).trans hx4
                    have hfx := blk_frozen hx5
                    have x0 := blk_cell hx5 0
                    have x1 := blk_cell hx5 1
                    simp at x0 x1)
                 | (have hx5 : v5.heap[v4.heap.size]? = some (.cells #[.slice none 0 0, .slice none 0 0] 56 (0, 0)) := (hb5.block _ (by simp; done)).trans (heap_at _ _ rfl)
                    have hfx := blk_frozen hx5
                    have x0 := blk_cell hx5 0
                    have x1 := blk_cell hx5 1
                    simp at x0 x1)
                 | skip))
            | (refine step_append_rd _ rfl _ _ _ rfl eTag (base := w6.heap.size) (v := .slice (some ⟨w6.heap.size, 0, none⟩) 0 0) (xs := []) rfl (Ow.made_at (by first | exact heap_drew (heap_at _ _ (by first | rfl | (simp; done))) | exact heap_drew (heap_old _ (by simp) (heap_drew (heap_at _ _ rfl)))) (by omega)) rfl (kq_rd (n := w6.heap.size) hC6 (Nat.le_refl _) (by assumption)) Tm.len Tm.one (by simp [maxLen]; omega) (by simp; omega) (by first | (simp; done) | (simp; omega)) ?_
               intro A4 n4 c4' v4 hn4 hown4 hg4 hat4
               obtain rfl : k = n4 := by simpa using hn4.symm
               clear hn4 hat4
               have hz4 := hg4.size
               simp at hz4
               have hown4' : Ow v4 w6.heap.size 79 3 (.slice A4 k c4') ((l).map Tm.enc) := by simpa using hown4
               clear hown4
               (try (have hx4 : v4.heap[w6.heap.size + 1]? = some (.cells #[.slice none 0 0, .slice none 0 0] 56 (0, 0)) := (hg4.block _ (by simp; done) (by simp [Value.ownBlock]; done)).trans (heap_drew (heap_at _ _ (by simp; done)))))
               (try (have hx4 : v4.heap[w6.heap.size]? = some (.cells #[.slice none 0 0, .slice none 0 0] 56 (0, 0)) := (hg4.block _ (by simp; omega) (by simp [Value.ownBlock]; done)).trans (heap_drew (heap_old _ (by simp; done) (heap_drew (heap_at _ _ rfl))))))
               have hq4 : KQ w6.heap.size w6 v4 := by
                 refine kq_grown ?_ (Nat.le_refl _) hg4 ?_
                 · assumption
                 · intro k hk; simp [Value.ownBlock] at hk; omega
               clear hg4)
            | (refine step_append_rd _ rfl _ _ _ rfl eTag (base := w6.heap.size) (v := .slice (some ⟨w6.heap.size + 1, 0, none⟩) 0 0) (xs := []) rfl (Ow.made_at (by first | exact heap_drew (heap_at _ _ (by first | rfl | (simp; done))) | exact heap_drew (heap_old _ (by simp) (heap_drew (heap_at _ _ rfl)))) (by omega)) rfl (kq_rd (n := w6.heap.size) hC6 (Nat.le_refl _) (by assumption)) Tm.len Tm.one (by simp [maxLen]; omega) (by simp; omega) (by first | (simp; done) | (simp; omega)) ?_
               intro A4 n4 c4' v4 hn4 hown4 hg4 hat4
               obtain rfl : k = n4 := by simpa using hn4.symm
               clear hn4 hat4
               have hz4 := hg4.size
               simp at hz4
               have hown4' : Ow v4 w6.heap.size 79 3 (.slice A4 k c4') ((l).map Tm.enc) := by simpa using hown4
               clear hown4
               (try (have hx4 : v4.heap[w6.heap.size + 1]? = some (.cells #[.slice none 0 0, .slice none 0 0] 56 (0, 0)) := (hg4.block _ (by simp; done) (by simp [Value.ownBlock]; done)).trans (heap_drew (heap_at _ _ (by simp; done)))))
               (try (have hx4 : v4.heap[w6.heap.size]? = some (.cells #[.slice none 0 0, .slice none 0 0] 56 (0, 0)) := (hg4.block _ (by simp; omega) (by simp [Value.ownBlock]; done)).trans (heap_drew (heap_old _ (by simp; done) (heap_drew (heap_at _ _ rfl))))))
               have hq4 : KQ w6.heap.size w6 v4 := by
                 refine kq_grown ?_ (Nat.le_refl _) hg4 ?_
                 · assumption
                 · intro k hk; simp [Value.ownBlock] at hk; omega
               clear hg4)
            | fail "no arm")
      all_goals
      (have hYH := Lib.hid (And.intro hY1 hY2)
       have hk5 : Below w6.heap.size w6 v5 := hq5.1
       have hk5H := Lib.hid hk5
       have hzk := hk5.size
       go_wp2_with fail
       go_meet
       first
         | (have hb3 : Below v5.heap.size v5 (v5.alloc (.cells #[.slice A5 n5 c5, .slice B5 m5 d5] 56)) := (Below.refl _ v5).alloc (Nat.le_refl _) _
            exact ⟨v5.heap.size, A5, n5, c5, B5, m5, d5, rfl, hzk, rfl, heap_at _ _ rfl, (hYH.out.1.below hb3).more hb3.size, (hYH.out.2.below hb3).more hb3.size, hn5, hm5, hk5H.out.trans (hb3.mono hzk)⟩)
         | (have ha3 := (hYH.out.1.set_other hx5 0 (.slice A5 n5 c5)).set_other (blk_set hx5 0 (.slice A5 n5 c5)) 1 (.slice B5 m5 d5)
            have hb3 := (hYH.out.2.set_other hx5 0 (.slice A5 n5 c5)).set_other (blk_set hx5 0 (.slice A5 n5 c5)) 1 (.slice B5 m5 d5)
            have hx3 := blk_set (blk_set hx5 0 (.slice A5 n5 c5)) 1 (.slice B5 m5 d5)
            exact ⟨_, A5, n5, c5, B5, m5, d5, rfl, by omega, rfl, hx3, by rw [World.size_setCell, World.size_setCell]; exact ha3, by rw [World.size_setCell, World.size_setCell]; exact hb3, hn5, hm5, (hk5H.out.setCell (by dsimp only; omega) _).setCell (by dsimp only; omega) _⟩))
    case rest =>
      obtain ⟨g12, A4, n4, c4, B4, m4, d4, rfl, hg12, rfl, hbY, hY1, hY2, hn4, hm4, hB7⟩ := hcut
      obtain ⟨w7, hw7⟩ : ∃ w7, w7 = wc := ⟨_, rfl⟩
      obtain rfl := hw7
      clear cD cD2 t0 t1 hltt
      have hG7 : Below W.heap.size W w7 := hG6.trans (hB7.mono hz6)
      have hs7 := blk_below hAk.out hG7
      have hltx := blk_lt hs7
      have s0 := blk_cell hs7 0
      have s1 := blk_cell hs7 1
      simp at s0 s1
      have hYH := Lib.hid (And.intro hY1 hY2)
      have hbYH := Lib.hid hbY
      clear hs7 hY1 hY2 hbY
      go_wp2_with fail
      refine (cE.out w7 hG7).mono ?_
      rintro e w8 ⟨A5, n5, c5, B5, m5, d5, rfl, hY1, hY2, hn5, hm5, _, _, _, _, hb8⟩
      go_upto_region 8 with (fail)
      obtain ⟨w9, hwn⟩ : ∃ w9, w8.alloc (.cells #[.slice A5 n5 c5, .slice B5 m5 d5] 52) = w9 := ⟨_, rfl⟩
      have hbz : w9.heap[w8.heap.size]? = some (.cells #[.slice A5 n5 c5, .slice B5 m5 d5] 52 (0, 0)) := by rw [← hwn]; exact heap_at _ _ rfl
      have hb89 : Below w8.heap.size w8 w9 := by rw [← hwn]; exact (Below.refl _ w8).alloc (Nat.le_refl _) _
      rw [hwn]
      clear hwn
      have hz8 := hb8.size
      have hz89 := hb89.size
      have hB79 : Below w7.heap.size w7 w9 := hb8.trans (hb89.mono hz8)
      have hz7 := hB7.size
      have hB69 : Below w6.heap.size w6 w9 := hB7.trans (hB79.mono hz7)
      have hG9 : Below W.heap.size W w9 := hG6.trans (hB69.mono hz6)
      have e5 := Lib.hid (And.intro ((hY1.below hb89).more hz89) ((hY2.below hb89).more hz89))
      have e4 := Lib.hid (And.intro ((hYH.out.1.below hB79).more hB79.size) ((hYH.out.2.below hB79).more hB79.size))
      have e3 := Lib.hid (And.intro ((hX3H.out.1.below hB69).more hB69.size) ((hX3H.out.2.below hB69).more hB69.size))
      have e2 := Lib.hid (And.intro ((hX2H.out.1.below hB69).more hB69.size) ((hX2H.out.2.below hB69).more hB69.size))
      have e1 := Lib.hid (And.intro ((htH6.out.1.below hB69).more hB69.size) ((htH6.out.2.below hB69).more hB69.size))
      have e0 := Lib.hid (And.intro (RdP.more (hAr.out _ (hW.trans (hG9.mono hzW))) (hW.trans (hG9.mono hzW)).size) (RdT.more (hBr.out _ (hW.trans (hG9.mono hzW))) (hW.trans (hG9.mono hzW)).size))
      have q1 := blk_below hbt6.out hB69
      have q2 := blk_below hbx6a.out hB69
      have q3 := blk_below hbx6H.out hB69
      have q4 := blk_below hbYH.out hB79
      have q6 := blk_below hAk.out hG9
      have q7 := blk_below hVk.out hG9
      clear s0 s1 hltx
      have hltx := blk_lt q6
      have s0 := blk_cell q6 0
      have s1 := blk_cell q6 1
      simp at s0 s1
      have a0 := blk_cell q7 0
      have a1 := blk_cell q7 1
      have a2 := blk_cell q7 2
      have a3 := blk_cell q7 3
      have a4 := blk_cell q7 4
      have a5 := blk_cell q7 5
      have a6 := blk_cell q7 6
      simp at a0 a1 a2 a3 a4 a5 a6
      have hlta := blk_lt q7
      have l1 := blk_lt q1
      have l2 := blk_lt q2
      have l3 := blk_lt q3
      have l4 := blk_lt q4
      have l5 := blk_lt hbz
      have b10 := blk_cell q1 0
      have b20 := blk_cell q2 0
      have b30 := blk_cell q3 0
      have b40 := blk_cell q4 0
      have b11 := blk_cell q1 1
      have b21 := blk_cell q2 1
      have b31 := blk_cell q3 1
      have b41 := blk_cell q4 1
      have b50 := blk_cell hbz 0
      have b51 := blk_cell hbz 1
      simp at b10 b11 b20 b21 b30 b31 b40 b41 b50 b51
      clear q1 q2 q3 q4 q6 q7 hbz hY1 hY2 hYH hbYH hX3H hX2H htH6 hbt6 hbx6a hbx6H hb8 hb89 hB79 hB69 cE
      have hq0 : KQ w9.heap.size w9 w9 := kq (Below.refl _ _)
      go_wp2_with fail
      refine wp_region_M (fun w' => KQ w9.heap.size w9 w') (fun _ => True) 99 (by kernel_rfl) (kq (Below.refl _ _).drew) trivial ?_
      intro hcl
      have hC : KQ w9.heap.size w9 w9.drew := kq (Below.refl _ _).drew
      have hE := trivial
      have hK0 : Below w9.heap.size w9 w9.drew := (Below.refl _ _).drew
      (refine wpM_take (i := 0) (v := ?_) rfl (by kernel_rfl) (by kernel_rfl) (by kernel_rfl) (by decide) (fun _ _ _ h => h) hcl hC (fun _ => hE) (Or.inl ⟨by rfl, ?_⟩) ?_; rotate_left; (· (intro w hSw; (try dsimp only at hSw); go_simp; (try with_reducible rfl))); clear hcl; intro hcl; (try simp only [Act.put, List.getElem_toArray, List.getElem_cons_zero, List.getElem_cons_succ, List.setIfInBounds_toArray, List.set_cons_zero, List.set_cons_succ]))
      (refine wpM_take (i := 2) (v := ?_) rfl (by kernel_rfl) (by kernel_rfl) (by kernel_rfl) (by decide) (fun _ _ _ h => h) hcl hC (fun _ => hE) (Or.inl ⟨by rfl, ?_⟩) ?_; rotate_left; (· (intro w hSw; (try dsimp only at hSw); go_simp; (try with_reducible rfl))); clear hcl; intro hcl; (try simp only [Act.put, List.getElem_toArray, List.getElem_cons_zero, List.getElem_cons_succ, List.setIfInBounds_toArray, List.set_cons_zero, List.set_cons_succ]))
      refine wpM_only (i := 1) rfl (by kernel_rfl) hcl (fun K hK => ?_)
      go_simp
      refine (mfrom_any A2 n2 c2 X.1.1 B2 m2 d2 X.1.2 w9.drew ((e2.out.1.below hK0).more hK0.size) ((e2.out.2.below hK0).more hK0.size) (by omega) (by omega)).mono ?_
      rintro e v1 ⟨A6, c6, B6, d6, rfl, o6, p6, hv1⟩
      have hK1 : Below w9.heap.size w9 v1 := hK0.trans (hv1.mono hK0.size)
      have hC1 : KQ w9.heap.size w9 v1 := kq hK1
      refine hK.out _ _ hC1 trivial ?_
      clear hK K
      clear hcl
      intro hcl
      (try simp only [Act.put, List.getElem_toArray, List.getElem_cons_zero, List.getElem_cons_succ, List.setIfInBounds_toArray, List.set_cons_zero, List.set_cons_succ])
      clear hC
      have hC := hC1
      refine wpM_only (i := 3) rfl (by kernel_rfl) hcl (fun K hK => ?_)
      go_simp
      refine (msame_any A6 n2 c6 X.1.1 B6 m2 d6 X.1.2 A3 n3 c3 X.1.1 B3 m3 d3 X.1.2 v1 o6.rd.1 p6.rd.1 ((e3.out.1.below hK1).more hK1.size) ((e3.out.2.below hK1).more hK1.size) (by simp [maxLen]; omega) (by simp [maxLen]; omega) (by simp [maxLen]; omega) (by simp [maxLen]; omega)).mono ?_
      rintro e v2 ⟨rfl, hv2⟩
      rw [show (decide (X.1.1 = X.1.1) && decide (X.1.2 = X.1.2)) = true from by simp]
      have hK2 : Below w9.heap.size w9 v2 := hK1.trans (hv2.mono hK1.size)
      have hC2 : KQ w9.heap.size w9 v2 := kq hK2
      refine hK.out _ _ hC2 trivial ?_
      clear hK K
      clear hcl
      intro hcl
      (try simp only [Act.put, List.getElem_toArray, List.getElem_cons_zero, List.getElem_cons_succ, List.setIfInBounds_toArray, List.set_cons_zero, List.set_cons_succ])
      clear hC
      have hC := hC2
      clear o6 p6 hv1 hv2
      (refine wpM_take (i := 4) (v := ?_) rfl (by kernel_rfl) (by kernel_rfl) (by kernel_rfl) (by decide) (fun _ _ _ h => h) hcl hC (fun _ => hE) (Or.inl ⟨by rfl, ?_⟩) ?_; rotate_left; (· (intro w hSw; (try dsimp only at hSw); go_simp; (try with_reducible rfl))); clear hcl; intro hcl; (try simp only [Act.put, List.getElem_toArray, List.getElem_cons_zero, List.getElem_cons_succ, List.setIfInBounds_toArray, List.set_cons_zero, List.set_cons_succ]))
      (refine wpM_take (i := 5) (v := ?_) rfl (by kernel_rfl) (by kernel_rfl) (by kernel_rfl) (by decide) (fun _ _ _ h => h) hcl hC (fun _ => hE) (Or.inl ⟨by rfl, ?_⟩) ?_; rotate_left; (· (intro w hSw; (try dsimp only at hSw); go_simp; (try with_reducible rfl))); clear hcl; intro hcl; (try simp only [Act.put, List.getElem_toArray, List.getElem_cons_zero, List.getElem_cons_succ, List.setIfInBounds_toArray, List.set_cons_zero, List.set_cons_succ]))
      (refine wpM_take (i := 6) (v := ?_) rfl (by kernel_rfl) (by kernel_rfl) (by kernel_rfl) (by decide) (fun _ _ _ h => h) hcl hC (fun _ => hE) (Or.inl ⟨by rfl, ?_⟩) ?_; rotate_left; (· (intro w hSw; (try dsimp only at hSw); go_simp; (try with_reducible rfl))); clear hcl; intro hcl; (try simp only [Act.put, List.getElem_toArray, List.getElem_cons_zero, List.getElem_cons_succ, List.setIfInBounds_toArray, List.set_cons_zero, List.set_cons_succ]))
      (refine wpM_take (i := 7) (v := ?_) rfl (by kernel_rfl) (by kernel_rfl) (by kernel_rfl) (by decide) (fun _ _ _ h => h) hcl hC (fun _ => hE) (Or.inl ⟨by rfl, ?_⟩) ?_; rotate_left; (· (intro w hSw; (try dsimp only at hSw); go_simp; (try with_reducible rfl))); clear hcl; intro hcl; (try simp only [Act.put, List.getElem_toArray, List.getElem_cons_zero, List.getElem_cons_succ, List.setIfInBounds_toArray, List.set_cons_zero, List.set_cons_succ]))
      (refine wpM_take (i := 8) (v := ?_) rfl (by kernel_rfl) (by kernel_rfl) (by kernel_rfl) (by decide) (fun _ _ _ h => h) hcl hC (fun _ => hE) (Or.inl ⟨by rfl, ?_⟩) ?_; rotate_left; (· (intro w hSw; (try dsimp only at hSw); go_simp; (try with_reducible rfl))); clear hcl; intro hcl; (try simp only [Act.put, List.getElem_toArray, List.getElem_cons_zero, List.getElem_cons_succ, List.setIfInBounds_toArray, List.set_cons_zero, List.set_cons_succ]))
      (refine wpM_take (i := 9) (v := ?_) rfl (by kernel_rfl) (by kernel_rfl) (by kernel_rfl) (by decide) (fun _ _ _ h => h) hcl hC (fun _ => hE) (Or.inl ⟨by rfl, ?_⟩) ?_; rotate_left; (· (intro w hSw; (try dsimp only at hSw); go_simp; (try with_reducible rfl))); clear hcl; intro hcl; (try simp only [Act.put, List.getElem_toArray, List.getElem_cons_zero, List.getElem_cons_succ, List.setIfInBounds_toArray, List.set_cons_zero, List.set_cons_succ]))
      (refine wpM_take (i := 10) (v := ?_) rfl (by kernel_rfl) (by kernel_rfl) (by kernel_rfl) (by decide) (fun _ _ _ h => h) hcl hC (fun _ => hE) (Or.inl ⟨by rfl, ?_⟩) ?_; rotate_left; (· (intro w hSw; (try dsimp only at hSw); go_simp; (try with_reducible rfl))); clear hcl; intro hcl; (try simp only [Act.put, List.getElem_toArray, List.getElem_cons_zero, List.getElem_cons_succ, List.setIfInBounds_toArray, List.set_cons_zero, List.set_cons_succ]))
      (refine wpM_take (i := 12) (v := ?_) rfl (by kernel_rfl) (by kernel_rfl) (by kernel_rfl) (by decide) (fun _ _ _ h => h) hcl hC (fun _ => hE) (Or.inl ⟨by rfl, ?_⟩) ?_; rotate_left; (· (intro w hSw; (try dsimp only at hSw); go_simp; (try with_reducible rfl))); clear hcl; intro hcl; (try simp only [Act.put, List.getElem_toArray, List.getElem_cons_zero, List.getElem_cons_succ, List.setIfInBounds_toArray, List.set_cons_zero, List.set_cons_succ]))
      refine wpM_only (i := 11) rfl (by kernel_rfl) hcl (fun K hK => ?_)
      go_simp
      refine (mfrom_any A4 n4 c4 Y.1.1 B4 m4 d4 Y.1.2 v2 ((e4.out.1.below hK2).more hK2.size) ((e4.out.2.below hK2).more hK2.size) (by omega) (by omega)).mono ?_
      rintro e v3 ⟨A6, c6, B6, d6, rfl, o6, p6, hv3⟩
      have hK3 : Below w9.heap.size w9 v3 := hK2.trans (hv3.mono hK2.size)
      have hC3 : KQ w9.heap.size w9 v3 := kq hK3
      refine hK.out _ _ hC3 trivial ?_
      clear hK K
      clear hcl
      intro hcl
      (try simp only [Act.put, List.getElem_toArray, List.getElem_cons_zero, List.getElem_cons_succ, List.setIfInBounds_toArray, List.set_cons_zero, List.set_cons_succ])
      clear hC
      have hC := hC3
      refine wpM_only (i := 13) rfl (by kernel_rfl) hcl (fun K hK => ?_)
      go_simp
      refine (msame_any A6 n4 c6 Y.1.1 B6 m4 d6 Y.1.2 A5 n5 c5 Y.1.1 B5 m5 d5 Y.1.2 v3 o6.rd.1 p6.rd.1 ((e5.out.1.below hK3).more hK3.size) ((e5.out.2.below hK3).more hK3.size) (by simp [maxLen]; omega) (by simp [maxLen]; omega) (by simp [maxLen]; omega) (by simp [maxLen]; omega)).mono ?_
      rintro e v4 ⟨rfl, hv4⟩
      rw [show (decide (Y.1.1 = Y.1.1) && decide (Y.1.2 = Y.1.2)) = true from by simp]
      have hK4 : Below w9.heap.size w9 v4 := hK3.trans (hv4.mono hK3.size)
      have hC4 : KQ w9.heap.size w9 v4 := kq hK4
      refine hK.out _ _ hC4 trivial ?_
      clear hK K
      clear hcl
      intro hcl
      (try simp only [Act.put, List.getElem_toArray, List.getElem_cons_zero, List.getElem_cons_succ, List.setIfInBounds_toArray, List.set_cons_zero, List.set_cons_succ])
      clear hC
      have hC := hC4
      clear o6 p6 hv3 hv4
      (refine wpM_take (i := 14) (v := ?_) rfl (by kernel_rfl) (by kernel_rfl) (by kernel_rfl) (by decide) (fun _ _ _ h => h) hcl hC (fun _ => hE) (Or.inl ⟨by rfl, ?_⟩) ?_; rotate_left; (· (intro w hSw; (try dsimp only at hSw); go_simp; (try with_reducible rfl))); clear hcl; intro hcl; (try simp only [Act.put, List.getElem_toArray, List.getElem_cons_zero, List.getElem_cons_succ, List.setIfInBounds_toArray, List.set_cons_zero, List.set_cons_succ]))
      (refine wpM_take (i := 15) (v := ?_) rfl (by kernel_rfl) (by kernel_rfl) (by kernel_rfl) (by decide) (fun _ _ _ h => h) hcl hC (fun _ => hE) (Or.inl ⟨by rfl, ?_⟩) ?_; rotate_left; (· (intro w hSw; (try dsimp only at hSw); go_simp; (try with_reducible rfl))); clear hcl; intro hcl; (try simp only [Act.put, List.getElem_toArray, List.getElem_cons_zero, List.getElem_cons_succ, List.setIfInBounds_toArray, List.set_cons_zero, List.set_cons_succ]))
      (refine wpM_take (i := 16) (v := ?_) rfl (by kernel_rfl) (by kernel_rfl) (by kernel_rfl) (by decide) (fun _ _ _ h => h) hcl hC (fun _ => hE) (Or.inl ⟨by rfl, ?_⟩) ?_; rotate_left; (· (intro w hSw; (try dsimp only at hSw); go_simp; (try with_reducible rfl))); clear hcl; intro hcl; (try simp only [Act.put, List.getElem_toArray, List.getElem_cons_zero, List.getElem_cons_succ, List.setIfInBounds_toArray, List.set_cons_zero, List.set_cons_succ]))
      (refine wpM_take (i := 17) (v := ?_) rfl (by kernel_rfl) (by kernel_rfl) (by kernel_rfl) (by decide) (fun _ _ _ h => h) hcl hC (fun _ => hE) (Or.inl ⟨by rfl, ?_⟩) ?_; rotate_left; (· (intro w hSw; (try dsimp only at hSw); go_simp; (try with_reducible rfl))); clear hcl; intro hcl; (try simp only [Act.put, List.getElem_toArray, List.getElem_cons_zero, List.getElem_cons_succ, List.setIfInBounds_toArray, List.set_cons_zero, List.set_cons_succ]))
      (refine wpM_take (i := 18) (v := ?_) rfl (by kernel_rfl) (by kernel_rfl) (by kernel_rfl) (by decide) (fun _ _ _ h => h) hcl hC (fun _ => hE) (Or.inl ⟨by rfl, ?_⟩) ?_; rotate_left; (· (intro w hSw; (try dsimp only at hSw); go_simp; (try with_reducible rfl))); clear hcl; intro hcl; (try simp only [Act.put, List.getElem_toArray, List.getElem_cons_zero, List.getElem_cons_succ, List.setIfInBounds_toArray, List.set_cons_zero, List.set_cons_succ]))
      (refine wpM_take (i := 19) (v := ?_) rfl (by kernel_rfl) (by kernel_rfl) (by kernel_rfl) (by decide) (fun _ _ _ h => h) hcl hC (fun _ => hE) (Or.inl ⟨by rfl, ?_⟩) ?_; rotate_left; (· (intro w hSw; (try dsimp only at hSw); go_simp; (try with_reducible rfl))); clear hcl; intro hcl; (try simp only [Act.put, List.getElem_toArray, List.getElem_cons_zero, List.getElem_cons_succ, List.setIfInBounds_toArray, List.set_cons_zero, List.set_cons_succ]))
      (refine wpM_take (i := 20) (v := ?_) rfl (by kernel_rfl) (by kernel_rfl) (by kernel_rfl) (by decide) (fun _ _ _ h => h) hcl hC (fun _ => hE) (Or.inl ⟨by rfl, ?_⟩) ?_; rotate_left; (· (intro w hSw; (try dsimp only at hSw); go_simp; (try with_reducible rfl))); clear hcl; intro hcl; (try simp only [Act.put, List.getElem_toArray, List.getElem_cons_zero, List.getElem_cons_succ, List.setIfInBounds_toArray, List.set_cons_zero, List.set_cons_succ]))
      (refine wpM_take (i := 21) (v := ?_) rfl (by kernel_rfl) (by kernel_rfl) (by kernel_rfl) (by decide) (fun _ _ _ h => h) hcl hC (fun _ => hE) (Or.inl ⟨by rfl, ?_⟩) ?_; rotate_left; (· (intro w hSw; (try dsimp only at hSw); go_simp; (try with_reducible rfl))); clear hcl; intro hcl; (try simp only [Act.put, List.getElem_toArray, List.getElem_cons_zero, List.getElem_cons_succ, List.setIfInBounds_toArray, List.set_cons_zero, List.set_cons_succ]))
      (refine wpM_take (i := 23) (v := ?_) rfl (by kernel_rfl) (by kernel_rfl) (by kernel_rfl) (by decide) (fun _ _ _ h => h) hcl hC (fun _ => hE) (Or.inl ⟨by rfl, ?_⟩) ?_; rotate_left; (· (intro w hSw; (try dsimp only at hSw); go_simp; (try with_reducible rfl))); clear hcl; intro hcl; (try simp only [Act.put, List.getElem_toArray, List.getElem_cons_zero, List.getElem_cons_succ, List.setIfInBounds_toArray, List.set_cons_zero, List.set_cons_succ]))
      refine wpM_only (i := 22) rfl (by kernel_rfl) hcl (fun K hK => ?_)
      go_simp
      refine (cK.out A1 c1 B1 d1 v4 ((e1.out.1.below hK4).more hK4.size) ((e1.out.2.below hK4).more hK4.size)).mono ?_
      rintro e v5 ⟨rfl, hv5⟩
      have hK5 : Below w9.heap.size w9 v5 := hK4.trans (hv5.mono hK4.size)
      have hC5 : KQ w9.heap.size w9 v5 := kq hK5
      refine hK.out _ _ hC5 trivial ?_
      clear hK K
      clear hcl
      intro hcl
      (try simp only [Act.put, List.getElem_toArray, List.getElem_cons_zero, List.getElem_cons_succ, List.setIfInBounds_toArray, List.set_cons_zero, List.set_cons_succ])
      clear hC
      have hC := hC5
      refine wpM_only (i := 24) rfl (by kernel_rfl) hcl (fun K hK => ?_)
      go_simp
      refine (cL.out v5 (hG9.trans (hK5.mono hG9.size))).mono ?_
      rintro e v6 ⟨rfl, hv6⟩
      have hK6 : Below w9.heap.size w9 v6 := hK5.trans (hv6.mono hK5.size)
      have hC6 : KQ w9.heap.size w9 v6 := kq hK6
      refine hK.out _ _ hC6 trivial ?_
      clear hK K
      clear hcl
      intro hcl
      (try simp only [Act.put, List.getElem_toArray, List.getElem_cons_zero, List.getElem_cons_succ, List.setIfInBounds_toArray, List.set_cons_zero, List.set_cons_succ])
      clear hC
      have hC := hC6
      clear hv5 hv6
      (refine wpM_take (i := 25) (v := ?_) rfl (by kernel_rfl) (by kernel_rfl) (by kernel_rfl) (by decide) (fun _ _ _ h => h) hcl hC (fun _ => hE) (Or.inl ⟨by rfl, ?_⟩) ?_; rotate_left; (· (intro w hSw; (try dsimp only at hSw); go_simp; (try with_reducible rfl))); clear hcl; intro hcl; (try simp only [Act.put, List.getElem_toArray, List.getElem_cons_zero, List.getElem_cons_succ, List.setIfInBounds_toArray, List.set_cons_zero, List.set_cons_succ]))
      (refine wpM_take (i := 26) (v := ?_) rfl (by kernel_rfl) (by kernel_rfl) (by kernel_rfl) (by decide) (fun _ _ _ h => h) hcl hC (fun _ => hE) (Or.inl ⟨by rfl, ?_⟩) ?_; rotate_left; (· (intro w hSw; (try dsimp only at hSw); go_simp; (try with_reducible rfl))); clear hcl; intro hcl; (try simp only [Act.put, List.getElem_toArray, List.getElem_cons_zero, List.getElem_cons_succ, List.setIfInBounds_toArray, List.set_cons_zero, List.set_cons_succ]))
      (refine wpM_take (i := 27) (v := ?_) rfl (by kernel_rfl) (by kernel_rfl) (by kernel_rfl) (by decide) (fun _ _ _ h => h) hcl hC (fun _ => hE) (Or.inl ⟨by rfl, ?_⟩) ?_; rotate_left; (· (intro w hSw; (try dsimp only at hSw); go_simp; (try with_reducible rfl))); clear hcl; intro hcl; (try simp only [Act.put, List.getElem_toArray, List.getElem_cons_zero, List.getElem_cons_succ, List.setIfInBounds_toArray, List.set_cons_zero, List.set_cons_succ]))
      (refine wpM_take (i := 28) (v := ?_) rfl (by kernel_rfl) (by kernel_rfl) (by kernel_rfl) (by decide) (fun _ _ _ h => h) hcl hC (fun _ => hE) (Or.inl ⟨by rfl, ?_⟩) ?_; rotate_left; (· (intro w hSw; (try dsimp only at hSw); go_simp; (try with_reducible rfl))); clear hcl; intro hcl; (try simp only [Act.put, List.getElem_toArray, List.getElem_cons_zero, List.getElem_cons_succ, List.setIfInBounds_toArray, List.set_cons_zero, List.set_cons_succ]))
      (refine wpM_take (i := 30) (v := ?_) rfl (by kernel_rfl) (by kernel_rfl) (by kernel_rfl) (by decide) (fun _ _ _ h => h) hcl hC (fun _ => hE) (Or.inl ⟨by rfl, ?_⟩) ?_; rotate_left; (· (intro w hSw; (try dsimp only at hSw); go_simp; (try with_reducible rfl))); clear hcl; intro hcl; (try simp only [Act.put, List.getElem_toArray, List.getElem_cons_zero, List.getElem_cons_succ, List.setIfInBounds_toArray, List.set_cons_zero, List.set_cons_succ]))
      refine wpM_only (i := 29) rfl (by kernel_rfl) hcl (fun K hK => ?_)
      go_simp
      refine (mfrom_any A1 n c1 xs B1 m d1 gs v6 ((e1.out.1.below hK6).more hK6.size) ((e1.out.2.below hK6).more hK6.size) (by omega) (by omega)).mono ?_
      rintro e v7 ⟨A6, c6, B6, d6, rfl, o6, p6, hv7⟩
      have hK7 : Below w9.heap.size w9 v7 := hK6.trans (hv7.mono hK6.size)
      have hC7 : KQ w9.heap.size w9 v7 := kq hK7
      refine hK.out _ _ hC7 trivial ?_
      clear hK K
      clear hcl
      intro hcl
      (try simp only [Act.put, List.getElem_toArray, List.getElem_cons_zero, List.getElem_cons_succ, List.setIfInBounds_toArray, List.set_cons_zero, List.set_cons_succ])
      clear hC
      have hC := hC7
      refine wpM_only (i := 31) rfl (by kernel_rfl) hcl (fun K hK => ?_)
      go_simp
      refine (msame_any A6 n c6 xs B6 m d6 gs A n c xs B m d gs v7 o6.rd.1 p6.rd.1 ((e0.out.1.below hK7).more hK7.size) ((e0.out.2.below hK7).more hK7.size) (by simp [maxLen]; omega) (by simp [maxLen]; omega) (by simp [maxLen]; omega) (by simp [maxLen]; omega)).mono ?_
      rintro e v8 ⟨rfl, hv8⟩
      rw [show (decide (xs = xs) && decide (gs = gs)) = true from by simp]
      have hK8 : Below w9.heap.size w9 v8 := hK7.trans (hv8.mono hK7.size)
      have hC8 : KQ w9.heap.size w9 v8 := kq hK8
      refine hK.out _ _ hC8 trivial ?_
      clear hK K
      clear hcl
      intro hcl
      (try simp only [Act.put, List.getElem_toArray, List.getElem_cons_zero, List.getElem_cons_succ, List.setIfInBounds_toArray, List.set_cons_zero, List.set_cons_succ])
      clear hC
      have hC := hC8
      clear o6 p6 hv7 hv8
      (refine wpM_take (i := 32) (v := ?_) rfl (by kernel_rfl) (by kernel_rfl) (by kernel_rfl) (by decide) (fun _ _ _ h => h) hcl hC (fun _ => hE) (Or.inl ⟨by rfl, ?_⟩) ?_; rotate_left; (· (intro w hSw; (try dsimp only at hSw); go_simp; (try with_reducible rfl))); clear hcl; intro hcl; (try simp only [Act.put, List.getElem_toArray, List.getElem_cons_zero, List.getElem_cons_succ, List.setIfInBounds_toArray, List.set_cons_zero, List.set_cons_succ]))
      (refine wpM_take (i := 33) (v := ?_) rfl (by kernel_rfl) (by kernel_rfl) (by kernel_rfl) (by decide) (fun _ _ _ h => h) hcl hC (fun _ => hE) (Or.inl ⟨by rfl, ?_⟩) ?_; rotate_left; (· (intro w hSw; (try dsimp only at hSw); go_simp; (try with_reducible rfl))); clear hcl; intro hcl; (try simp only [Act.put, List.getElem_toArray, List.getElem_cons_zero, List.getElem_cons_succ, List.setIfInBounds_toArray, List.set_cons_zero, List.set_cons_succ]))
      refine wpM_done (by kernel_rfl) ?_
      clear hcl hC
      try simp only [Act.put, List.getElem_toArray, List.getElem_cons_zero, List.getElem_cons_succ, List.setIfInBounds_toArray, List.set_cons_zero, List.set_cons_succ]
      have hfin := hW.trans ((hG9.trans (hK8.mono hG9.size)).mono hzW)
      go_wp2
      go_ret
      exact ⟨rfl, hfin⟩
end Go.Proofs.Ytadldndmmobpdaa
