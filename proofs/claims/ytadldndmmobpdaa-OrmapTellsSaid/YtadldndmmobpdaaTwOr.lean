/- The statement OrmapTells, walked. -/
import Derived.Test.YtadldndmmobpdaaOpQ
import Derived.Test.YtadldndmmobpdaaOpL
import Derived.Test.YtadldndmmobpdaaOnD
import Derived.Test.YtadldndmmobpdaaOnB
import Derived.Test.YtadldndmmobpdaaM12
import Derived.Test.YtadldndmmobpdaaOnP
namespace Go.Proofs.Ytadldndmmobpdaa
open Go.RowKit

set_option maxRecDepth 100000 in
set_option maxHeartbeats 4000000 in
theorem ormaptells_any (A : Option Addr) (n c : Nat) (xs : List Pm) (B : Option Addr) (m d : Nat) (gs : List Tm) (l : List UInt8) (v : Vm) (w : World) (hA : RdP w w.heap.size A n xs) (hB : RdT w w.heap.size B m gs) (hx : ∀ a ∈ xs, a.wf) (hg : ∀ t ∈ gs, t.wf) (hl : ∀ a ∈ xs, a.2.1.length ≤ maxLen) (hnc : n ≤ c) (hcm : c ≤ maxLen) :
    Calls Try.prog 4 #[.agg #[.slice A n c, .slice B m d], .string (bs l), .agg #[.int .u32 v.d0, .int .u32 v.d1, .int .u32 v.d2, .int .u32 v.d3, .int .u32 v.d4, .int .u32 v.d5, .int .u32 v.d6, .int .u32 v.d7]] w fun e w' => e = .returned (.bool true) ∧ Below w.heap.size w w' := by
  have hW : Below w.heap.size w ((w.alloc (.cells #[.slice A n c, .slice B m d] 52)).alloc (.cells #[.int .u32 v.d0, .int .u32 v.d1, .int .u32 v.d2, .int .u32 v.d3, .int .u32 v.d4, .int .u32 v.d5, .int .u32 v.d6, .int .u32 v.d7] 28)) := ((Below.refl _ w).alloc (Nat.le_refl _) _).alloc (by simp) _
  have hbA : ((w.alloc (.cells #[.slice A n c, .slice B m d] 52)).alloc (.cells #[.int .u32 v.d0, .int .u32 v.d1, .int .u32 v.d2, .int .u32 v.d3, .int .u32 v.d4, .int .u32 v.d5, .int .u32 v.d6, .int .u32 v.d7] 28)).heap[w.heap.size]? = some (.cells #[.slice A n c, .slice B m d] 52 (0, 0)) := heap_old _ (by simp) (heap_at _ _ rfl)
  have hbV : ((w.alloc (.cells #[.slice A n c, .slice B m d] 52)).alloc (.cells #[.int .u32 v.d0, .int .u32 v.d1, .int .u32 v.d2, .int .u32 v.d3, .int .u32 v.d4, .int .u32 v.d5, .int .u32 v.d6, .int .u32 v.d7] 28)).heap[w.heap.size + 1]? = some (.cells #[.int .u32 v.d0, .int .u32 v.d1, .int .u32 v.d2, .int .u32 v.d3, .int .u32 v.d4, .int .u32 v.d5, .int .u32 v.d6, .int .u32 v.d7] 28 (0, 0)) := heap_at _ _ (by simp)
  generalize hWe : ((w.alloc (.cells #[.slice A n c, .slice B m d] 52)).alloc (.cells #[.int .u32 v.d0, .int .u32 v.d1, .int .u32 v.d2, .int .u32 v.d3, .int .u32 v.d4, .int .u32 v.d5, .int .u32 v.d6, .int .u32 v.d7] 28)) = W at hW hbA hbV
  have hltx := blk_lt hbA
  have hltv := blk_lt hbV
  have hAk := Lib.hid hbA
  have hVk := Lib.hid hbV
  have hzW := hW.size
  have g1 := Lib.hid (mgreat_any A n c B m d)
  have s0 := blk_cell hbA 0
  have s1 := blk_cell hbA 1
  simp at s0 s1
  clear hbA hbV
  cases hga : grM n m with
  | true =>
    rw [hga] at g1
    go_enter Try.func4, Try.ntmps4
    go_wp2_with fail
    refine (g1.out _).mono ?_
    rintro e w1 ⟨rfl, hv1⟩
    have hG := hW.trans (hv1.mono hzW)
    go_wp2
    go_ret
    exact ⟨rfl, hG⟩
  | false =>
    rw [hga] at g1
    have hnm : n ≤ 100 ∧ m ≤ 200 := by unfold grM at hga; rw [decide_eq_false_iff_not] at hga; omega
    obtain ⟨hn, hm⟩ := hnm
    clear hga
    by_cases hl2 : 1000 < l.length
    · have hd : decide ((1000 : Int) < (((bs l).size : Nat) : Int)) = true := decide_eq_true (by rw [bs_size]; omega)
      go_enter Try.func4, Try.ntmps4
      go_wp2_with fail
      refine (g1.out _).mono ?_
      rintro e w1 ⟨rfl, hv1⟩
      have hG := hW.trans (hv1.mono hzW)
      go_wp2
      go_ret
      exact ⟨rfl, hG⟩
    have hd : decide ((1000 : Int) < (((bs l).size : Nat) : Int)) = false := decide_eq_false (by rw [bs_size]; omega)
    have cT := Lib.hid (fun w' (h : Below W.heap.size W w') => mto_any A n c xs B m d gs w' ((hA.below (hW.trans (h.mono hzW))).more (hW.trans (h.mono hzW)).size) ((hB.below (hW.trans (h.mono hzW))).more (hW.trans (h.mono hzW)).size) (by omega) (by omega))
    have cC := Lib.hid (fun A' c' B' d' w' (h1 : RdP w' w'.heap.size A' n xs) (h2 : RdT w' w'.heap.size B' m gs) => mcompact_any A' n c' xs B' m d' gs v w' h1 h2 (by omega) (by omega) hx hg hl)
    have cD := Lib.hid (fun w' (h : Below W.heap.size W w') => rmcompact_any A n c xs B m d gs v w' ((hA.below (hW.trans (h.mono hzW))).more (hW.trans (h.mono hzW)).size) ((hB.below (hW.trans (h.mono hzW))).more (hW.trans (h.mono hzW)).size) (by omega) (by omega) hx hg hl hnc hcm)
    have cG := Lib.hid (fun A' c' B' d' w' (h1 : RdP w' w'.heap.size A' n xs) (h2 : RdT w' w'.heap.size B' m gs) => mtagsf_any A' n c' xs B' m d' gs l w' h1 h2 (by omega) (by omega) hx hg hl)
    have cH := Lib.hid (fun A' c' B' d' w' (h1 : RdP w' w'.heap.size A' n xs) (h2 : RdT w' w'.heap.size B' m gs) => mget_any A' n c' xs B' m d' gs l w' h1 h2 (by omega) (by omega) hx hg hl)
    have cE := Lib.hid (fun A' c' B' d' w' (h1 : RdP w' w'.heap.size A' n xs) (h2 : RdT w' w'.heap.size B' m gs) => mitems_any A' n c' xs B' m d' gs w' h1 h2 (by omega) (by omega) hx hg hl)
    have cRG := Lib.hid (fun w' (h : Below W.heap.size W w') => rmtags_any A n c xs B m d gs l w' ((hA.below (hW.trans (h.mono hzW))).more (hW.trans (h.mono hzW)).size) ((hB.below (hW.trans (h.mono hzW))).more (hW.trans (h.mono hzW)).size) (by omega) (by omega) hx hg hl)
    have cRE := Lib.hid (fun w' (h : Below W.heap.size W w') => rmitems_any A n c xs B m d gs w' ((hA.below (hW.trans (h.mono hzW))).more (hW.trans (h.mono hzW)).size) ((hB.below (hW.trans (h.mono hzW))).more (hW.trans (h.mono hzW)).size) (by omega) (by omega) hx hg hl)
    have cRH := Lib.hid (fun w' (h : Below W.heap.size W w') => rmget_any A n c xs B m d gs l w' ((hA.below (hW.trans (h.mono hzW))).more (hW.trans (h.mono hzW)).size) ((hB.below (hW.trans (h.mono hzW))).more (hW.trans (h.mono hzW)).size) (by omega) (by omega) hx hg hl)
    have hEL : (itemsM xs gs).length ≤ n := by
      have h := insAll_len ((xs.take xs.length).map fun p => p.2.1) []
      rw [List.length_map, List.length_take, List.length_nil, hA.len] at h
      unfold itemsM fieldsM
      split
      · simp
      · rw [List.length_map, hA.len]; omega
    have hELH := Lib.hid hEL
    clear hEL
    clear hA hB hx hg hl hcm
    generalize tagsM xs gs l = TG at *
    generalize getM xs gs l = GT at *
    generalize itemsM xs gs = EL at *
    generalize compM xs gs v = X at *
    generalize mErr xs gs = er at *
    clear hnc
    go_enter Try.func4, Try.ntmps4
    go_wp2_with fail
    refine (g1.out _).mono ?_
    rintro e w0 ⟨rfl, hv0⟩
    have hs0 := blk_below hAk.out hv0
    have hvv0 := blk_below hVk.out hv0
    clear s0 s1
    have hltx := blk_lt hs0
    have s0 := blk_cell hs0 0
    have s1 := blk_cell hs0 1
    simp at s0 s1
    clear hltv
    have hltv := blk_lt hvv0
    have y0 := blk_cell hvv0 0
    have y1 := blk_cell hvv0 1
    have y2 := blk_cell hvv0 2
    have y3 := blk_cell hvv0 3
    have y4 := blk_cell hvv0 4
    have y5 := blk_cell hvv0 5
    have y6 := blk_cell hvv0 6
    have y7 := blk_cell hvv0 7
    simp at y0 y1 y2 y3 y4 y5 y6 y7
    clear g1 hs0 hvv0
    have hz0 := hv0.size
    go_upto_region 3 with (fail)
    go_cut [7, 8] (fun sa sb wx => ∃ g A' n' c' B' m' d', sa = .pointer (some ⟨g, 0, none⟩) ∧ w0.heap.size ≤ g ∧ sb = .int .i64 er ∧ wx.heap[g]? = some (.cells #[.slice A' n' c', .slice B' m' d'] 56 (0, 0)) ∧ RdP wx wx.heap.size A' n' X.1 ∧ RdT wx wx.heap.size B' m' X.2 ∧ n' ≤ 5000 ∧ m' ≤ 9000 ∧ n' ≤ c' ∧ c' ≤ maxLen ∧ m' ≤ d' ∧ d' ≤ maxLen ∧ Below w0.heap.size w0 wx)
    case first =>
      have hq0 : KQ w0.heap.size w0 w0 := kq (Below.refl _ _)
      go_region_held3 (fun w' => KQ w0.heap.size w0 w') (first
      | with_reducible assumption
      | with_reducible exact kq_call (by with_reducible assumption) (by first | exact Nat.le_refl _ | simp) (by with_reducible assumption)
      | ((repeat (first | (with_reducible refine kq_set ?_ (by first | (simp; done) | (simp; omega) | omega) _) | (with_reducible refine kq_alloc ?_ (by first | exact Nat.le_refl _ | (simp; done) | (simp; omega)) _))); (first | with_reducible assumption | exact kq (by with_reducible assumption)))
      | ((with_reducible refine kq ?_); (repeat (first | (with_reducible exact Below.refl _ _) | (with_reducible refine Below.drew ?_) | (with_reducible refine Below.alloc ?_ (by simp) _) | (with_reducible refine Below.setCell ?_ (by simp) _) | (with_reducible exact (by assumption : KQ _ _ _).1))); done))
        (first
          | (go_at_call 26
             (with_reducible refine (cT.out _ (hv0.trans ((by first | with_reducible assumption | exact kq_drew (Below.refl _ _) | exact kq_drew ((Below.refl _ _).alloc (Nat.le_refl _) _) : KQ w0.heap.size w0 _).1.mono hz0))).mono ?_)
             rintro e v1 ⟨A1, c1, B1, d1, rfl, o1, p1, hb1⟩
             have oa1 := Ow.rdP o1
             have pb1 := Ow.rdT p1
             have hk1 : Below w0.heap.size w0 v1 := (kq_call (by first | with_reducible assumption | exact kq_drew (Below.refl _ _) | exact kq_drew ((Below.refl _ _).alloc (Nat.le_refl _) _) : KQ w0.heap.size w0 _) (Nat.le_refl _) hb1).1
             have hz1 := hk1.size
             (first
               | (have hx1 : v1.heap[w0.heap.size]? = some (.cells #[.slice none 0 0, .slice none 0 0] 56 (0, 0)) := (hb1.block _ (blk_lt (heap_drew (heap_at w0 _ rfl)))).trans (heap_drew (heap_at w0 _ rfl)))
               | skip)
            )
          | (go_at_call 25
             (with_reducible refine (cC.out A1 c1 B1 d1 _ (by first | exact oa1 | exact (oa1.below ((Below.refl _ _).alloc (Nat.le_refl _) _)).more (by simp)) (by first | exact pb1 | exact (pb1.below ((Below.refl _ _).alloc (Nat.le_refl _) _)).more (by simp))).mono ?_)
             rintro e v2 ⟨A2, n2, c2, B2, m2, d2, rfl, hX1, hX2, hn2, hm2, hnc2, hcm2, hmd2, hdm2, hb2⟩
             have hk2 : Below w0.heap.size w0 v2 := (kq_call (by with_reducible assumption : KQ w0.heap.size w0 _) (Nat.le_refl _) hb2).1
             have hz2 := hk2.size
             (first
               | (have hx2 := (hb2.block _ (blk_lt hx1)).trans hx1
                  have hfx := blk_frozen hx2
                  have hlx := blk_lt hx2
                  have x0 := blk_cell hx2 0
                  have x1 := blk_cell hx2 1
                  simp at x0 x1)
               | (have hx2 : v2.heap[v1.heap.size]? = some (.cells #[.slice none 0 0, .slice none 0 0] 56 (0, 0)) := (hb2.block _ (blk_lt (heap_at v1 _ rfl))).trans (heap_at v1 _ rfl)
                  have hfx := blk_frozen hx2
                  have hlx := blk_lt hx2
                  have x0 := blk_cell hx2 0
                  have x1 := blk_cell hx2 1
                  simp at x0 x1)
               | skip)
            ))
      all_goals
      (have hXH := Lib.hid (And.intro hX1 hX2)
       have hk2H := Lib.hid hk2
       go_wp2_with fail
       go_meet
       first
         | (have hb3 : Below v2.heap.size v2 (v2.alloc (.cells #[.slice A2 n2 c2, .slice B2 m2 d2] 56)) := (Below.refl _ v2).alloc (Nat.le_refl _) _
            exact ⟨v2.heap.size, A2, n2, c2, B2, m2, d2, rfl, hz2, rfl, heap_at _ _ rfl, (hXH.out.1.below hb3).more hb3.size, (hXH.out.2.below hb3).more hb3.size, hn2, hm2, hnc2, hcm2, hmd2, hdm2, hk2H.out.trans (hb3.mono hz2)⟩)
         | (have ha3 := (hXH.out.1.set_other hx2 0 (.slice A2 n2 c2)).set_other (blk_set hx2 0 (.slice A2 n2 c2)) 1 (.slice B2 m2 d2)
            have hb3 := (hXH.out.2.set_other hx2 0 (.slice A2 n2 c2)).set_other (blk_set hx2 0 (.slice A2 n2 c2)) 1 (.slice B2 m2 d2)
            have hx3 := blk_set (blk_set hx2 0 (.slice A2 n2 c2)) 1 (.slice B2 m2 d2)
            exact ⟨_, A2, n2, c2, B2, m2, d2, rfl, by omega, rfl, hx3, by rw [World.size_setCell, World.size_setCell]; exact ha3, by rw [World.size_setCell, World.size_setCell]; exact hb3, hn2, hm2, hnc2, hcm2, hmd2, hdm2, (hk2H.out.setCell (by dsimp only; omega) _).setCell (by dsimp only; omega) _⟩))
    case rest =>
      obtain ⟨ga, A2, n2, c2, B2, m2, d2, rfl, hga, rfl, hbX, hX1, hX2, hn2, hm2, _, _, _, _, hB1⟩ := hcut
      obtain ⟨w1, hw1⟩ : ∃ w1, w1 = wc := ⟨_, rfl⟩
      obtain rfl := hw1
      clear cC s0 s1 y0 y1 y2 y3 y4 y5 y6 y7 hltx hltv
      have hG1 : Below W.heap.size W w1 := hv0.trans (hB1.mono hz0)
      have hs1 := blk_below hAk.out hG1
      have hvv1 := blk_below hVk.out hG1
      have hltx := blk_lt hs1
      have s0 := blk_cell hs1 0
      have s1 := blk_cell hs1 1
      simp at s0 s1
      have hltv := blk_lt hvv1
      have y0 := blk_cell hvv1 0
      have y1 := blk_cell hvv1 1
      have y2 := blk_cell hvv1 2
      have y3 := blk_cell hvv1 3
      have y4 := blk_cell hvv1 4
      have y5 := blk_cell hvv1 5
      have y6 := blk_cell hvv1 6
      have y7 := blk_cell hvv1 7
      simp at y0 y1 y2 y3 y4 y5 y6 y7
      have hXH := Lib.hid (And.intro hX1 hX2)
      have hbXH := Lib.hid hbX
      clear hs1 hvv1 hX1 hX2 hbX
      go_wp2_with fail
      refine (cD.out w1 hG1).mono ?_
      rintro e w2 ⟨A3, n3, c3, B3, m3, d3, rfl, hY1, hY2, hn3, hm3, _, _, _, _, hb2⟩
      clear s0 s1 y0 y1 y2 y3 y4 y5 y6 y7 hltx hltv cD
      have hG2 := hG1.trans (hb2.mono hG1.size)
      have hs2 := blk_below hAk.out hG2
      have hltx := blk_lt hs2
      have s0 := blk_cell hs2 0
      have s1 := blk_cell hs2 1
      simp at s0 s1
      have hYH := Lib.hid (And.intro hY1 hY2)
      clear hY1 hY2 hs2
      go_upto_region 5 with (fail)
      obtain ⟨w3, hw3⟩ : ∃ w3, w2.alloc (.cells #[.slice A3 n3 c3, .slice B3 m3 d3] 52) = w3 := ⟨_, rfl⟩
      have hbY3 : w3.heap[w2.heap.size]? = some (.cells #[.slice A3 n3 c3, .slice B3 m3 d3] 52 (0, 0)) := by rw [← hw3]; exact heap_at _ _ rfl
      have hb3 : Below w2.heap.size w2 w3 := by rw [← hw3]; exact (Below.refl _ w2).alloc (Nat.le_refl _) _
      rw [hw3]
      clear hw3
      have hG3 := hG2.trans (hb3.mono hG2.size)
      have hs3 := blk_below hAk.out hG3
      clear s0 s1
      have hltx := blk_lt hs3
      have s0 := blk_cell hs3 0
      have s1 := blk_cell hs3 1
      simp at s0 s1
      have hz2 := hb2.size
      have hz3 := hb3.size
      have hbX3 := blk_below (blk_below hbXH.out hb2) hb3
      have hX3 : RdP w3 w3.heap.size A2 n2 X.1 ∧ RdT w3 w3.heap.size B2 m2 X.2 := ⟨(((hXH.out.1.below hb2).more hz2).below hb3).more hz3, (((hXH.out.2.below hb2).more hz2).below hb3).more hz3⟩
      have hY3 : RdP w3 w3.heap.size A3 n3 X.1 ∧ RdT w3 w3.heap.size B3 m3 X.2 := ⟨(hYH.out.1.below hb3).more hz3, (hYH.out.2.below hb3).more hz3⟩
      have hX3H := Lib.hid hX3
      have hY3H := Lib.hid hY3
      have hbX3H := Lib.hid hbX3
      have hbY3H := Lib.hid hbY3
      clear hXH hYH hX3 hY3 hbX3 hbY3 hs3
      go_wp2_with fail
      refine (cT.out w3 hG3).mono ?_
      rintro e w4 ⟨A4, c4, B4, d4, rfl, o4, p4, hb4⟩
      go_wp2_with fail
      refine (cH.out A4 c4 B4 d4 w4 (Ow.rdP o4) (Ow.rdT p4)).mono ?_
      rintro e w5a ⟨rfl, hb5a⟩
      have hb4a : Below w3.heap.size w3 w5a := hb4.trans (hb5a.mono hb4.size)
      have hG5a := hG3.trans (hb4a.mono hG3.size)
      have hs5a := blk_below hAk.out hG5a
      clear s0 s1
      have hltx := blk_lt hs5a
      have s0 := blk_cell hs5a 0
      have s1 := blk_cell hs5a 1
      simp at s0 s1
      clear hs5a o4 p4 hb4 hb5a cH
      go_wp2_with fail
      refine (cRH.out w5a hG5a).mono ?_
      rintro e w5 ⟨rfl, hb5⟩
      have hb45 : Below w3.heap.size w3 w5 := hb4a.trans (hb5.mono hb4a.size)
      have hz45 := hb45.size
      have hG5 := hG3.trans (hb45.mono hG3.size)
      have hs5 := blk_below hAk.out hG5
      clear s0 s1
      have hltx := blk_lt hs5
      have s0 := blk_cell hs5 0
      have s1 := blk_cell hs5 1
      simp at s0 s1
      have hbX5 := blk_below hbX3H.out hb45
      have hbY5 := blk_below hbY3H.out hb45
      have hltX := blk_lt hbX5
      have hltY := blk_lt hbY5
      have x0 := blk_cell hbX5 0
      have x1 := blk_cell hbX5 1
      have z0 := blk_cell hbY5 0
      have z1 := blk_cell hbY5 1
      simp at x0 x1 z0 z1
      clear hs5 hbX5 hbY5 hb5 hb4a cRH
      have hq0 : KQ w5.heap.size w5 w5 := kq (Below.refl _ _)
      go_wp2_with fail
      refine wp_region_M (fun w' => KQ w5.heap.size w5 w') (fun _ => True) 99 (by kernel_rfl) (kq (Below.refl _ _).drew) trivial ?_
      intro hcl
      have hC : KQ w5.heap.size w5 w5.drew := kq (Below.refl _ _).drew
      have hE := trivial
      (refine wpM_take (i := 0) (v := ?_) rfl (by kernel_rfl) (by kernel_rfl) (by kernel_rfl) (by decide) (fun _ _ _ h => h) hcl hC (fun _ => hE) (Or.inl ⟨by rfl, ?_⟩) ?_; rotate_left; (· (intro w hSw; (try dsimp only at hSw); go_simp; (try with_reducible rfl))); clear hcl; intro hcl; (try simp only [Act.put, List.getElem_toArray, List.getElem_cons_zero, List.getElem_cons_succ, List.setIfInBounds_toArray, List.set_cons_zero, List.set_cons_succ]))
      (refine wpM_take (i := 2) (v := ?_) rfl (by kernel_rfl) (by kernel_rfl) (by kernel_rfl) (by decide) (fun _ _ _ h => h) hcl hC (fun _ => hE) (Or.inl ⟨by rfl, ?_⟩) ?_; rotate_left; (· (intro w hSw; (try dsimp only at hSw); go_simp; (try with_reducible rfl))); clear hcl; intro hcl; (try simp only [Act.put, List.getElem_toArray, List.getElem_cons_zero, List.getElem_cons_succ, List.setIfInBounds_toArray, List.set_cons_zero, List.set_cons_succ]))
      refine wpM_only (i := 1) rfl (by kernel_rfl) hcl (fun K hK => ?_)
      go_simp
      have hB0 : Below w5.heap.size w5 w5.drew := (Below.refl _ _).drew
      have e1 : Below w3.heap.size w3 w5.drew := hb45.drew
      refine (mfrom_any A2 n2 c2 X.1 B2 m2 d2 X.2 w5.drew ((hX3H.out.1.below e1).more e1.size) ((hX3H.out.2.below e1).more e1.size) (by omega) (by omega)).mono ?_
      rintro e v1 ⟨A6, c6, B6, d6, rfl, o6, p6, hv1⟩
      have hB1' : Below w5.heap.size w5 v1 := hB0.trans (hv1.mono hB0.size)
      have hC1 : KQ w5.heap.size w5 v1 := kq hB1'
      refine hK.out _ _ hC1 trivial ?_
      clear hK K
      clear hcl
      intro hcl
      (try simp only [Act.put, List.getElem_toArray, List.getElem_cons_zero, List.getElem_cons_succ, List.setIfInBounds_toArray, List.set_cons_zero, List.set_cons_succ])
      clear hC
      have hC := hC1
      refine wpM_only (i := 3) rfl (by kernel_rfl) hcl (fun K hK => ?_)
      go_simp
      have e2 : Below w3.heap.size w3 v1 := hb45.trans (hB1'.mono hz45)
      refine (msame_any A6 n2 c6 X.1 B6 m2 d6 X.2 A3 n3 c3 X.1 B3 m3 d3 X.2 v1 (Ow.rdP o6) (Ow.rdT p6) ((hY3H.out.1.below e2).more e2.size) ((hY3H.out.2.below e2).more e2.size) (by simp [maxLen]; omega) (by simp [maxLen]; omega) (by simp [maxLen]; omega) (by simp [maxLen]; omega)).mono ?_
      rintro e v2 ⟨rfl, hv2⟩
      rw [show (decide (X.1 = X.1) && decide (X.2 = X.2)) = true from by simp]
      have hB2' : Below w5.heap.size w5 v2 := hB1'.trans (hv2.mono hB1'.size)
      have hC2 : KQ w5.heap.size w5 v2 := kq hB2'
      clear o6 p6 hv1 hv2
      refine hK.out _ _ hC2 trivial ?_
      clear hK K
      clear hcl
      intro hcl
      (try simp only [Act.put, List.getElem_toArray, List.getElem_cons_zero, List.getElem_cons_succ, List.setIfInBounds_toArray, List.set_cons_zero, List.set_cons_succ])
      clear hC
      have hC := hC2
      (refine wpM_take (i := 4) (v := ?_) rfl (by kernel_rfl) (by kernel_rfl) (by kernel_rfl) (by decide) (fun _ _ _ h => h) hcl hC (fun _ => hE) (Or.inl ⟨by rfl, ?_⟩) ?_; rotate_left; (· (intro w hSw; (try dsimp only at hSw); go_simp; (try with_reducible rfl))); clear hcl; intro hcl; (try simp only [Act.put, List.getElem_toArray, List.getElem_cons_zero, List.getElem_cons_succ, List.setIfInBounds_toArray, List.set_cons_zero, List.set_cons_succ]))
      (refine wpM_take (i := 5) (v := ?_) rfl (by kernel_rfl) (by kernel_rfl) (by kernel_rfl) (by decide) (fun _ _ _ h => h) hcl hC (fun _ => hE) (Or.inl ⟨by rfl, ?_⟩) ?_; rotate_left; (· (intro w hSw; (try dsimp only at hSw); go_simp; (try with_reducible rfl))); clear hcl; intro hcl; (try simp only [Act.put, List.getElem_toArray, List.getElem_cons_zero, List.getElem_cons_succ, List.setIfInBounds_toArray, List.set_cons_zero, List.set_cons_succ]))
      (refine wpM_take (i := 6) (v := ?_) rfl (by kernel_rfl) (by kernel_rfl) (by kernel_rfl) (by decide) (fun _ _ _ h => h) hcl hC (fun _ => hE) (Or.inl ⟨by rfl, ?_⟩) ?_; rotate_left; (· (intro w hSw; (try dsimp only at hSw); go_simp; (try with_reducible rfl))); clear hcl; intro hcl; (try simp only [Act.put, List.getElem_toArray, List.getElem_cons_zero, List.getElem_cons_succ, List.setIfInBounds_toArray, List.set_cons_zero, List.set_cons_succ]))
      (refine wpM_take (i := 7) (v := ?_) rfl (by kernel_rfl) (by kernel_rfl) (by kernel_rfl) (by decide) (fun _ _ _ h => h) hcl hC (fun _ => hE) (Or.inl ⟨by rfl, ?_⟩) ?_; rotate_left; (· (intro w hSw; (try dsimp only at hSw); go_simp; (try with_reducible rfl))); clear hcl; intro hcl; (try simp only [Act.put, List.getElem_toArray, List.getElem_cons_zero, List.getElem_cons_succ, List.setIfInBounds_toArray, List.set_cons_zero, List.set_cons_succ]))
      (refine wpM_take (i := 8) (v := ?_) rfl (by kernel_rfl) (by kernel_rfl) (by kernel_rfl) (by decide) (fun _ _ _ h => h) hcl hC (fun _ => hE) (Or.inl ⟨by rfl, ?_⟩) ?_; rotate_left; (· (intro w hSw; (try dsimp only at hSw); go_simp; (try with_reducible rfl))); clear hcl; intro hcl; (try simp only [Act.put, List.getElem_toArray, List.getElem_cons_zero, List.getElem_cons_succ, List.setIfInBounds_toArray, List.set_cons_zero, List.set_cons_succ]))
      (refine wpM_take (i := 9) (v := ?_) rfl (by kernel_rfl) (by kernel_rfl) (by kernel_rfl) (by decide) (fun _ _ _ h => h) hcl hC (fun _ => hE) (Or.inl ⟨by rfl, ?_⟩) ?_; rotate_left; (· (intro w hSw; (try dsimp only at hSw); go_simp; (try with_reducible rfl))); clear hcl; intro hcl; (try simp only [Act.put, List.getElem_toArray, List.getElem_cons_zero, List.getElem_cons_succ, List.setIfInBounds_toArray, List.set_cons_zero, List.set_cons_succ]))
      (refine wpM_take (i := 10) (v := ?_) rfl (by kernel_rfl) (by kernel_rfl) (by kernel_rfl) (by decide) (fun _ _ _ h => h) hcl hC (fun _ => hE) (Or.inl ⟨by rfl, ?_⟩) ?_; rotate_left; (· (intro w hSw; (try dsimp only at hSw); go_simp; (try with_reducible rfl))); clear hcl; intro hcl; (try simp only [Act.put, List.getElem_toArray, List.getElem_cons_zero, List.getElem_cons_succ, List.setIfInBounds_toArray, List.set_cons_zero, List.set_cons_succ]))
      (refine wpM_take (i := 12) (v := ?_) rfl (by kernel_rfl) (by kernel_rfl) (by kernel_rfl) (by decide) (fun _ _ _ h => h) hcl hC (fun _ => hE) (Or.inl ⟨by rfl, ?_⟩) ?_; rotate_left; (· (intro w hSw; (try dsimp only at hSw); go_simp; (try with_reducible rfl))); clear hcl; intro hcl; (try simp only [Act.put, List.getElem_toArray, List.getElem_cons_zero, List.getElem_cons_succ, List.setIfInBounds_toArray, List.set_cons_zero, List.set_cons_succ]))
      (refine wpM_take (i := 14) (v := ?_) rfl (by kernel_rfl) (by kernel_rfl) (by kernel_rfl) (by decide) (fun _ _ _ h => h) hcl hC (fun _ => hE) (Or.inl ⟨by rfl, ?_⟩) ?_; rotate_left; (· (intro w hSw; (try dsimp only at hSw); go_simp; (try with_reducible rfl))); clear hcl; intro hcl; (try simp only [Act.put, List.getElem_toArray, List.getElem_cons_zero, List.getElem_cons_succ, List.setIfInBounds_toArray, List.set_cons_zero, List.set_cons_succ]))
      (refine wpM_take (i := 15) (v := ?_) rfl (by kernel_rfl) (by kernel_rfl) (by kernel_rfl) (by decide) (fun _ _ _ h => h) hcl hC (fun _ => hE) (Or.inl ⟨by rfl, ?_⟩) ?_; rotate_left; (· (intro w hSw; (try dsimp only at hSw); go_simp; (try with_reducible rfl))); clear hcl; intro hcl; (try simp only [Act.put, List.getElem_toArray, List.getElem_cons_zero, List.getElem_cons_succ, List.setIfInBounds_toArray, List.set_cons_zero, List.set_cons_succ]))
      refine wpM_only (i := 11) rfl (by kernel_rfl) hcl (fun K hK => ?_)
      go_simp
      refine (cT.out v2 (hG5.trans (hB2'.mono hG5.size))).mono ?_
      rintro e v3 ⟨A8, c8, B8, d8, rfl, o8, p8, hv3⟩
      have hB3' : Below w5.heap.size w5 v3 := hB2'.trans (hv3.mono hB2'.size)
      have hC3 : KQ w5.heap.size w5 v3 := kq hB3'
      refine hK.out _ _ hC3 trivial ?_
      clear hK K
      clear hcl
      intro hcl
      (try simp only [Act.put, List.getElem_toArray, List.getElem_cons_zero, List.getElem_cons_succ, List.setIfInBounds_toArray, List.set_cons_zero, List.set_cons_succ])
      clear hC
      have hC := hC3
      refine wpM_only (i := 13) rfl (by kernel_rfl) hcl (fun K hK => ?_)
      go_simp
      refine (cG.out A8 c8 B8 d8 v3 (Ow.rdP o8) (Ow.rdT p8)).mono ?_
      rintro e v4 ⟨T5, t5, k5, rfl, o5, hv4⟩
      have hB4' : Below w5.heap.size w5 v4 := hB3'.trans (hv4.mono hB3'.size)
      have hC4 : KQ w5.heap.size w5 v4 := kq hB4'
      clear o8 p8
      refine hK.out _ _ hC4 trivial ?_
      clear hK K
      clear hcl
      intro hcl
      (try simp only [Act.put, List.getElem_toArray, List.getElem_cons_zero, List.getElem_cons_succ, List.setIfInBounds_toArray, List.set_cons_zero, List.set_cons_succ])
      clear hC
      have hC := hC4
      refine wpM_only (i := 16) rfl (by kernel_rfl) hcl (fun K hK => ?_)
      go_simp
      refine (cRG.out v4 (hG5.trans (hB4'.mono hG5.size))).mono ?_
      rintro e v5 ⟨T7, t7, k7, rfl, o7, hv5⟩
      have hB5' : Below w5.heap.size w5 v5 := hB4'.trans (hv5.mono hB4'.size)
      have hC5 : KQ w5.heap.size w5 v5 := kq hB5'
      have o5' := o5.below hv5
      refine hK.out _ _ hC5 trivial ?_
      clear hK K
      clear hcl
      intro hcl
      (try simp only [Act.put, List.getElem_toArray, List.getElem_cons_zero, List.getElem_cons_succ, List.setIfInBounds_toArray, List.set_cons_zero, List.set_cons_succ])
      clear hC
      have hC := hC5
      refine wpM_only (i := 17) rfl (by kernel_rfl) hcl (fun K hK => ?_)
      go_simp
      refine (sametags_any T5 T7 t5 t7 k5 k7 TG TG v5 (Ow.rdT o5') (Ow.rdT o7) (Nat.le_trans o5'.rd.2.2.1 o5'.rd.2.2.2) (Nat.le_trans o7.rd.2.2.1 o7.rd.2.2.2)).mono ?_
      rintro e v6 ⟨rfl, hv6⟩
      rw [show (decide (TG = TG)) = true from by simp]
      have hB6' : Below w5.heap.size w5 v6 := hB5'.trans (hv6.mono hB5'.size)
      have hC6 : KQ w5.heap.size w5 v6 := kq hB6'
      clear o5 o5' o7 hv3 hv4 hv5
      refine hK.out _ _ hC6 trivial ?_
      clear hK K
      clear hcl
      intro hcl
      (try simp only [Act.put, List.getElem_toArray, List.getElem_cons_zero, List.getElem_cons_succ, List.setIfInBounds_toArray, List.set_cons_zero, List.set_cons_succ])
      clear hC
      have hC := hC6
      (refine wpM_take (i := 18) (v := ?_) rfl (by kernel_rfl) (by kernel_rfl) (by kernel_rfl) (by decide) (fun _ _ _ h => h) hcl hC (fun _ => hE) (Or.inl ⟨by rfl, ?_⟩) ?_; rotate_left; (· (intro w hSw; (try dsimp only at hSw); go_simp; (try with_reducible rfl))); clear hcl; intro hcl; (try simp only [Act.put, List.getElem_toArray, List.getElem_cons_zero, List.getElem_cons_succ, List.setIfInBounds_toArray, List.set_cons_zero, List.set_cons_succ]))
      (refine wpM_take (i := 19) (v := ?_) rfl (by kernel_rfl) (by kernel_rfl) (by kernel_rfl) (by decide) (fun _ _ _ h => h) hcl hC (fun _ => hE) (Or.inl ⟨by rfl, ?_⟩) ?_; rotate_left; (· (intro w hSw; (try dsimp only at hSw); go_simp; (try with_reducible rfl))); clear hcl; intro hcl; (try simp only [Act.put, List.getElem_toArray, List.getElem_cons_zero, List.getElem_cons_succ, List.setIfInBounds_toArray, List.set_cons_zero, List.set_cons_succ]))
      (refine wpM_take (i := 20) (v := ?_) rfl (by kernel_rfl) (by kernel_rfl) (by kernel_rfl) (by decide) (fun _ _ _ h => h) hcl hC (fun _ => hE) (Or.inl ⟨by rfl, ?_⟩) ?_; rotate_left; (· (intro w hSw; (try dsimp only at hSw); go_simp; (try with_reducible rfl))); clear hcl; intro hcl; (try simp only [Act.put, List.getElem_toArray, List.getElem_cons_zero, List.getElem_cons_succ, List.setIfInBounds_toArray, List.set_cons_zero, List.set_cons_succ]))
      (refine wpM_take (i := 21) (v := ?_) rfl (by kernel_rfl) (by kernel_rfl) (by kernel_rfl) (by decide) (fun _ _ _ h => h) hcl hC (fun _ => hE) (Or.inl ⟨by rfl, ?_⟩) ?_; rotate_left; (· (intro w hSw; (try dsimp only at hSw); go_simp; (try with_reducible rfl))); clear hcl; intro hcl; (try simp only [Act.put, List.getElem_toArray, List.getElem_cons_zero, List.getElem_cons_succ, List.setIfInBounds_toArray, List.set_cons_zero, List.set_cons_succ]))
      (refine wpM_take (i := 22) (v := ?_) rfl (by kernel_rfl) (by kernel_rfl) (by kernel_rfl) (by decide) (fun _ _ _ h => h) hcl hC (fun _ => hE) (Or.inl ⟨by rfl, ?_⟩) ?_; rotate_left; (· (intro w hSw; (try dsimp only at hSw); go_simp; (try with_reducible rfl))); clear hcl; intro hcl; (try simp only [Act.put, List.getElem_toArray, List.getElem_cons_zero, List.getElem_cons_succ, List.setIfInBounds_toArray, List.set_cons_zero, List.set_cons_succ]))
      (refine wpM_take (i := 23) (v := ?_) rfl (by kernel_rfl) (by kernel_rfl) (by kernel_rfl) (by decide) (fun _ _ _ h => h) hcl hC (fun _ => hE) (Or.inl ⟨by rfl, ?_⟩) ?_; rotate_left; (· (intro w hSw; (try dsimp only at hSw); go_simp; (try with_reducible rfl))); clear hcl; intro hcl; (try simp only [Act.put, List.getElem_toArray, List.getElem_cons_zero, List.getElem_cons_succ, List.setIfInBounds_toArray, List.set_cons_zero, List.set_cons_succ]))
      (refine wpM_take (i := 24) (v := ?_) rfl (by kernel_rfl) (by kernel_rfl) (by kernel_rfl) (by decide) (fun _ _ _ h => h) hcl hC (fun _ => hE) (Or.inl ⟨by rfl, ?_⟩) ?_; rotate_left; (· (intro w hSw; (try dsimp only at hSw); go_simp; (try with_reducible rfl))); clear hcl; intro hcl; (try simp only [Act.put, List.getElem_toArray, List.getElem_cons_zero, List.getElem_cons_succ, List.setIfInBounds_toArray, List.set_cons_zero, List.set_cons_succ]))
      (refine wpM_take (i := 25) (v := ?_) rfl (by kernel_rfl) (by kernel_rfl) (by kernel_rfl) (by decide) (fun _ _ _ h => h) hcl hC (fun _ => hE) (Or.inl ⟨by rfl, ?_⟩) ?_; rotate_left; (· (intro w hSw; (try dsimp only at hSw); go_simp; (try with_reducible rfl))); clear hcl; intro hcl; (try simp only [Act.put, List.getElem_toArray, List.getElem_cons_zero, List.getElem_cons_succ, List.setIfInBounds_toArray, List.set_cons_zero, List.set_cons_succ]))
      (refine wpM_take (i := 26) (v := ?_) rfl (by kernel_rfl) (by kernel_rfl) (by kernel_rfl) (by decide) (fun _ _ _ h => h) hcl hC (fun _ => hE) (Or.inl ⟨by rfl, ?_⟩) ?_; rotate_left; (· (intro w hSw; (try dsimp only at hSw); go_simp; (try with_reducible rfl))); clear hcl; intro hcl; (try simp only [Act.put, List.getElem_toArray, List.getElem_cons_zero, List.getElem_cons_succ, List.setIfInBounds_toArray, List.set_cons_zero, List.set_cons_succ]))
      (refine wpM_take (i := 27) (v := ?_) rfl (by kernel_rfl) (by kernel_rfl) (by kernel_rfl) (by decide) (fun _ _ _ h => h) hcl hC (fun _ => hE) (Or.inl ⟨by rfl, ?_⟩) ?_; rotate_left; (· (intro w hSw; (try dsimp only at hSw); go_simp; (try with_reducible rfl))); clear hcl; intro hcl; (try simp only [Act.put, List.getElem_toArray, List.getElem_cons_zero, List.getElem_cons_succ, List.setIfInBounds_toArray, List.set_cons_zero, List.set_cons_succ]))
      (refine wpM_take (i := 28) (v := ?_) rfl (by kernel_rfl) (by kernel_rfl) (by kernel_rfl) (by decide) (fun _ _ _ h => h) hcl hC (fun _ => hE) (Or.inl ⟨by rfl, ?_⟩) ?_; rotate_left; (· (intro w hSw; (try dsimp only at hSw); go_simp; (try with_reducible rfl))); clear hcl; intro hcl; (try simp only [Act.put, List.getElem_toArray, List.getElem_cons_zero, List.getElem_cons_succ, List.setIfInBounds_toArray, List.set_cons_zero, List.set_cons_succ]))
      (refine wpM_take (i := 29) (v := ?_) rfl (by kernel_rfl) (by kernel_rfl) (by kernel_rfl) (by decide) (fun _ _ _ h => h) hcl hC (fun _ => hE) (Or.inl ⟨by rfl, ?_⟩) ?_; rotate_left; (· (intro w hSw; (try dsimp only at hSw); go_simp; (try with_reducible rfl))); clear hcl; intro hcl; (try simp only [Act.put, List.getElem_toArray, List.getElem_cons_zero, List.getElem_cons_succ, List.setIfInBounds_toArray, List.set_cons_zero, List.set_cons_succ]))
      (refine wpM_take (i := 30) (v := ?_) rfl (by kernel_rfl) (by kernel_rfl) (by kernel_rfl) (by decide) (fun _ _ _ h => h) hcl hC (fun _ => hE) (Or.inl ⟨by rfl, ?_⟩) ?_; rotate_left; (· (intro w hSw; (try dsimp only at hSw); go_simp; (try with_reducible rfl))); clear hcl; intro hcl; (try simp only [Act.put, List.getElem_toArray, List.getElem_cons_zero, List.getElem_cons_succ, List.setIfInBounds_toArray, List.set_cons_zero, List.set_cons_succ]))
      (refine wpM_take (i := 34) (v := ?_) rfl (by kernel_rfl) (by kernel_rfl) (by kernel_rfl) (by decide) (fun _ _ _ h => h) hcl hC (fun _ => hE) (Or.inl ⟨by rfl, ?_⟩) ?_; rotate_left; (· (intro w hSw; (try dsimp only at hSw); go_simp; (try with_reducible rfl))); clear hcl; intro hcl; (try simp only [Act.put, List.getElem_toArray, List.getElem_cons_zero, List.getElem_cons_succ, List.setIfInBounds_toArray, List.set_cons_zero, List.set_cons_succ]))
      refine wpM_only (i := 31) rfl (by kernel_rfl) hcl (fun K hK => ?_)
      go_simp
      refine (cT.out v6 (hG5.trans (hB6'.mono hG5.size))).mono ?_
      rintro e v7 ⟨A9, c9, B9, d9, rfl, o9, p9, hv7⟩
      have hB7' : Below w5.heap.size w5 v7 := hB6'.trans (hv7.mono hB6'.size)
      have hC7 : KQ w5.heap.size w5 v7 := kq hB7'
      refine hK.out _ _ hC7 trivial ?_
      clear hK K
      clear hcl
      intro hcl
      (try simp only [Act.put, List.getElem_toArray, List.getElem_cons_zero, List.getElem_cons_succ, List.setIfInBounds_toArray, List.set_cons_zero, List.set_cons_succ])
      clear hC
      have hC := hC7
      refine wpM_only (i := 32) rfl (by kernel_rfl) hcl (fun K hK => ?_)
      go_simp
      refine (cE.out A9 c9 B9 d9 v7 (Ow.rdP o9) (Ow.rdT p9)).mono ?_
      rintro e v8 ⟨Ta, ta, ka, rfl, oa, hv8⟩
      have hB8' : Below w5.heap.size w5 v8 := hB7'.trans (hv8.mono hB7'.size)
      have hC8 : KQ w5.heap.size w5 v8 := kq hB8'
      clear o9 p9
      refine hK.out _ _ hC8 trivial ?_
      clear hK K
      clear hcl
      intro hcl
      (try simp only [Act.put, List.getElem_toArray, List.getElem_cons_zero, List.getElem_cons_succ, List.setIfInBounds_toArray, List.set_cons_zero, List.set_cons_succ])
      clear hC
      have hC := hC8
      refine wpM_only (i := 33) rfl (by kernel_rfl) hcl (fun K hK => ?_)
      go_simp
      refine (mlitems_any Ta ta ka EL v8 oa.rd.1 (by have h1 := oa.rd.2.1; have h2 := hELH.out; rw [List.length_map] at h1; omega)).mono ?_
      rintro e v9 ⟨Tc, tc, kc, rfl, oc, hv9⟩
      have hB9' : Below w5.heap.size w5 v9 := hB8'.trans (hv9.mono hB8'.size)
      have hC9 : KQ w5.heap.size w5 v9 := kq hB9'
      clear oa
      refine hK.out _ _ hC9 trivial ?_
      clear hK K
      clear hcl
      intro hcl
      (try simp only [Act.put, List.getElem_toArray, List.getElem_cons_zero, List.getElem_cons_succ, List.setIfInBounds_toArray, List.set_cons_zero, List.set_cons_succ])
      clear hC
      have hC := hC9
      refine wpM_only (i := 35) rfl (by kernel_rfl) hcl (fun K hK => ?_)
      go_simp
      refine (cRE.out v9 (hG5.trans (hB9'.mono hG5.size))).mono ?_
      rintro e va ⟨Tb, tb, kb, rfl, ob, hv10⟩
      have hB10' : Below w5.heap.size w5 va := hB9'.trans (hv10.mono hB9'.size)
      have hC10 : KQ w5.heap.size w5 va := kq hB10'
      have oc' := oc.below hv10
      refine hK.out _ _ hC10 trivial ?_
      clear hK K
      clear hcl
      intro hcl
      (try simp only [Act.put, List.getElem_toArray, List.getElem_cons_zero, List.getElem_cons_succ, List.setIfInBounds_toArray, List.set_cons_zero, List.set_cons_succ])
      clear hC
      have hC := hC10
      refine wpM_only (i := 36) rfl (by kernel_rfl) hcl (fun K hK => ?_)
      go_simp
      refine (sameitems_any Tc Tb tc tb kc kb EL EL va oc'.rd.1 ob.rd.1 (Nat.le_trans oc'.rd.2.2.1 oc'.rd.2.2.2) (Nat.le_trans ob.rd.2.2.1 ob.rd.2.2.2)).mono ?_
      rintro e vb ⟨rfl, hv11⟩
      rw [show (decide (EL = EL)) = true from by simp]
      have hB11' : Below w5.heap.size w5 vb := hB10'.trans (hv11.mono hB10'.size)
      have hC11 : KQ w5.heap.size w5 vb := kq hB11'
      clear oc oc' ob hv9 hv10
      refine hK.out _ _ hC11 trivial ?_
      clear hK K
      clear hcl
      intro hcl
      (try simp only [Act.put, List.getElem_toArray, List.getElem_cons_zero, List.getElem_cons_succ, List.setIfInBounds_toArray, List.set_cons_zero, List.set_cons_succ])
      clear hC
      have hC := hC11
      (refine wpM_take (i := 37) (v := ?_) rfl (by kernel_rfl) (by kernel_rfl) (by kernel_rfl) (by decide) (fun _ _ _ h => h) hcl hC (fun _ => hE) (Or.inl ⟨by rfl, ?_⟩) ?_; rotate_left; (· (intro w hSw; (try dsimp only at hSw); go_simp; (try with_reducible rfl))); clear hcl; intro hcl; (try simp only [Act.put, List.getElem_toArray, List.getElem_cons_zero, List.getElem_cons_succ, List.setIfInBounds_toArray, List.set_cons_zero, List.set_cons_succ]))
      (refine wpM_take (i := 38) (v := ?_) rfl (by kernel_rfl) (by kernel_rfl) (by kernel_rfl) (by decide) (fun _ _ _ h => h) hcl hC (fun _ => hE) (Or.inl ⟨by rfl, ?_⟩) ?_; rotate_left; (· (intro w hSw; (try dsimp only at hSw); go_simp; (try with_reducible rfl))); clear hcl; intro hcl; (try simp only [Act.put, List.getElem_toArray, List.getElem_cons_zero, List.getElem_cons_succ, List.setIfInBounds_toArray, List.set_cons_zero, List.set_cons_succ]))
      refine wpM_done (by kernel_rfl) ?_
      clear hcl hC
      try simp only [Act.put, List.getElem_toArray, List.getElem_cons_zero, List.getElem_cons_succ, List.setIfInBounds_toArray, List.set_cons_zero, List.set_cons_succ]
      have hfin := hW.trans ((hG5.trans (hB11'.mono hG5.size)).mono hzW)
      go_wp2
      go_ret
      exact ⟨rfl, hfin⟩
end Go.Proofs.Ytadldndmmobpdaa
