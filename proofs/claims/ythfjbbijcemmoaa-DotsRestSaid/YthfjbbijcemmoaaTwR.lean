/- The statement DotsRest, walked. -/
import Derived.Test.YthfjbbijcemmoaaWk
import Derived.Test.YthfjbbijcemmoaaVjA
import Derived.Test.YthfjbbijcemmoaaDtE
import Derived.Test.YthfjbbijcemmoaaRgB
namespace Go.Proofs.Ythfjbbijcemmoaa
open Go.RowKit

theorem grI_r {n : Nat} (h : grI n = false) : n ≤ 1100 := by
  unfold grI at h
  rw [decide_eq_false_iff_not] at h
  omega
set_option maxRecDepth 100000 in
set_option maxHeartbeats 4000000 in
theorem drest_any (v : Vm) (A : Option Addr) (n c : Nat) (xs : List Im) (x : Im) (w : World) (hA : RdI w w.heap.size A n xs) (hv : v.wf) (hx : ∀ x ∈ xs, x.wf) (hxw : x.wf) :
    Calls Try.prog 5 #[.agg #[.int .u32 v.d0, .int .u32 v.d1, .int .u32 v.d2, .int .u32 v.d3, .int .u32 v.d4, .int .u32 v.d5, .int .u32 v.d6, .int .u32 v.d7], .slice A n c, .agg #[.int .i64 x.1, .int .u32 x.2]] w fun e w' => e = .returned (.bool true) ∧ Below w.heap.size w w' := by
  have hW : Below w.heap.size w ((w.alloc (.cells #[.int .u32 v.d0, .int .u32 v.d1, .int .u32 v.d2, .int .u32 v.d3, .int .u32 v.d4, .int .u32 v.d5, .int .u32 v.d6, .int .u32 v.d7] 25)).alloc (.cells #[.int .i64 x.1, .int .u32 x.2] 35)) := ((Below.refl _ w).alloc (Nat.le_refl _) _).alloc (by simp) _
  have hbV0 : ((w.alloc (.cells #[.int .u32 v.d0, .int .u32 v.d1, .int .u32 v.d2, .int .u32 v.d3, .int .u32 v.d4, .int .u32 v.d5, .int .u32 v.d6, .int .u32 v.d7] 25)).alloc (.cells #[.int .i64 x.1, .int .u32 x.2] 35)).heap[w.heap.size]? = some (.cells #[.int .u32 v.d0, .int .u32 v.d1, .int .u32 v.d2, .int .u32 v.d3, .int .u32 v.d4, .int .u32 v.d5, .int .u32 v.d6, .int .u32 v.d7] 25 (0, 0)) := heap_old _ (by simp) (heap_at _ _ rfl)
  have hbX0 : ((w.alloc (.cells #[.int .u32 v.d0, .int .u32 v.d1, .int .u32 v.d2, .int .u32 v.d3, .int .u32 v.d4, .int .u32 v.d5, .int .u32 v.d6, .int .u32 v.d7] 25)).alloc (.cells #[.int .i64 x.1, .int .u32 x.2] 35)).heap[w.heap.size + 1]? = some (.cells #[.int .i64 x.1, .int .u32 x.2] 35 (0, 0)) := heap_at _ _ (by simp)
  have hz0 : w.heap.size + 2 ≤ ((w.alloc (.cells #[.int .u32 v.d0, .int .u32 v.d1, .int .u32 v.d2, .int .u32 v.d3, .int .u32 v.d4, .int .u32 v.d5, .int .u32 v.d6, .int .u32 v.d7] 25)).alloc (.cells #[.int .i64 x.1, .int .u32 x.2] 35)).heap.size := by simp
  generalize hWW : ((w.alloc (.cells #[.int .u32 v.d0, .int .u32 v.d1, .int .u32 v.d2, .int .u32 v.d3, .int .u32 v.d4, .int .u32 v.d5, .int .u32 v.d6, .int .u32 v.d7] 25)).alloc (.cells #[.int .i64 x.1, .int .u32 x.2] 35)) = W at hW hbV0 hbX0 hz0
  have wk := Lib.hid works_any
  have g1 := great_any A n c
  cases hga : grI n with
  | true =>
    rw [hga] at g1
    go_enter Try.func5, Try.ntmps5
    go_wp2_with fail
    refine (wk.out _).mono ?_
    rintro e w1 ⟨rfl, hb1⟩
    go_wp2_with fail
    refine (g1 _).mono ?_
    rintro e w2 ⟨rfl, rfl⟩
    have hG := hW.trans (hb1.mono (by omega))
    go_wp2
    go_ret
    exact ⟨rfl, hG⟩
  | false =>
    rw [hga] at g1
    have hn := grI_r hga
    clear hga
    have ho1 := Lib.hid (fun w' (hb : Below w.heap.size w w') => own_any A n c xs w' ((hA.below hb).more hb.size) hn)
    have hm1 := Lib.hid (fun A' c' w' (h1 : RdI w' w'.heap.size A' n xs) => make_any A' n c' xs w' h1 hn hx)
    have k1 := @make_ok xs
    generalize hp : makeOut xs = p at hm1 k1
    generalize makeErr xs = e1 at hm1 k1
    have k1H := Lib.hid k1
    have cV := Lib.hid (rvcheck_any v)
    clear hA hx hp k1
    go_enter Try.func5, Try.ntmps5
    go_wp2_with fail
    refine (wk.out _).mono ?_
    rintro e w1 ⟨rfl, hb1⟩
    have hB1 : Below (w.heap.size + 2) W w1 := hb1.mono hz0
    have hz1 : w.heap.size + 2 ≤ w1.heap.size := Nat.le_trans hz0 hb1.size
    have hw1 : Below w.heap.size w w1 := hW.trans (hB1.mono (by omega))
    go_wp2_with fail
    refine (g1 _).mono ?_
    rintro e wx ⟨rfl, rfl⟩
    go_wp2_with fail
    refine (ho1.out _ hw1).mono ?_
    rintro e w2 ⟨A2, c2, rfl, o2, hb2⟩
    have hB2 := hB1.trans (hb2.mono hz1)
    have hz2 : w.heap.size + 2 ≤ w2.heap.size := Nat.le_trans hz1 hb2.size
    have hw2 : Below w.heap.size w w2 := hW.trans (hB2.mono (by omega))
    go_wp2_with fail
    refine (hm1.out A2 c2 w2 o2.rd.1).mono ?_
    rintro e w3 ⟨A3, n3, c3, rfl, r3, hb3⟩
    have hB3 := hB2.trans (hb3.mono hz2)
    have hz3 : w.heap.size + 2 ≤ w3.heap.size := Nat.le_trans hz2 hb3.size
    have hw3 : Below w.heap.size w w3 := hW.trans (hB3.mono (by omega))
    clear o2
    by_cases he1 : e1 = 0
    · subst he1
      obtain ⟨hp, hpl, hp64, hpw⟩ := k1H.out rfl
      rw [← hp] at hpl hp64 hpw
      have hn3 := r3.1.len
      have hbV3 := (hB3.block w.heap.size (by omega)).trans hbV0
      have hltV3 := blk_lt hbV3
      have q0 := blk_cell hbV3 0
      have q1 := blk_cell hbV3 1
      have q2 := blk_cell hbV3 2
      have q3 := blk_cell hbV3 3
      have q4 := blk_cell hbV3 4
      have q5 := blk_cell hbV3 5
      have q6 := blk_cell hbV3 6
      have q7 := blk_cell hbV3 7
      simp at q0 q1 q2 q3 q4 q5 q6 q7
      go_wp2_with fail
      refine (cV.out _).mono ?_
      rintro e w4 ⟨rfl, hb4⟩
      have hB4 := hB3.trans (hb4.mono hz3)
      have hz4 : w.heap.size + 2 ≤ w4.heap.size := Nat.le_trans hz3 hb4.size
      have hw4 : Below w.heap.size w w4 := hW.trans (hB4.mono (by omega))
      have r4 := r3.below hb4
      clear q0 q1 q2 q3 q4 q5 q6 q7
      cases hvc : vchk v with
      | false =>
        rw [show errI false = 2 from rfl]
        go_wp2
        go_ret
        exact ⟨rfl, hw4⟩
      | true =>
        rw [show errI true = 0 from rfl]
        obtain ⟨f1, f2, f3, f4, f5, f6, f7, f8, f9, f10, f11, f12⟩ := fold_law hvc hpl
        have fw := foldV_wf p hv
        have hbV4 := (hB4.block w.heap.size (by omega)).trans hbV0
        have hbX4 := (hB4.block (w.heap.size + 1) (by omega)).trans hbX0
        have hltV4 := blk_lt hbV4
        have hltX4 := blk_lt hbX4
        have ho3 := Lib.hid (fun w' (hb : Below w4.heap.size w4 w') => own_any A3 n3 c3 p w' (r4.below hb).1 (by omega))
        have hF3 := Lib.hid (fun A' c' w' (h1 : RdI w' w'.heap.size A' n3 p) => fold_any v A' n3 c' p w' h1 (by omega) hv hpw)
        rw [f1, f2] at hF3
        have f7x := f7 x
        have f8x := f8 x
        have f9H := Lib.hid f9
        have f6H := Lib.hid f6
        have f101112 := Lib.hid (And.intro f10 (And.intro f11 f12))
        have f5H := Lib.hid f5
        have f4H := Lib.hid f4
        have hfr : (foldRest v p).length ≤ 64 := (lerr_zero.1 f6).1
        have hfrw : ∀ z ∈ foldRest v p, z.wf := fun z hz => chk_wf ((lerr_zero.1 f6).2.1 z hz)
        have hfrwH := Lib.hid hfrw
        clear k1H hp f1 f2 f3 f4 f5 f6 f7 f8 f9 f10 f11 f12 hpl hvc r3 hfrw
        generalize hfo : foldV v p = fo at *
        generalize hfr' : foldRest v p = fr at *
        have q0 := blk_cell hbV4 0
        have q1 := blk_cell hbV4 1
        have q2 := blk_cell hbV4 2
        have q3 := blk_cell hbV4 3
        have q4 := blk_cell hbV4 4
        have q5 := blk_cell hbV4 5
        have q6 := blk_cell hbV4 6
        have q7 := blk_cell hbV4 7
        simp at q0 q1 q2 q3 q4 q5 q6 q7
        go_upto_region 9 with (fail)
        go_cut [9, 10, 11] (fun sa sb sc wx => ∃ g A' n' c', sa = .pointer (some ⟨g, 0, none⟩) ∧ w4.heap.size ≤ g ∧ sb = .slice A' n' c' ∧ sc = .int .i64 0 ∧ wx.heap[g]? = some (.cells #[.int .u32 fo.d0, .int .u32 fo.d1, .int .u32 fo.d2, .int .u32 fo.d3, .int .u32 fo.d4, .int .u32 fo.d5, .int .u32 fo.d6, .int .u32 fo.d7] 25 (0, 0)) ∧ Ow wx w4.heap.size 35 2 (.slice A' n' c') ((fr).map Im.enc) ∧ Below w4.heap.size w4 wx)
        case first =>
          have hq0 : KQ w4.heap.size w4 w4 := kq (Below.refl _ _)
          go_region_held3 (fun w' => KQ w4.heap.size w4 w') (first
      | with_reducible exact kq_call (by assumption) (by simp) (by assumption)
      | with_reducible exact kq_grown (by assumption) (by simp) (by assumption) (by simp [Value.ownBlock])
      | ((repeat (first | (with_reducible refine kq_set ?_ (by first | (simp; done) | (simp; omega) | omega) _) | (with_reducible refine kq_alloc ?_ (by first | exact Nat.le_refl _ | (simp; done) | (simp; omega)) _))); (with_reducible assumption))
      | ((with_reducible refine kq ?_); (repeat (first | (with_reducible exact Below.refl _ _) | (with_reducible refine Below.drew ?_) | (with_reducible refine Below.alloc ?_ (by simp) _) | (with_reducible refine Below.setCell ?_ (by simp) _) | (with_reducible exact (by assumption : KQ _ _ _).1))); done))
            (first
              | (go_at_call 15; refine (ho3.out _ (by with_reducible assumption : KQ w4.heap.size w4 _).1).mono ?_; rintro e v2 ⟨A2, c2, rfl, o2, hb2⟩
                 have hz2 := hb2.size
                 (try simp at hz2)
                 have hq2 : KQ w4.heap.size w4 v2 := kq_call (by assumption) (by simp) hb2
                 (try (have hx2 : v2.heap[w4.heap.size]? = some (.cells #[.int .u32 0, .int .u32 0, .int .u32 0, .int .u32 0, .int .u32 0, .int .u32 0, .int .u32 0, .int .u32 0] 25 (0, 0)) := (hb2.block _ (by simp; done)).trans (heap_at _ _ (by simp; done)))))
              | (go_at_call 30; refine (hF3.out A2 c2 _ (by first | exact o2.rd.1 | exact (o2.below ((Below.refl _ _).alloc (Nat.le_refl _) _)).rd.1)).mono ?_; rintro e v3 ⟨A3, n3, c3, rfl, o3, hb3⟩
                 have hz3 := hb3.size
                 (try simp at hz3)
                 have hq3 : KQ w4.heap.size w4 v3 := kq_call (by assumption) (by simp) hb3
                 (first
                   | (have hx3 : v3.heap[w4.heap.size]? = some (.cells #[.int .u32 0, .int .u32 0, .int .u32 0, .int .u32 0, .int .u32 0, .int .u32 0, .int .u32 0, .int .u32 0] 25 (0, 0)) := (hb3.block _ (blk_lt hx2)).trans hx2
                      have hfx := blk_frozen hx3
                      have x0 := blk_cell hx3 0; have x1 := blk_cell hx3 1; have x2 := blk_cell hx3 2; have x3 := blk_cell hx3 3; have x4 := blk_cell hx3 4; have x5 := blk_cell hx3 5; have x6 := blk_cell hx3 6; have x7 := blk_cell hx3 7; simp at x0 x1 x2 x3 x4 x5 x6 x7)
                   | (have hx3 : v3.heap[v2.heap.size]? = some (.cells #[.int .u32 0, .int .u32 0, .int .u32 0, .int .u32 0, .int .u32 0, .int .u32 0, .int .u32 0, .int .u32 0] 25 (0, 0)) := (hb3.block _ (by simp; done)).trans (heap_at _ _ rfl)
                      have hfx := blk_frozen hx3
                      have x0 := blk_cell hx3 0; have x1 := blk_cell hx3 1; have x2 := blk_cell hx3 2; have x3 := blk_cell hx3 3; have x4 := blk_cell hx3 4; have x5 := blk_cell hx3 5; have x6 := blk_cell hx3 6; have x7 := blk_cell hx3 7; simp at x0 x1 x2 x3 x4 x5 x6 x7)
                   | skip)))
          · go_wp2_with fail
            go_meet
            refine ⟨_, A3, n3, c3, rfl, by omega, rfl, rfl, heap_at _ _ rfl, (o3.below ((Below.refl _ _).alloc (Nat.le_refl _) _)).base (by omega), ?_⟩
            exact (kq_alloc hq3 (by simp) _).1
          · go_wp2_with fail
            go_meet
            refine ⟨_, A3, n3, c3, rfl, by omega, rfl, rfl, ?_, ?_, ?_⟩
            · with_reducible exact blk_set8 hx3 _ _ _ _ _ _ _ _
            · refine Ow.base (base := v2.heap.size + 1) ?_ (by omega)
              repeat (with_reducible refine Ow.setCell ?_ (by first | (simp; done) | (simp; omega) | omega) _)
              exact o3.base (by simp)
            · have hq3B := hq3.1
              repeat (first | (with_reducible exact hq3B) | (with_reducible refine Below.drew ?_) | (with_reducible refine Below.alloc ?_ (by first | (simp; done) | (simp; omega) | omega) _) | (with_reducible refine Below.setCell ?_ (by first | (simp; done) | (simp; omega) | omega) _))
          · go_wp2_with fail
            go_meet
            refine ⟨_, A3, n3, c3, rfl, by omega, rfl, rfl, ?_, ?_, ?_⟩
            · with_reducible exact blk_set8 hx3 _ _ _ _ _ _ _ _
            · refine Ow.base (base := v2.heap.size) ?_ (by omega)
              repeat (with_reducible refine Ow.setCell ?_ (by first | (simp; done) | (simp; omega) | omega) _)
              exact o3
            · have hq3B := hq3.1
              repeat (first | (with_reducible exact hq3B) | (with_reducible refine Below.drew ?_) | (with_reducible refine Below.alloc ?_ (by first | (simp; done) | (simp; omega) | omega) _) | (with_reducible refine Below.setCell ?_ (by first | (simp; done) | (simp; omega) | omega) _))
        case rest =>
          obtain ⟨g, A5, n5, c5, rfl, hgl, rfl, rfl, hbG, o5, hb5⟩ := hcut
          have hB5 := hB4.trans (hb5.mono hz4)
          have hz5 : w.heap.size + 2 ≤ wc.heap.size := Nat.le_trans hz4 hb5.size
          have hw5 : Below w.heap.size w wc := hW.trans (hB5.mono (by omega))
          clear q0 q1 q2 q3 q4 q5 q6 q7 ho3 hF3
          have hbV5 := blk_below hbV4 hb5
          have hbX5 := blk_below hbX4 hb5
          have hltG := blk_lt hbG
          have hltV5 := blk_lt hbV5
          have hltX5 := blk_lt hbX5
          have hle := Lib.hid (vle_any v fo hv fw)
          rw [show eqV (joinV v fo) fo = true from eqV_iff.2 (join_le f4H.out)] at hle
          have q0 := blk_cell hbV5 0
          have q1 := blk_cell hbV5 1
          have q2 := blk_cell hbV5 2
          have q3 := blk_cell hbV5 3
          have q4 := blk_cell hbV5 4
          have q5 := blk_cell hbV5 5
          have q6 := blk_cell hbV5 6
          have q7 := blk_cell hbV5 7
          simp at q0 q1 q2 q3 q4 q5 q6 q7
          have s0 := blk_cell hbG 0
          have s1 := blk_cell hbG 1
          have s2 := blk_cell hbG 2
          have s3 := blk_cell hbG 3
          have s4 := blk_cell hbG 4
          have s5 := blk_cell hbG 5
          have s6 := blk_cell hbG 6
          have s7 := blk_cell hbG 7
          simp at s0 s1 s2 s3 s4 s5 s6 s7
          go_wp2_with fail
          refine (hle.out _).mono ?_
          rintro e w6 ⟨rfl, hb6⟩
          clear q0 q1 q2 q3 q4 q5 q6 q7 s0 s1 s2 s3 s4 s5 s6 s7
          have hB6 := hB5.trans (hb6.mono hz5)
          have hz6 : w.heap.size + 2 ≤ w6.heap.size := Nat.le_trans hz5 hb6.size
          have hw6 : Below w.heap.size w w6 := hW.trans (hB6.mono (by omega))
          have hbV6 := blk_below hbV5 hb6
          have hbX6 := blk_below hbX5 hb6
          have hbG6 := blk_below hbG hb6
          have o6 := o5.below hb6
          have r6 := r4.below (hb5.trans (hb6.mono hb5.size))
          have hltG6 := blk_lt hbG6
          have hltV6 := blk_lt hbV6
          have hltX6 := blk_lt hbX6
          clear hbV5 hbX5 hbG o5
          go_upto_region 12 with (fail)
          go_cut [77] (fun sg wx => sg = .bool false ∧ Below w6.heap.size w6 wx)
          case first =>
            have q0 := blk_cell hbV6 0
            have q1 := blk_cell hbV6 1
            have q2 := blk_cell hbV6 2
            have q3 := blk_cell hbV6 3
            have q4 := blk_cell hbV6 4
            have q5 := blk_cell hbV6 5
            have q6 := blk_cell hbV6 6
            have q7 := blk_cell hbV6 7
            simp at q0 q1 q2 q3 q4 q5 q6 q7
            have s0 := blk_cell hbG6 0
            have s1 := blk_cell hbG6 1
            have s2 := blk_cell hbG6 2
            have s3 := blk_cell hbG6 3
            have s4 := blk_cell hbG6 4
            have s5 := blk_cell hbG6 5
            have s6 := blk_cell hbG6 6
            have s7 := blk_cell hbG6 7
            simp at s0 s1 s2 s3 s4 s5 s6 s7
            have y0 := blk_cell hbX6 0
            have y1 := blk_cell hbX6 1
            simp at y0 y1
            have hq0 : KQ w6.heap.size w6 w6 := kq (Below.refl _ _)
            have h1 := Lib.hid (fun w' => vhas_any v x hxw w')
            have h2 := Lib.hid (fun w' (hb : Below w6.heap.size w6 w') => has_any A3 n3 c3 p x w' (r6.below hb).1 r6.2)
            have h3 := Lib.hid (fun w' => vhas_any fo x hxw w')
            have h4 := Lib.hid (fun w' (hb : Below w6.heap.size w6 w') => has_any A5 n5 c5 fr x w' ((o6.below hb).rd.1) (Nat.le_trans o6.rd.2.2.1 o6.rd.2.2.2))
            generalize hasV v x = bv at h1 f7x
            generalize p.contains x = bm at h2 f7x
            generalize hasV fo x = bw at h3 f7x f8x
            generalize fr.contains x = br at h4 f7x f8x
            clear hbV6 hbX6 hbG6 o6 r6
            cases bv
            · cases bw
              · cases bm <;> cases br <;> (first | (exfalso; revert f7x f8x; decide) | skip)
                all_goals
                  clear f7x f8x
                  refine wp_region_M (fun w' => KQ w6.heap.size w6 w') (fun _ => True) 99 (by kernel_rfl) (kq (Below.refl _ _).drew) trivial ?_
                  intro hcl
                  have hC : KQ w6.heap.size w6 w6.drew := kq (Below.refl _ _).drew
                  have hE := trivial
                  (refine wpM_take (i := 0) (v := ?_) rfl (by kernel_rfl) (by kernel_rfl) (by kernel_rfl) (by decide) (fun _ _ _ h => h) hcl hC (fun _ => hE) (Or.inl ⟨by rfl, ?_⟩) ?_; rotate_left; (· (intro w hSw; (try dsimp only at hSw); go_simp; (try with_reducible rfl))); clear hcl; intro hcl; (try simp only [Act.put, List.getElem_toArray, List.getElem_cons_zero, List.getElem_cons_succ, List.setIfInBounds_toArray, List.set_cons_zero, List.set_cons_succ]))
                  (refine wpM_take (i := 1) (v := ?_) rfl (by kernel_rfl) (by kernel_rfl) (by kernel_rfl) (by decide) (fun _ _ _ h => h) hcl hC (fun _ => hE) (Or.inl ⟨by rfl, ?_⟩) ?_; rotate_left; (· (intro w hSw; (try dsimp only at hSw); go_simp; (try with_reducible rfl))); clear hcl; intro hcl; (try simp only [Act.put, List.getElem_toArray, List.getElem_cons_zero, List.getElem_cons_succ, List.setIfInBounds_toArray, List.set_cons_zero, List.set_cons_succ]))
                  (refine wpM_take (i := 8) (v := ?_) rfl (by kernel_rfl) (by kernel_rfl) (by kernel_rfl) (by decide) (fun _ _ _ h => h) hcl hC (fun _ => hE) (Or.inl ⟨by rfl, ?_⟩) ?_; rotate_left; (· (intro w hSw; (try dsimp only at hSw); go_simp; (try with_reducible rfl))); clear hcl; intro hcl; (try simp only [Act.put, List.getElem_toArray, List.getElem_cons_zero, List.getElem_cons_succ, List.setIfInBounds_toArray, List.set_cons_zero, List.set_cons_succ]))
                  (refine wpM_take (i := 9) (v := ?_) rfl (by kernel_rfl) (by kernel_rfl) (by kernel_rfl) (by decide) (fun _ _ _ h => h) hcl hC (fun _ => hE) (Or.inl ⟨by rfl, ?_⟩) ?_; rotate_left; (· (intro w hSw; (try dsimp only at hSw); go_simp; (try with_reducible rfl))); clear hcl; intro hcl; (try simp only [Act.put, List.getElem_toArray, List.getElem_cons_zero, List.getElem_cons_succ, List.setIfInBounds_toArray, List.set_cons_zero, List.set_cons_succ]))
                  refine wpM_only (i := 2) rfl (by kernel_rfl) hcl (fun K hK => ?_)
                  go_simp
                  refine (h1.out _).mono ?_
                  rintro e v1 ⟨rfl, hv1⟩
                  have hC' := kq_call hC (Nat.le_refl _) hv1
                  refine hK.out _ _ hC' trivial ?_
                  clear hK K
                  clear hcl
                  intro hcl
                  (try simp only [Act.put, List.getElem_toArray, List.getElem_cons_zero, List.getElem_cons_succ, List.setIfInBounds_toArray, List.set_cons_zero, List.set_cons_succ])
                  clear hC
                  have hC := hC'
                  clear hC'
                  (refine wpM_take (i := 3) (v := ?_) rfl (by kernel_rfl) (by kernel_rfl) (by kernel_rfl) (by decide) (fun _ _ _ h => h) hcl hC (fun _ => hE) (Or.inl ⟨by rfl, ?_⟩) ?_; rotate_left; (· (intro w hSw; (try dsimp only at hSw); go_simp; (try with_reducible rfl))); clear hcl; intro hcl; (try simp only [Act.put, List.getElem_toArray, List.getElem_cons_zero, List.getElem_cons_succ, List.setIfInBounds_toArray, List.set_cons_zero, List.set_cons_succ]))
                  (refine wpM_take (i := 4) (v := ?_) rfl (by kernel_rfl) (by kernel_rfl) (by kernel_rfl) (by decide) (fun _ _ _ h => h) hcl hC (fun _ => hE) (Or.inl ⟨by rfl, ?_⟩) ?_; rotate_left; (· (intro w hSw; (try dsimp only at hSw); go_simp; (try with_reducible rfl))); clear hcl; intro hcl; (try simp only [Act.put, List.getElem_toArray, List.getElem_cons_zero, List.getElem_cons_succ, List.setIfInBounds_toArray, List.set_cons_zero, List.set_cons_succ]))
                  (refine wpM_take (i := 5) (v := ?_) rfl (by kernel_rfl) (by kernel_rfl) (by kernel_rfl) (by decide) (fun _ _ _ h => h) hcl hC (fun _ => hE) (Or.inl ⟨by rfl, ?_⟩) ?_; rotate_left; (· (intro w hSw; (try dsimp only at hSw); go_simp; (try with_reducible rfl))); clear hcl; intro hcl; (try simp only [Act.put, List.getElem_toArray, List.getElem_cons_zero, List.getElem_cons_succ, List.setIfInBounds_toArray, List.set_cons_zero, List.set_cons_succ]))
                  refine wpM_only (i := 6) rfl (by kernel_rfl) hcl (fun K hK => ?_)
                  go_simp
                  refine (h2.out _ hC.1).mono ?_
                  rintro e v2 ⟨rfl, hv2⟩
                  have hC' := kq_call hC (Nat.le_refl _) hv2
                  refine hK.out _ _ hC' trivial ?_
                  clear hK K
                  clear hcl
                  intro hcl
                  (try simp only [Act.put, List.getElem_toArray, List.getElem_cons_zero, List.getElem_cons_succ, List.setIfInBounds_toArray, List.set_cons_zero, List.set_cons_succ])
                  clear hC
                  have hC := hC'
                  clear hC'
                  (refine wpM_take (i := 7) (v := ?_) rfl (by kernel_rfl) (by kernel_rfl) (by kernel_rfl) (by decide) (fun _ _ _ h => h) hcl hC (fun _ => hE) (Or.inl ⟨by rfl, ?_⟩) ?_; rotate_left; (· (intro w hSw; (try dsimp only at hSw); go_simp; (try with_reducible rfl))); clear hcl; intro hcl; (try simp only [Act.put, List.getElem_toArray, List.getElem_cons_zero, List.getElem_cons_succ, List.setIfInBounds_toArray, List.set_cons_zero, List.set_cons_succ]))
                  refine wpM_only (i := 10) rfl (by kernel_rfl) hcl (fun K hK => ?_)
                  go_simp
                  refine (h3.out _).mono ?_
                  rintro e v3 ⟨rfl, hv3⟩
                  have hC' := kq_call hC (Nat.le_refl _) hv3
                  refine hK.out _ _ hC' trivial ?_
                  clear hK K
                  clear hcl
                  intro hcl
                  (try simp only [Act.put, List.getElem_toArray, List.getElem_cons_zero, List.getElem_cons_succ, List.setIfInBounds_toArray, List.set_cons_zero, List.set_cons_succ])
                  clear hC
                  have hC := hC'
                  clear hC'
                  (refine wpM_take (i := 11) (v := ?_) rfl (by kernel_rfl) (by kernel_rfl) (by kernel_rfl) (by decide) (fun _ _ _ h => h) hcl hC (fun _ => hE) (Or.inl ⟨by rfl, ?_⟩) ?_; rotate_left; (· (intro w hSw; (try dsimp only at hSw); go_simp; (try with_reducible rfl))); clear hcl; intro hcl; (try simp only [Act.put, List.getElem_toArray, List.getElem_cons_zero, List.getElem_cons_succ, List.setIfInBounds_toArray, List.set_cons_zero, List.set_cons_succ]))
                  (refine wpM_take (i := 12) (v := ?_) rfl (by kernel_rfl) (by kernel_rfl) (by kernel_rfl) (by decide) (fun _ _ _ h => h) hcl hC (fun _ => hE) (Or.inl ⟨by rfl, ?_⟩) ?_; rotate_left; (· (intro w hSw; (try dsimp only at hSw); go_simp; (try with_reducible rfl))); clear hcl; intro hcl; (try simp only [Act.put, List.getElem_toArray, List.getElem_cons_zero, List.getElem_cons_succ, List.setIfInBounds_toArray, List.set_cons_zero, List.set_cons_succ]))
                  (refine wpM_take (i := 13) (v := ?_) rfl (by kernel_rfl) (by kernel_rfl) (by kernel_rfl) (by decide) (fun _ _ _ h => h) hcl hC (fun _ => hE) (Or.inl ⟨by rfl, ?_⟩) ?_; rotate_left; (· (intro w hSw; (try dsimp only at hSw); go_simp; (try with_reducible rfl))); clear hcl; intro hcl; (try simp only [Act.put, List.getElem_toArray, List.getElem_cons_zero, List.getElem_cons_succ, List.setIfInBounds_toArray, List.set_cons_zero, List.set_cons_succ]))
                  refine wpM_only (i := 14) rfl (by kernel_rfl) hcl (fun K hK => ?_)
                  go_simp
                  refine (h4.out _ hC.1).mono ?_
                  rintro e v4 ⟨rfl, hv4⟩
                  have hC' := kq_call hC (Nat.le_refl _) hv4
                  refine hK.out _ _ hC' trivial ?_
                  clear hK K
                  clear hcl
                  intro hcl
                  (try simp only [Act.put, List.getElem_toArray, List.getElem_cons_zero, List.getElem_cons_succ, List.setIfInBounds_toArray, List.set_cons_zero, List.set_cons_succ])
                  clear hC
                  have hC := hC'
                  clear hC'
                  (refine wpM_take (i := 15) (v := ?_) rfl (by kernel_rfl) (by kernel_rfl) (by kernel_rfl) (by decide) (fun _ _ _ h => h) hcl hC (fun _ => hE) (Or.inl ⟨by rfl, ?_⟩) ?_; rotate_left; (· (intro w hSw; (try dsimp only at hSw); go_simp; (try with_reducible rfl))); clear hcl; intro hcl; (try simp only [Act.put, List.getElem_toArray, List.getElem_cons_zero, List.getElem_cons_succ, List.setIfInBounds_toArray, List.set_cons_zero, List.set_cons_succ]))
                  (refine wpM_take (i := 16) (v := ?_) rfl (by kernel_rfl) (by kernel_rfl) (by kernel_rfl) (by decide) (fun _ _ _ h => h) hcl hC (fun _ => hE) (Or.inl ⟨by rfl, ?_⟩) ?_; rotate_left; (· (intro w hSw; (try dsimp only at hSw); go_simp; (try with_reducible rfl))); clear hcl; intro hcl; (try simp only [Act.put, List.getElem_toArray, List.getElem_cons_zero, List.getElem_cons_succ, List.setIfInBounds_toArray, List.set_cons_zero, List.set_cons_succ]))
                  (refine wpM_take (i := 17) (v := ?_) rfl (by kernel_rfl) (by kernel_rfl) (by kernel_rfl) (by decide) (fun _ _ _ h => h) hcl hC (fun _ => hE) (Or.inl ⟨by rfl, ?_⟩) ?_; rotate_left; (· (intro w hSw; (try dsimp only at hSw); go_simp; (try with_reducible rfl))); clear hcl; intro hcl; (try simp only [Act.put, List.getElem_toArray, List.getElem_cons_zero, List.getElem_cons_succ, List.setIfInBounds_toArray, List.set_cons_zero, List.set_cons_succ]))
                  (refine wpM_take (i := 18) (v := ?_) rfl (by kernel_rfl) (by kernel_rfl) (by kernel_rfl) (by decide) (fun _ _ _ h => h) hcl hC (fun _ => hE) (Or.inl ⟨by rfl, ?_⟩) ?_; rotate_left; (· (intro w hSw; (try dsimp only at hSw); go_simp; (try with_reducible rfl))); clear hcl; intro hcl; (try simp only [Act.put, List.getElem_toArray, List.getElem_cons_zero, List.getElem_cons_succ, List.setIfInBounds_toArray, List.set_cons_zero, List.set_cons_succ]))
                  (refine wpM_take (i := 19) (v := ?_) rfl (by kernel_rfl) (by kernel_rfl) (by kernel_rfl) (by decide) (fun _ _ _ h => h) hcl hC (fun _ => hE) (Or.inl ⟨by rfl, ?_⟩) ?_; rotate_left; (· (intro w hSw; (try dsimp only at hSw); go_simp; (try with_reducible rfl))); clear hcl; intro hcl; (try simp only [Act.put, List.getElem_toArray, List.getElem_cons_zero, List.getElem_cons_succ, List.setIfInBounds_toArray, List.set_cons_zero, List.set_cons_succ]))
                  refine wpM_only (i := 20) rfl (by kernel_rfl) hcl (fun K hK => ?_)
                  go_simp
                  refine (h3.out _).mono ?_
                  rintro e v5 ⟨rfl, hv5⟩
                  have hC' := kq_call hC (Nat.le_refl _) hv5
                  refine hK.out _ _ hC' trivial ?_
                  clear hK K
                  clear hcl
                  intro hcl
                  (try simp only [Act.put, List.getElem_toArray, List.getElem_cons_zero, List.getElem_cons_succ, List.setIfInBounds_toArray, List.set_cons_zero, List.set_cons_succ])
                  clear hC
                  have hC := hC'
                  clear hC'
                  (refine wpM_take (i := 21) (v := ?_) rfl (by kernel_rfl) (by kernel_rfl) (by kernel_rfl) (by decide) (fun _ _ _ h => h) hcl hC (fun _ => hE) (Or.inl ⟨by rfl, ?_⟩) ?_; rotate_left; (· (intro w hSw; (try dsimp only at hSw); go_simp; (try with_reducible rfl))); clear hcl; intro hcl; (try simp only [Act.put, List.getElem_toArray, List.getElem_cons_zero, List.getElem_cons_succ, List.setIfInBounds_toArray, List.set_cons_zero, List.set_cons_succ]))
                  (refine wpM_take (i := 22) (v := undef) rfl (by kernel_rfl) (by kernel_rfl) (by kernel_rfl) (by decide) (fun _ _ _ h => h) hcl hC (fun _ => hE) (Or.inr ⟨by rfl, rfl⟩) ?_; clear hcl; intro hcl; (try simp only [Act.put, List.getElem_toArray, List.getElem_cons_zero, List.getElem_cons_succ, List.setIfInBounds_toArray, List.set_cons_zero, List.set_cons_succ]))
                  (refine wpM_take (i := 23) (v := undef) rfl (by kernel_rfl) (by kernel_rfl) (by kernel_rfl) (by decide) (fun _ _ _ h => h) hcl hC (fun _ => hE) (Or.inr ⟨by rfl, rfl⟩) ?_; clear hcl; intro hcl; (try simp only [Act.put, List.getElem_toArray, List.getElem_cons_zero, List.getElem_cons_succ, List.setIfInBounds_toArray, List.set_cons_zero, List.set_cons_succ]))
                  (refine wpM_take (i := 24) (v := undef) rfl (by kernel_rfl) (by kernel_rfl) (by kernel_rfl) (by decide) (fun _ _ _ h => h) hcl hC (fun _ => hE) (Or.inr ⟨by rfl, rfl⟩) ?_; clear hcl; intro hcl; (try simp only [Act.put, List.getElem_toArray, List.getElem_cons_zero, List.getElem_cons_succ, List.setIfInBounds_toArray, List.set_cons_zero, List.set_cons_succ]))
                  (refine wpM_take (i := 25) (v := ?_) rfl (by kernel_rfl) (by kernel_rfl) (by kernel_rfl) (by decide) (fun _ _ _ h => h) hcl hC (fun _ => hE) (Or.inl ⟨by rfl, ?_⟩) ?_; rotate_left; (· (intro w hSw; (try dsimp only at hSw); go_simp; (try with_reducible rfl))); clear hcl; intro hcl; (try simp only [Act.put, List.getElem_toArray, List.getElem_cons_zero, List.getElem_cons_succ, List.setIfInBounds_toArray, List.set_cons_zero, List.set_cons_succ]))
                  (refine wpM_take (i := 26) (v := ?_) rfl (by kernel_rfl) (by kernel_rfl) (by kernel_rfl) (by decide) (fun _ _ _ h => h) hcl hC (fun _ => hE) (Or.inl ⟨by rfl, ?_⟩) ?_; rotate_left; (· (intro w hSw; (try dsimp only at hSw); go_simp; (try with_reducible rfl))); clear hcl; intro hcl; (try simp only [Act.put, List.getElem_toArray, List.getElem_cons_zero, List.getElem_cons_succ, List.setIfInBounds_toArray, List.set_cons_zero, List.set_cons_succ]))
                  refine wpM_done (by kernel_rfl) ?_
                  clear hcl
                  try simp only [List.getElem_toArray, List.getElem_cons_zero, List.getElem_cons_succ, List.setIfInBounds_toArray, List.set_cons_zero, List.set_cons_succ]
                  go_wp2_with fail
                  go_meet
                  exact ⟨rfl, hC.1⟩
              · cases bm <;> cases br <;> (first | (exfalso; revert f7x f8x; decide) | skip)
                all_goals
                  clear f7x f8x
                  refine wp_region_M (fun w' => KQ w6.heap.size w6 w') (fun _ => True) 99 (by kernel_rfl) (kq (Below.refl _ _).drew) trivial ?_
                  intro hcl
                  have hC : KQ w6.heap.size w6 w6.drew := kq (Below.refl _ _).drew
                  have hE := trivial
                  (refine wpM_take (i := 0) (v := ?_) rfl (by kernel_rfl) (by kernel_rfl) (by kernel_rfl) (by decide) (fun _ _ _ h => h) hcl hC (fun _ => hE) (Or.inl ⟨by rfl, ?_⟩) ?_; rotate_left; (· (intro w hSw; (try dsimp only at hSw); go_simp; (try with_reducible rfl))); clear hcl; intro hcl; (try simp only [Act.put, List.getElem_toArray, List.getElem_cons_zero, List.getElem_cons_succ, List.setIfInBounds_toArray, List.set_cons_zero, List.set_cons_succ]))
                  (refine wpM_take (i := 1) (v := ?_) rfl (by kernel_rfl) (by kernel_rfl) (by kernel_rfl) (by decide) (fun _ _ _ h => h) hcl hC (fun _ => hE) (Or.inl ⟨by rfl, ?_⟩) ?_; rotate_left; (· (intro w hSw; (try dsimp only at hSw); go_simp; (try with_reducible rfl))); clear hcl; intro hcl; (try simp only [Act.put, List.getElem_toArray, List.getElem_cons_zero, List.getElem_cons_succ, List.setIfInBounds_toArray, List.set_cons_zero, List.set_cons_succ]))
                  (refine wpM_take (i := 8) (v := ?_) rfl (by kernel_rfl) (by kernel_rfl) (by kernel_rfl) (by decide) (fun _ _ _ h => h) hcl hC (fun _ => hE) (Or.inl ⟨by rfl, ?_⟩) ?_; rotate_left; (· (intro w hSw; (try dsimp only at hSw); go_simp; (try with_reducible rfl))); clear hcl; intro hcl; (try simp only [Act.put, List.getElem_toArray, List.getElem_cons_zero, List.getElem_cons_succ, List.setIfInBounds_toArray, List.set_cons_zero, List.set_cons_succ]))
                  (refine wpM_take (i := 9) (v := ?_) rfl (by kernel_rfl) (by kernel_rfl) (by kernel_rfl) (by decide) (fun _ _ _ h => h) hcl hC (fun _ => hE) (Or.inl ⟨by rfl, ?_⟩) ?_; rotate_left; (· (intro w hSw; (try dsimp only at hSw); go_simp; (try with_reducible rfl))); clear hcl; intro hcl; (try simp only [Act.put, List.getElem_toArray, List.getElem_cons_zero, List.getElem_cons_succ, List.setIfInBounds_toArray, List.set_cons_zero, List.set_cons_succ]))
                  refine wpM_only (i := 2) rfl (by kernel_rfl) hcl (fun K hK => ?_)
                  go_simp
                  refine (h1.out _).mono ?_
                  rintro e v1 ⟨rfl, hv1⟩
                  have hC' := kq_call hC (Nat.le_refl _) hv1
                  refine hK.out _ _ hC' trivial ?_
                  clear hK K
                  clear hcl
                  intro hcl
                  (try simp only [Act.put, List.getElem_toArray, List.getElem_cons_zero, List.getElem_cons_succ, List.setIfInBounds_toArray, List.set_cons_zero, List.set_cons_succ])
                  clear hC
                  have hC := hC'
                  clear hC'
                  (refine wpM_take (i := 3) (v := ?_) rfl (by kernel_rfl) (by kernel_rfl) (by kernel_rfl) (by decide) (fun _ _ _ h => h) hcl hC (fun _ => hE) (Or.inl ⟨by rfl, ?_⟩) ?_; rotate_left; (· (intro w hSw; (try dsimp only at hSw); go_simp; (try with_reducible rfl))); clear hcl; intro hcl; (try simp only [Act.put, List.getElem_toArray, List.getElem_cons_zero, List.getElem_cons_succ, List.setIfInBounds_toArray, List.set_cons_zero, List.set_cons_succ]))
                  (refine wpM_take (i := 4) (v := ?_) rfl (by kernel_rfl) (by kernel_rfl) (by kernel_rfl) (by decide) (fun _ _ _ h => h) hcl hC (fun _ => hE) (Or.inl ⟨by rfl, ?_⟩) ?_; rotate_left; (· (intro w hSw; (try dsimp only at hSw); go_simp; (try with_reducible rfl))); clear hcl; intro hcl; (try simp only [Act.put, List.getElem_toArray, List.getElem_cons_zero, List.getElem_cons_succ, List.setIfInBounds_toArray, List.set_cons_zero, List.set_cons_succ]))
                  (refine wpM_take (i := 5) (v := ?_) rfl (by kernel_rfl) (by kernel_rfl) (by kernel_rfl) (by decide) (fun _ _ _ h => h) hcl hC (fun _ => hE) (Or.inl ⟨by rfl, ?_⟩) ?_; rotate_left; (· (intro w hSw; (try dsimp only at hSw); go_simp; (try with_reducible rfl))); clear hcl; intro hcl; (try simp only [Act.put, List.getElem_toArray, List.getElem_cons_zero, List.getElem_cons_succ, List.setIfInBounds_toArray, List.set_cons_zero, List.set_cons_succ]))
                  refine wpM_only (i := 6) rfl (by kernel_rfl) hcl (fun K hK => ?_)
                  go_simp
                  refine (h2.out _ hC.1).mono ?_
                  rintro e v2 ⟨rfl, hv2⟩
                  have hC' := kq_call hC (Nat.le_refl _) hv2
                  refine hK.out _ _ hC' trivial ?_
                  clear hK K
                  clear hcl
                  intro hcl
                  (try simp only [Act.put, List.getElem_toArray, List.getElem_cons_zero, List.getElem_cons_succ, List.setIfInBounds_toArray, List.set_cons_zero, List.set_cons_succ])
                  clear hC
                  have hC := hC'
                  clear hC'
                  (refine wpM_take (i := 7) (v := ?_) rfl (by kernel_rfl) (by kernel_rfl) (by kernel_rfl) (by decide) (fun _ _ _ h => h) hcl hC (fun _ => hE) (Or.inl ⟨by rfl, ?_⟩) ?_; rotate_left; (· (intro w hSw; (try dsimp only at hSw); go_simp; (try with_reducible rfl))); clear hcl; intro hcl; (try simp only [Act.put, List.getElem_toArray, List.getElem_cons_zero, List.getElem_cons_succ, List.setIfInBounds_toArray, List.set_cons_zero, List.set_cons_succ]))
                  refine wpM_only (i := 10) rfl (by kernel_rfl) hcl (fun K hK => ?_)
                  go_simp
                  refine (h3.out _).mono ?_
                  rintro e v3 ⟨rfl, hv3⟩
                  have hC' := kq_call hC (Nat.le_refl _) hv3
                  refine hK.out _ _ hC' trivial ?_
                  clear hK K
                  clear hcl
                  intro hcl
                  (try simp only [Act.put, List.getElem_toArray, List.getElem_cons_zero, List.getElem_cons_succ, List.setIfInBounds_toArray, List.set_cons_zero, List.set_cons_succ])
                  clear hC
                  have hC := hC'
                  clear hC'
                  (refine wpM_take (i := 11) (v := ?_) rfl (by kernel_rfl) (by kernel_rfl) (by kernel_rfl) (by decide) (fun _ _ _ h => h) hcl hC (fun _ => hE) (Or.inl ⟨by rfl, ?_⟩) ?_; rotate_left; (· (intro w hSw; (try dsimp only at hSw); go_simp; (try with_reducible rfl))); clear hcl; intro hcl; (try simp only [Act.put, List.getElem_toArray, List.getElem_cons_zero, List.getElem_cons_succ, List.setIfInBounds_toArray, List.set_cons_zero, List.set_cons_succ]))
                  (refine wpM_take (i := 12) (v := undef) rfl (by kernel_rfl) (by kernel_rfl) (by kernel_rfl) (by decide) (fun _ _ _ h => h) hcl hC (fun _ => hE) (Or.inr ⟨by rfl, rfl⟩) ?_; clear hcl; intro hcl; (try simp only [Act.put, List.getElem_toArray, List.getElem_cons_zero, List.getElem_cons_succ, List.setIfInBounds_toArray, List.set_cons_zero, List.set_cons_succ]))
                  (refine wpM_take (i := 13) (v := undef) rfl (by kernel_rfl) (by kernel_rfl) (by kernel_rfl) (by decide) (fun _ _ _ h => h) hcl hC (fun _ => hE) (Or.inr ⟨by rfl, rfl⟩) ?_; clear hcl; intro hcl; (try simp only [Act.put, List.getElem_toArray, List.getElem_cons_zero, List.getElem_cons_succ, List.setIfInBounds_toArray, List.set_cons_zero, List.set_cons_succ]))
                  (refine wpM_take (i := 14) (v := undef) rfl (by kernel_rfl) (by kernel_rfl) (by kernel_rfl) (by decide) (fun _ _ _ h => h) hcl hC (fun _ => hE) (Or.inr ⟨by rfl, rfl⟩) ?_; clear hcl; intro hcl; (try simp only [Act.put, List.getElem_toArray, List.getElem_cons_zero, List.getElem_cons_succ, List.setIfInBounds_toArray, List.set_cons_zero, List.set_cons_succ]))
                  (refine wpM_take (i := 15) (v := ?_) rfl (by kernel_rfl) (by kernel_rfl) (by kernel_rfl) (by decide) (fun _ _ _ h => h) hcl hC (fun _ => hE) (Or.inl ⟨by rfl, ?_⟩) ?_; rotate_left; (· (intro w hSw; (try dsimp only at hSw); go_simp; (try with_reducible rfl))); clear hcl; intro hcl; (try simp only [Act.put, List.getElem_toArray, List.getElem_cons_zero, List.getElem_cons_succ, List.setIfInBounds_toArray, List.set_cons_zero, List.set_cons_succ]))
                  (refine wpM_take (i := 16) (v := ?_) rfl (by kernel_rfl) (by kernel_rfl) (by kernel_rfl) (by decide) (fun _ _ _ h => h) hcl hC (fun _ => hE) (Or.inl ⟨by rfl, ?_⟩) ?_; rotate_left; (· (intro w hSw; (try dsimp only at hSw); go_simp; (try with_reducible rfl))); clear hcl; intro hcl; (try simp only [Act.put, List.getElem_toArray, List.getElem_cons_zero, List.getElem_cons_succ, List.setIfInBounds_toArray, List.set_cons_zero, List.set_cons_succ]))
                  (refine wpM_take (i := 17) (v := ?_) rfl (by kernel_rfl) (by kernel_rfl) (by kernel_rfl) (by decide) (fun _ _ _ h => h) hcl hC (fun _ => hE) (Or.inl ⟨by rfl, ?_⟩) ?_; rotate_left; (· (intro w hSw; (try dsimp only at hSw); go_simp; (try with_reducible rfl))); clear hcl; intro hcl; (try simp only [Act.put, List.getElem_toArray, List.getElem_cons_zero, List.getElem_cons_succ, List.setIfInBounds_toArray, List.set_cons_zero, List.set_cons_succ]))
                  (refine wpM_take (i := 18) (v := ?_) rfl (by kernel_rfl) (by kernel_rfl) (by kernel_rfl) (by decide) (fun _ _ _ h => h) hcl hC (fun _ => hE) (Or.inl ⟨by rfl, ?_⟩) ?_; rotate_left; (· (intro w hSw; (try dsimp only at hSw); go_simp; (try with_reducible rfl))); clear hcl; intro hcl; (try simp only [Act.put, List.getElem_toArray, List.getElem_cons_zero, List.getElem_cons_succ, List.setIfInBounds_toArray, List.set_cons_zero, List.set_cons_succ]))
                  (refine wpM_take (i := 19) (v := ?_) rfl (by kernel_rfl) (by kernel_rfl) (by kernel_rfl) (by decide) (fun _ _ _ h => h) hcl hC (fun _ => hE) (Or.inl ⟨by rfl, ?_⟩) ?_; rotate_left; (· (intro w hSw; (try dsimp only at hSw); go_simp; (try with_reducible rfl))); clear hcl; intro hcl; (try simp only [Act.put, List.getElem_toArray, List.getElem_cons_zero, List.getElem_cons_succ, List.setIfInBounds_toArray, List.set_cons_zero, List.set_cons_succ]))
                  refine wpM_only (i := 20) rfl (by kernel_rfl) hcl (fun K hK => ?_)
                  go_simp
                  refine (h3.out _).mono ?_
                  rintro e v5 ⟨rfl, hv5⟩
                  have hC' := kq_call hC (Nat.le_refl _) hv5
                  refine hK.out _ _ hC' trivial ?_
                  clear hK K
                  clear hcl
                  intro hcl
                  (try simp only [Act.put, List.getElem_toArray, List.getElem_cons_zero, List.getElem_cons_succ, List.setIfInBounds_toArray, List.set_cons_zero, List.set_cons_succ])
                  clear hC
                  have hC := hC'
                  clear hC'
                  (refine wpM_take (i := 21) (v := ?_) rfl (by kernel_rfl) (by kernel_rfl) (by kernel_rfl) (by decide) (fun _ _ _ h => h) hcl hC (fun _ => hE) (Or.inl ⟨by rfl, ?_⟩) ?_; rotate_left; (· (intro w hSw; (try dsimp only at hSw); go_simp; (try with_reducible rfl))); clear hcl; intro hcl; (try simp only [Act.put, List.getElem_toArray, List.getElem_cons_zero, List.getElem_cons_succ, List.setIfInBounds_toArray, List.set_cons_zero, List.set_cons_succ]))
                  (refine wpM_take (i := 22) (v := ?_) rfl (by kernel_rfl) (by kernel_rfl) (by kernel_rfl) (by decide) (fun _ _ _ h => h) hcl hC (fun _ => hE) (Or.inl ⟨by rfl, ?_⟩) ?_; rotate_left; (· (intro w hSw; (try dsimp only at hSw); go_simp; (try with_reducible rfl))); clear hcl; intro hcl; (try simp only [Act.put, List.getElem_toArray, List.getElem_cons_zero, List.getElem_cons_succ, List.setIfInBounds_toArray, List.set_cons_zero, List.set_cons_succ]))
                  (refine wpM_take (i := 23) (v := ?_) rfl (by kernel_rfl) (by kernel_rfl) (by kernel_rfl) (by decide) (fun _ _ _ h => h) hcl hC (fun _ => hE) (Or.inl ⟨by rfl, ?_⟩) ?_; rotate_left; (· (intro w hSw; (try dsimp only at hSw); go_simp; (try with_reducible rfl))); clear hcl; intro hcl; (try simp only [Act.put, List.getElem_toArray, List.getElem_cons_zero, List.getElem_cons_succ, List.setIfInBounds_toArray, List.set_cons_zero, List.set_cons_succ]))
                  refine wpM_only (i := 24) rfl (by kernel_rfl) hcl (fun K hK => ?_)
                  go_simp
                  refine (h4.out _ hC.1).mono ?_
                  rintro e v6 ⟨rfl, hv6⟩
                  have hC' := kq_call hC (Nat.le_refl _) hv6
                  refine hK.out _ _ hC' trivial ?_
                  clear hK K
                  clear hcl
                  intro hcl
                  (try simp only [Act.put, List.getElem_toArray, List.getElem_cons_zero, List.getElem_cons_succ, List.setIfInBounds_toArray, List.set_cons_zero, List.set_cons_succ])
                  clear hC
                  have hC := hC'
                  clear hC'
                  (refine wpM_take (i := 25) (v := ?_) rfl (by kernel_rfl) (by kernel_rfl) (by kernel_rfl) (by decide) (fun _ _ _ h => h) hcl hC (fun _ => hE) (Or.inl ⟨by rfl, ?_⟩) ?_; rotate_left; (· (intro w hSw; (try dsimp only at hSw); go_simp; (try with_reducible rfl))); clear hcl; intro hcl; (try simp only [Act.put, List.getElem_toArray, List.getElem_cons_zero, List.getElem_cons_succ, List.setIfInBounds_toArray, List.set_cons_zero, List.set_cons_succ]))
                  (refine wpM_take (i := 26) (v := ?_) rfl (by kernel_rfl) (by kernel_rfl) (by kernel_rfl) (by decide) (fun _ _ _ h => h) hcl hC (fun _ => hE) (Or.inl ⟨by rfl, ?_⟩) ?_; rotate_left; (· (intro w hSw; (try dsimp only at hSw); go_simp; (try with_reducible rfl))); clear hcl; intro hcl; (try simp only [Act.put, List.getElem_toArray, List.getElem_cons_zero, List.getElem_cons_succ, List.setIfInBounds_toArray, List.set_cons_zero, List.set_cons_succ]))
                  refine wpM_done (by kernel_rfl) ?_
                  clear hcl
                  try simp only [List.getElem_toArray, List.getElem_cons_zero, List.getElem_cons_succ, List.setIfInBounds_toArray, List.set_cons_zero, List.set_cons_succ]
                  go_wp2_with fail
                  go_meet
                  exact ⟨rfl, hC.1⟩
            · cases bw
              · cases bm <;> cases br <;> (first | (exfalso; revert f7x f8x; decide) | skip)
                all_goals
                  clear f7x f8x
                  refine wp_region_M (fun w' => KQ w6.heap.size w6 w') (fun _ => True) 99 (by kernel_rfl) (kq (Below.refl _ _).drew) trivial ?_
                  intro hcl
                  have hC : KQ w6.heap.size w6 w6.drew := kq (Below.refl _ _).drew
                  have hE := trivial
                  (refine wpM_take (i := 0) (v := ?_) rfl (by kernel_rfl) (by kernel_rfl) (by kernel_rfl) (by decide) (fun _ _ _ h => h) hcl hC (fun _ => hE) (Or.inl ⟨by rfl, ?_⟩) ?_; rotate_left; (· (intro w hSw; (try dsimp only at hSw); go_simp; (try with_reducible rfl))); clear hcl; intro hcl; (try simp only [Act.put, List.getElem_toArray, List.getElem_cons_zero, List.getElem_cons_succ, List.setIfInBounds_toArray, List.set_cons_zero, List.set_cons_succ]))
                  (refine wpM_take (i := 1) (v := ?_) rfl (by kernel_rfl) (by kernel_rfl) (by kernel_rfl) (by decide) (fun _ _ _ h => h) hcl hC (fun _ => hE) (Or.inl ⟨by rfl, ?_⟩) ?_; rotate_left; (· (intro w hSw; (try dsimp only at hSw); go_simp; (try with_reducible rfl))); clear hcl; intro hcl; (try simp only [Act.put, List.getElem_toArray, List.getElem_cons_zero, List.getElem_cons_succ, List.setIfInBounds_toArray, List.set_cons_zero, List.set_cons_succ]))
                  (refine wpM_take (i := 8) (v := ?_) rfl (by kernel_rfl) (by kernel_rfl) (by kernel_rfl) (by decide) (fun _ _ _ h => h) hcl hC (fun _ => hE) (Or.inl ⟨by rfl, ?_⟩) ?_; rotate_left; (· (intro w hSw; (try dsimp only at hSw); go_simp; (try with_reducible rfl))); clear hcl; intro hcl; (try simp only [Act.put, List.getElem_toArray, List.getElem_cons_zero, List.getElem_cons_succ, List.setIfInBounds_toArray, List.set_cons_zero, List.set_cons_succ]))
                  (refine wpM_take (i := 9) (v := ?_) rfl (by kernel_rfl) (by kernel_rfl) (by kernel_rfl) (by decide) (fun _ _ _ h => h) hcl hC (fun _ => hE) (Or.inl ⟨by rfl, ?_⟩) ?_; rotate_left; (· (intro w hSw; (try dsimp only at hSw); go_simp; (try with_reducible rfl))); clear hcl; intro hcl; (try simp only [Act.put, List.getElem_toArray, List.getElem_cons_zero, List.getElem_cons_succ, List.setIfInBounds_toArray, List.set_cons_zero, List.set_cons_succ]))
                  refine wpM_only (i := 2) rfl (by kernel_rfl) hcl (fun K hK => ?_)
                  go_simp
                  refine (h1.out _).mono ?_
                  rintro e v1 ⟨rfl, hv1⟩
                  have hC' := kq_call hC (Nat.le_refl _) hv1
                  refine hK.out _ _ hC' trivial ?_
                  clear hK K
                  clear hcl
                  intro hcl
                  (try simp only [Act.put, List.getElem_toArray, List.getElem_cons_zero, List.getElem_cons_succ, List.setIfInBounds_toArray, List.set_cons_zero, List.set_cons_succ])
                  clear hC
                  have hC := hC'
                  clear hC'
                  (refine wpM_take (i := 3) (v := ?_) rfl (by kernel_rfl) (by kernel_rfl) (by kernel_rfl) (by decide) (fun _ _ _ h => h) hcl hC (fun _ => hE) (Or.inl ⟨by rfl, ?_⟩) ?_; rotate_left; (· (intro w hSw; (try dsimp only at hSw); go_simp; (try with_reducible rfl))); clear hcl; intro hcl; (try simp only [Act.put, List.getElem_toArray, List.getElem_cons_zero, List.getElem_cons_succ, List.setIfInBounds_toArray, List.set_cons_zero, List.set_cons_succ]))
                  (refine wpM_take (i := 4) (v := undef) rfl (by kernel_rfl) (by kernel_rfl) (by kernel_rfl) (by decide) (fun _ _ _ h => h) hcl hC (fun _ => hE) (Or.inr ⟨by rfl, rfl⟩) ?_; clear hcl; intro hcl; (try simp only [Act.put, List.getElem_toArray, List.getElem_cons_zero, List.getElem_cons_succ, List.setIfInBounds_toArray, List.set_cons_zero, List.set_cons_succ]))
                  (refine wpM_take (i := 5) (v := undef) rfl (by kernel_rfl) (by kernel_rfl) (by kernel_rfl) (by decide) (fun _ _ _ h => h) hcl hC (fun _ => hE) (Or.inr ⟨by rfl, rfl⟩) ?_; clear hcl; intro hcl; (try simp only [Act.put, List.getElem_toArray, List.getElem_cons_zero, List.getElem_cons_succ, List.setIfInBounds_toArray, List.set_cons_zero, List.set_cons_succ]))
                  (refine wpM_take (i := 6) (v := undef) rfl (by kernel_rfl) (by kernel_rfl) (by kernel_rfl) (by decide) (fun _ _ _ h => h) hcl hC (fun _ => hE) (Or.inr ⟨by rfl, rfl⟩) ?_; clear hcl; intro hcl; (try simp only [Act.put, List.getElem_toArray, List.getElem_cons_zero, List.getElem_cons_succ, List.setIfInBounds_toArray, List.set_cons_zero, List.set_cons_succ]))
                  (refine wpM_take (i := 7) (v := ?_) rfl (by kernel_rfl) (by kernel_rfl) (by kernel_rfl) (by decide) (fun _ _ _ h => h) hcl hC (fun _ => hE) (Or.inl ⟨by rfl, ?_⟩) ?_; rotate_left; (· (intro w hSw; (try dsimp only at hSw); go_simp; (try with_reducible rfl))); clear hcl; intro hcl; (try simp only [Act.put, List.getElem_toArray, List.getElem_cons_zero, List.getElem_cons_succ, List.setIfInBounds_toArray, List.set_cons_zero, List.set_cons_succ]))
                  refine wpM_only (i := 10) rfl (by kernel_rfl) hcl (fun K hK => ?_)
                  go_simp
                  refine (h3.out _).mono ?_
                  rintro e v3 ⟨rfl, hv3⟩
                  have hC' := kq_call hC (Nat.le_refl _) hv3
                  refine hK.out _ _ hC' trivial ?_
                  clear hK K
                  clear hcl
                  intro hcl
                  (try simp only [Act.put, List.getElem_toArray, List.getElem_cons_zero, List.getElem_cons_succ, List.setIfInBounds_toArray, List.set_cons_zero, List.set_cons_succ])
                  clear hC
                  have hC := hC'
                  clear hC'
                  (refine wpM_take (i := 11) (v := ?_) rfl (by kernel_rfl) (by kernel_rfl) (by kernel_rfl) (by decide) (fun _ _ _ h => h) hcl hC (fun _ => hE) (Or.inl ⟨by rfl, ?_⟩) ?_; rotate_left; (· (intro w hSw; (try dsimp only at hSw); go_simp; (try with_reducible rfl))); clear hcl; intro hcl; (try simp only [Act.put, List.getElem_toArray, List.getElem_cons_zero, List.getElem_cons_succ, List.setIfInBounds_toArray, List.set_cons_zero, List.set_cons_succ]))
                  (refine wpM_take (i := 12) (v := ?_) rfl (by kernel_rfl) (by kernel_rfl) (by kernel_rfl) (by decide) (fun _ _ _ h => h) hcl hC (fun _ => hE) (Or.inl ⟨by rfl, ?_⟩) ?_; rotate_left; (· (intro w hSw; (try dsimp only at hSw); go_simp; (try with_reducible rfl))); clear hcl; intro hcl; (try simp only [Act.put, List.getElem_toArray, List.getElem_cons_zero, List.getElem_cons_succ, List.setIfInBounds_toArray, List.set_cons_zero, List.set_cons_succ]))
                  (refine wpM_take (i := 13) (v := ?_) rfl (by kernel_rfl) (by kernel_rfl) (by kernel_rfl) (by decide) (fun _ _ _ h => h) hcl hC (fun _ => hE) (Or.inl ⟨by rfl, ?_⟩) ?_; rotate_left; (· (intro w hSw; (try dsimp only at hSw); go_simp; (try with_reducible rfl))); clear hcl; intro hcl; (try simp only [Act.put, List.getElem_toArray, List.getElem_cons_zero, List.getElem_cons_succ, List.setIfInBounds_toArray, List.set_cons_zero, List.set_cons_succ]))
                  refine wpM_only (i := 14) rfl (by kernel_rfl) hcl (fun K hK => ?_)
                  go_simp
                  refine (h4.out _ hC.1).mono ?_
                  rintro e v4 ⟨rfl, hv4⟩
                  have hC' := kq_call hC (Nat.le_refl _) hv4
                  refine hK.out _ _ hC' trivial ?_
                  clear hK K
                  clear hcl
                  intro hcl
                  (try simp only [Act.put, List.getElem_toArray, List.getElem_cons_zero, List.getElem_cons_succ, List.setIfInBounds_toArray, List.set_cons_zero, List.set_cons_succ])
                  clear hC
                  have hC := hC'
                  clear hC'
                  (refine wpM_take (i := 15) (v := ?_) rfl (by kernel_rfl) (by kernel_rfl) (by kernel_rfl) (by decide) (fun _ _ _ h => h) hcl hC (fun _ => hE) (Or.inl ⟨by rfl, ?_⟩) ?_; rotate_left; (· (intro w hSw; (try dsimp only at hSw); go_simp; (try with_reducible rfl))); clear hcl; intro hcl; (try simp only [Act.put, List.getElem_toArray, List.getElem_cons_zero, List.getElem_cons_succ, List.setIfInBounds_toArray, List.set_cons_zero, List.set_cons_succ]))
                  (refine wpM_take (i := 16) (v := ?_) rfl (by kernel_rfl) (by kernel_rfl) (by kernel_rfl) (by decide) (fun _ _ _ h => h) hcl hC (fun _ => hE) (Or.inl ⟨by rfl, ?_⟩) ?_; rotate_left; (· (intro w hSw; (try dsimp only at hSw); go_simp; (try with_reducible rfl))); clear hcl; intro hcl; (try simp only [Act.put, List.getElem_toArray, List.getElem_cons_zero, List.getElem_cons_succ, List.setIfInBounds_toArray, List.set_cons_zero, List.set_cons_succ]))
                  (refine wpM_take (i := 17) (v := ?_) rfl (by kernel_rfl) (by kernel_rfl) (by kernel_rfl) (by decide) (fun _ _ _ h => h) hcl hC (fun _ => hE) (Or.inl ⟨by rfl, ?_⟩) ?_; rotate_left; (· (intro w hSw; (try dsimp only at hSw); go_simp; (try with_reducible rfl))); clear hcl; intro hcl; (try simp only [Act.put, List.getElem_toArray, List.getElem_cons_zero, List.getElem_cons_succ, List.setIfInBounds_toArray, List.set_cons_zero, List.set_cons_succ]))
                  (refine wpM_take (i := 18) (v := ?_) rfl (by kernel_rfl) (by kernel_rfl) (by kernel_rfl) (by decide) (fun _ _ _ h => h) hcl hC (fun _ => hE) (Or.inl ⟨by rfl, ?_⟩) ?_; rotate_left; (· (intro w hSw; (try dsimp only at hSw); go_simp; (try with_reducible rfl))); clear hcl; intro hcl; (try simp only [Act.put, List.getElem_toArray, List.getElem_cons_zero, List.getElem_cons_succ, List.setIfInBounds_toArray, List.set_cons_zero, List.set_cons_succ]))
                  (refine wpM_take (i := 19) (v := ?_) rfl (by kernel_rfl) (by kernel_rfl) (by kernel_rfl) (by decide) (fun _ _ _ h => h) hcl hC (fun _ => hE) (Or.inl ⟨by rfl, ?_⟩) ?_; rotate_left; (· (intro w hSw; (try dsimp only at hSw); go_simp; (try with_reducible rfl))); clear hcl; intro hcl; (try simp only [Act.put, List.getElem_toArray, List.getElem_cons_zero, List.getElem_cons_succ, List.setIfInBounds_toArray, List.set_cons_zero, List.set_cons_succ]))
                  refine wpM_only (i := 20) rfl (by kernel_rfl) hcl (fun K hK => ?_)
                  go_simp
                  refine (h3.out _).mono ?_
                  rintro e v5 ⟨rfl, hv5⟩
                  have hC' := kq_call hC (Nat.le_refl _) hv5
                  refine hK.out _ _ hC' trivial ?_
                  clear hK K
                  clear hcl
                  intro hcl
                  (try simp only [Act.put, List.getElem_toArray, List.getElem_cons_zero, List.getElem_cons_succ, List.setIfInBounds_toArray, List.set_cons_zero, List.set_cons_succ])
                  clear hC
                  have hC := hC'
                  clear hC'
                  (refine wpM_take (i := 21) (v := ?_) rfl (by kernel_rfl) (by kernel_rfl) (by kernel_rfl) (by decide) (fun _ _ _ h => h) hcl hC (fun _ => hE) (Or.inl ⟨by rfl, ?_⟩) ?_; rotate_left; (· (intro w hSw; (try dsimp only at hSw); go_simp; (try with_reducible rfl))); clear hcl; intro hcl; (try simp only [Act.put, List.getElem_toArray, List.getElem_cons_zero, List.getElem_cons_succ, List.setIfInBounds_toArray, List.set_cons_zero, List.set_cons_succ]))
                  (refine wpM_take (i := 22) (v := undef) rfl (by kernel_rfl) (by kernel_rfl) (by kernel_rfl) (by decide) (fun _ _ _ h => h) hcl hC (fun _ => hE) (Or.inr ⟨by rfl, rfl⟩) ?_; clear hcl; intro hcl; (try simp only [Act.put, List.getElem_toArray, List.getElem_cons_zero, List.getElem_cons_succ, List.setIfInBounds_toArray, List.set_cons_zero, List.set_cons_succ]))
                  (refine wpM_take (i := 23) (v := undef) rfl (by kernel_rfl) (by kernel_rfl) (by kernel_rfl) (by decide) (fun _ _ _ h => h) hcl hC (fun _ => hE) (Or.inr ⟨by rfl, rfl⟩) ?_; clear hcl; intro hcl; (try simp only [Act.put, List.getElem_toArray, List.getElem_cons_zero, List.getElem_cons_succ, List.setIfInBounds_toArray, List.set_cons_zero, List.set_cons_succ]))
                  (refine wpM_take (i := 24) (v := undef) rfl (by kernel_rfl) (by kernel_rfl) (by kernel_rfl) (by decide) (fun _ _ _ h => h) hcl hC (fun _ => hE) (Or.inr ⟨by rfl, rfl⟩) ?_; clear hcl; intro hcl; (try simp only [Act.put, List.getElem_toArray, List.getElem_cons_zero, List.getElem_cons_succ, List.setIfInBounds_toArray, List.set_cons_zero, List.set_cons_succ]))
                  (refine wpM_take (i := 25) (v := ?_) rfl (by kernel_rfl) (by kernel_rfl) (by kernel_rfl) (by decide) (fun _ _ _ h => h) hcl hC (fun _ => hE) (Or.inl ⟨by rfl, ?_⟩) ?_; rotate_left; (· (intro w hSw; (try dsimp only at hSw); go_simp; (try with_reducible rfl))); clear hcl; intro hcl; (try simp only [Act.put, List.getElem_toArray, List.getElem_cons_zero, List.getElem_cons_succ, List.setIfInBounds_toArray, List.set_cons_zero, List.set_cons_succ]))
                  (refine wpM_take (i := 26) (v := ?_) rfl (by kernel_rfl) (by kernel_rfl) (by kernel_rfl) (by decide) (fun _ _ _ h => h) hcl hC (fun _ => hE) (Or.inl ⟨by rfl, ?_⟩) ?_; rotate_left; (· (intro w hSw; (try dsimp only at hSw); go_simp; (try with_reducible rfl))); clear hcl; intro hcl; (try simp only [Act.put, List.getElem_toArray, List.getElem_cons_zero, List.getElem_cons_succ, List.setIfInBounds_toArray, List.set_cons_zero, List.set_cons_succ]))
                  refine wpM_done (by kernel_rfl) ?_
                  clear hcl
                  try simp only [List.getElem_toArray, List.getElem_cons_zero, List.getElem_cons_succ, List.setIfInBounds_toArray, List.set_cons_zero, List.set_cons_succ]
                  go_wp2_with fail
                  go_meet
                  exact ⟨rfl, hC.1⟩
              · cases bm <;> cases br <;> (first | (exfalso; revert f7x f8x; decide) | skip)
                all_goals
                  clear f7x f8x
                  refine wp_region_M (fun w' => KQ w6.heap.size w6 w') (fun _ => True) 99 (by kernel_rfl) (kq (Below.refl _ _).drew) trivial ?_
                  intro hcl
                  have hC : KQ w6.heap.size w6 w6.drew := kq (Below.refl _ _).drew
                  have hE := trivial
                  (refine wpM_take (i := 0) (v := ?_) rfl (by kernel_rfl) (by kernel_rfl) (by kernel_rfl) (by decide) (fun _ _ _ h => h) hcl hC (fun _ => hE) (Or.inl ⟨by rfl, ?_⟩) ?_; rotate_left; (· (intro w hSw; (try dsimp only at hSw); go_simp; (try with_reducible rfl))); clear hcl; intro hcl; (try simp only [Act.put, List.getElem_toArray, List.getElem_cons_zero, List.getElem_cons_succ, List.setIfInBounds_toArray, List.set_cons_zero, List.set_cons_succ]))
                  (refine wpM_take (i := 1) (v := ?_) rfl (by kernel_rfl) (by kernel_rfl) (by kernel_rfl) (by decide) (fun _ _ _ h => h) hcl hC (fun _ => hE) (Or.inl ⟨by rfl, ?_⟩) ?_; rotate_left; (· (intro w hSw; (try dsimp only at hSw); go_simp; (try with_reducible rfl))); clear hcl; intro hcl; (try simp only [Act.put, List.getElem_toArray, List.getElem_cons_zero, List.getElem_cons_succ, List.setIfInBounds_toArray, List.set_cons_zero, List.set_cons_succ]))
                  (refine wpM_take (i := 8) (v := ?_) rfl (by kernel_rfl) (by kernel_rfl) (by kernel_rfl) (by decide) (fun _ _ _ h => h) hcl hC (fun _ => hE) (Or.inl ⟨by rfl, ?_⟩) ?_; rotate_left; (· (intro w hSw; (try dsimp only at hSw); go_simp; (try with_reducible rfl))); clear hcl; intro hcl; (try simp only [Act.put, List.getElem_toArray, List.getElem_cons_zero, List.getElem_cons_succ, List.setIfInBounds_toArray, List.set_cons_zero, List.set_cons_succ]))
                  (refine wpM_take (i := 9) (v := ?_) rfl (by kernel_rfl) (by kernel_rfl) (by kernel_rfl) (by decide) (fun _ _ _ h => h) hcl hC (fun _ => hE) (Or.inl ⟨by rfl, ?_⟩) ?_; rotate_left; (· (intro w hSw; (try dsimp only at hSw); go_simp; (try with_reducible rfl))); clear hcl; intro hcl; (try simp only [Act.put, List.getElem_toArray, List.getElem_cons_zero, List.getElem_cons_succ, List.setIfInBounds_toArray, List.set_cons_zero, List.set_cons_succ]))
                  refine wpM_only (i := 2) rfl (by kernel_rfl) hcl (fun K hK => ?_)
                  go_simp
                  refine (h1.out _).mono ?_
                  rintro e v1 ⟨rfl, hv1⟩
                  have hC' := kq_call hC (Nat.le_refl _) hv1
                  refine hK.out _ _ hC' trivial ?_
                  clear hK K
                  clear hcl
                  intro hcl
                  (try simp only [Act.put, List.getElem_toArray, List.getElem_cons_zero, List.getElem_cons_succ, List.setIfInBounds_toArray, List.set_cons_zero, List.set_cons_succ])
                  clear hC
                  have hC := hC'
                  clear hC'
                  (refine wpM_take (i := 3) (v := ?_) rfl (by kernel_rfl) (by kernel_rfl) (by kernel_rfl) (by decide) (fun _ _ _ h => h) hcl hC (fun _ => hE) (Or.inl ⟨by rfl, ?_⟩) ?_; rotate_left; (· (intro w hSw; (try dsimp only at hSw); go_simp; (try with_reducible rfl))); clear hcl; intro hcl; (try simp only [Act.put, List.getElem_toArray, List.getElem_cons_zero, List.getElem_cons_succ, List.setIfInBounds_toArray, List.set_cons_zero, List.set_cons_succ]))
                  (refine wpM_take (i := 4) (v := undef) rfl (by kernel_rfl) (by kernel_rfl) (by kernel_rfl) (by decide) (fun _ _ _ h => h) hcl hC (fun _ => hE) (Or.inr ⟨by rfl, rfl⟩) ?_; clear hcl; intro hcl; (try simp only [Act.put, List.getElem_toArray, List.getElem_cons_zero, List.getElem_cons_succ, List.setIfInBounds_toArray, List.set_cons_zero, List.set_cons_succ]))
                  (refine wpM_take (i := 5) (v := undef) rfl (by kernel_rfl) (by kernel_rfl) (by kernel_rfl) (by decide) (fun _ _ _ h => h) hcl hC (fun _ => hE) (Or.inr ⟨by rfl, rfl⟩) ?_; clear hcl; intro hcl; (try simp only [Act.put, List.getElem_toArray, List.getElem_cons_zero, List.getElem_cons_succ, List.setIfInBounds_toArray, List.set_cons_zero, List.set_cons_succ]))
                  (refine wpM_take (i := 6) (v := undef) rfl (by kernel_rfl) (by kernel_rfl) (by kernel_rfl) (by decide) (fun _ _ _ h => h) hcl hC (fun _ => hE) (Or.inr ⟨by rfl, rfl⟩) ?_; clear hcl; intro hcl; (try simp only [Act.put, List.getElem_toArray, List.getElem_cons_zero, List.getElem_cons_succ, List.setIfInBounds_toArray, List.set_cons_zero, List.set_cons_succ]))
                  (refine wpM_take (i := 7) (v := ?_) rfl (by kernel_rfl) (by kernel_rfl) (by kernel_rfl) (by decide) (fun _ _ _ h => h) hcl hC (fun _ => hE) (Or.inl ⟨by rfl, ?_⟩) ?_; rotate_left; (· (intro w hSw; (try dsimp only at hSw); go_simp; (try with_reducible rfl))); clear hcl; intro hcl; (try simp only [Act.put, List.getElem_toArray, List.getElem_cons_zero, List.getElem_cons_succ, List.setIfInBounds_toArray, List.set_cons_zero, List.set_cons_succ]))
                  refine wpM_only (i := 10) rfl (by kernel_rfl) hcl (fun K hK => ?_)
                  go_simp
                  refine (h3.out _).mono ?_
                  rintro e v3 ⟨rfl, hv3⟩
                  have hC' := kq_call hC (Nat.le_refl _) hv3
                  refine hK.out _ _ hC' trivial ?_
                  clear hK K
                  clear hcl
                  intro hcl
                  (try simp only [Act.put, List.getElem_toArray, List.getElem_cons_zero, List.getElem_cons_succ, List.setIfInBounds_toArray, List.set_cons_zero, List.set_cons_succ])
                  clear hC
                  have hC := hC'
                  clear hC'
                  (refine wpM_take (i := 11) (v := ?_) rfl (by kernel_rfl) (by kernel_rfl) (by kernel_rfl) (by decide) (fun _ _ _ h => h) hcl hC (fun _ => hE) (Or.inl ⟨by rfl, ?_⟩) ?_; rotate_left; (· (intro w hSw; (try dsimp only at hSw); go_simp; (try with_reducible rfl))); clear hcl; intro hcl; (try simp only [Act.put, List.getElem_toArray, List.getElem_cons_zero, List.getElem_cons_succ, List.setIfInBounds_toArray, List.set_cons_zero, List.set_cons_succ]))
                  (refine wpM_take (i := 12) (v := undef) rfl (by kernel_rfl) (by kernel_rfl) (by kernel_rfl) (by decide) (fun _ _ _ h => h) hcl hC (fun _ => hE) (Or.inr ⟨by rfl, rfl⟩) ?_; clear hcl; intro hcl; (try simp only [Act.put, List.getElem_toArray, List.getElem_cons_zero, List.getElem_cons_succ, List.setIfInBounds_toArray, List.set_cons_zero, List.set_cons_succ]))
                  (refine wpM_take (i := 13) (v := undef) rfl (by kernel_rfl) (by kernel_rfl) (by kernel_rfl) (by decide) (fun _ _ _ h => h) hcl hC (fun _ => hE) (Or.inr ⟨by rfl, rfl⟩) ?_; clear hcl; intro hcl; (try simp only [Act.put, List.getElem_toArray, List.getElem_cons_zero, List.getElem_cons_succ, List.setIfInBounds_toArray, List.set_cons_zero, List.set_cons_succ]))
                  (refine wpM_take (i := 14) (v := undef) rfl (by kernel_rfl) (by kernel_rfl) (by kernel_rfl) (by decide) (fun _ _ _ h => h) hcl hC (fun _ => hE) (Or.inr ⟨by rfl, rfl⟩) ?_; clear hcl; intro hcl; (try simp only [Act.put, List.getElem_toArray, List.getElem_cons_zero, List.getElem_cons_succ, List.setIfInBounds_toArray, List.set_cons_zero, List.set_cons_succ]))
                  (refine wpM_take (i := 15) (v := ?_) rfl (by kernel_rfl) (by kernel_rfl) (by kernel_rfl) (by decide) (fun _ _ _ h => h) hcl hC (fun _ => hE) (Or.inl ⟨by rfl, ?_⟩) ?_; rotate_left; (· (intro w hSw; (try dsimp only at hSw); go_simp; (try with_reducible rfl))); clear hcl; intro hcl; (try simp only [Act.put, List.getElem_toArray, List.getElem_cons_zero, List.getElem_cons_succ, List.setIfInBounds_toArray, List.set_cons_zero, List.set_cons_succ]))
                  (refine wpM_take (i := 16) (v := ?_) rfl (by kernel_rfl) (by kernel_rfl) (by kernel_rfl) (by decide) (fun _ _ _ h => h) hcl hC (fun _ => hE) (Or.inl ⟨by rfl, ?_⟩) ?_; rotate_left; (· (intro w hSw; (try dsimp only at hSw); go_simp; (try with_reducible rfl))); clear hcl; intro hcl; (try simp only [Act.put, List.getElem_toArray, List.getElem_cons_zero, List.getElem_cons_succ, List.setIfInBounds_toArray, List.set_cons_zero, List.set_cons_succ]))
                  (refine wpM_take (i := 17) (v := ?_) rfl (by kernel_rfl) (by kernel_rfl) (by kernel_rfl) (by decide) (fun _ _ _ h => h) hcl hC (fun _ => hE) (Or.inl ⟨by rfl, ?_⟩) ?_; rotate_left; (· (intro w hSw; (try dsimp only at hSw); go_simp; (try with_reducible rfl))); clear hcl; intro hcl; (try simp only [Act.put, List.getElem_toArray, List.getElem_cons_zero, List.getElem_cons_succ, List.setIfInBounds_toArray, List.set_cons_zero, List.set_cons_succ]))
                  (refine wpM_take (i := 18) (v := ?_) rfl (by kernel_rfl) (by kernel_rfl) (by kernel_rfl) (by decide) (fun _ _ _ h => h) hcl hC (fun _ => hE) (Or.inl ⟨by rfl, ?_⟩) ?_; rotate_left; (· (intro w hSw; (try dsimp only at hSw); go_simp; (try with_reducible rfl))); clear hcl; intro hcl; (try simp only [Act.put, List.getElem_toArray, List.getElem_cons_zero, List.getElem_cons_succ, List.setIfInBounds_toArray, List.set_cons_zero, List.set_cons_succ]))
                  (refine wpM_take (i := 19) (v := ?_) rfl (by kernel_rfl) (by kernel_rfl) (by kernel_rfl) (by decide) (fun _ _ _ h => h) hcl hC (fun _ => hE) (Or.inl ⟨by rfl, ?_⟩) ?_; rotate_left; (· (intro w hSw; (try dsimp only at hSw); go_simp; (try with_reducible rfl))); clear hcl; intro hcl; (try simp only [Act.put, List.getElem_toArray, List.getElem_cons_zero, List.getElem_cons_succ, List.setIfInBounds_toArray, List.set_cons_zero, List.set_cons_succ]))
                  refine wpM_only (i := 20) rfl (by kernel_rfl) hcl (fun K hK => ?_)
                  go_simp
                  refine (h3.out _).mono ?_
                  rintro e v5 ⟨rfl, hv5⟩
                  have hC' := kq_call hC (Nat.le_refl _) hv5
                  refine hK.out _ _ hC' trivial ?_
                  clear hK K
                  clear hcl
                  intro hcl
                  (try simp only [Act.put, List.getElem_toArray, List.getElem_cons_zero, List.getElem_cons_succ, List.setIfInBounds_toArray, List.set_cons_zero, List.set_cons_succ])
                  clear hC
                  have hC := hC'
                  clear hC'
                  (refine wpM_take (i := 21) (v := ?_) rfl (by kernel_rfl) (by kernel_rfl) (by kernel_rfl) (by decide) (fun _ _ _ h => h) hcl hC (fun _ => hE) (Or.inl ⟨by rfl, ?_⟩) ?_; rotate_left; (· (intro w hSw; (try dsimp only at hSw); go_simp; (try with_reducible rfl))); clear hcl; intro hcl; (try simp only [Act.put, List.getElem_toArray, List.getElem_cons_zero, List.getElem_cons_succ, List.setIfInBounds_toArray, List.set_cons_zero, List.set_cons_succ]))
                  (refine wpM_take (i := 22) (v := ?_) rfl (by kernel_rfl) (by kernel_rfl) (by kernel_rfl) (by decide) (fun _ _ _ h => h) hcl hC (fun _ => hE) (Or.inl ⟨by rfl, ?_⟩) ?_; rotate_left; (· (intro w hSw; (try dsimp only at hSw); go_simp; (try with_reducible rfl))); clear hcl; intro hcl; (try simp only [Act.put, List.getElem_toArray, List.getElem_cons_zero, List.getElem_cons_succ, List.setIfInBounds_toArray, List.set_cons_zero, List.set_cons_succ]))
                  (refine wpM_take (i := 23) (v := ?_) rfl (by kernel_rfl) (by kernel_rfl) (by kernel_rfl) (by decide) (fun _ _ _ h => h) hcl hC (fun _ => hE) (Or.inl ⟨by rfl, ?_⟩) ?_; rotate_left; (· (intro w hSw; (try dsimp only at hSw); go_simp; (try with_reducible rfl))); clear hcl; intro hcl; (try simp only [Act.put, List.getElem_toArray, List.getElem_cons_zero, List.getElem_cons_succ, List.setIfInBounds_toArray, List.set_cons_zero, List.set_cons_succ]))
                  refine wpM_only (i := 24) rfl (by kernel_rfl) hcl (fun K hK => ?_)
                  go_simp
                  refine (h4.out _ hC.1).mono ?_
                  rintro e v6 ⟨rfl, hv6⟩
                  have hC' := kq_call hC (Nat.le_refl _) hv6
                  refine hK.out _ _ hC' trivial ?_
                  clear hK K
                  clear hcl
                  intro hcl
                  (try simp only [Act.put, List.getElem_toArray, List.getElem_cons_zero, List.getElem_cons_succ, List.setIfInBounds_toArray, List.set_cons_zero, List.set_cons_succ])
                  clear hC
                  have hC := hC'
                  clear hC'
                  (refine wpM_take (i := 25) (v := ?_) rfl (by kernel_rfl) (by kernel_rfl) (by kernel_rfl) (by decide) (fun _ _ _ h => h) hcl hC (fun _ => hE) (Or.inl ⟨by rfl, ?_⟩) ?_; rotate_left; (· (intro w hSw; (try dsimp only at hSw); go_simp; (try with_reducible rfl))); clear hcl; intro hcl; (try simp only [Act.put, List.getElem_toArray, List.getElem_cons_zero, List.getElem_cons_succ, List.setIfInBounds_toArray, List.set_cons_zero, List.set_cons_succ]))
                  (refine wpM_take (i := 26) (v := ?_) rfl (by kernel_rfl) (by kernel_rfl) (by kernel_rfl) (by decide) (fun _ _ _ h => h) hcl hC (fun _ => hE) (Or.inl ⟨by rfl, ?_⟩) ?_; rotate_left; (· (intro w hSw; (try dsimp only at hSw); go_simp; (try with_reducible rfl))); clear hcl; intro hcl; (try simp only [Act.put, List.getElem_toArray, List.getElem_cons_zero, List.getElem_cons_succ, List.setIfInBounds_toArray, List.set_cons_zero, List.set_cons_succ]))
                  refine wpM_done (by kernel_rfl) ?_
                  clear hcl
                  try simp only [List.getElem_toArray, List.getElem_cons_zero, List.getElem_cons_succ, List.setIfInBounds_toArray, List.set_cons_zero, List.set_cons_succ]
                  go_wp2_with fail
                  go_meet
                  exact ⟨rfl, hC.1⟩
          case rest =>
            obtain ⟨rfl, hb7⟩ := hcut
            have hB7 := hB6.trans (hb7.mono hz6)
            have hw7 : Below w.heap.size w wc := hW.trans (hB7.mono (by omega))
            have hbG7 := blk_below hbG6 hb7
            have o7 := o6.below hb7
            have hn5 : fr.length = n5 := by simpa using o7.rd.2.1
            have hn5c := o7.rd.2.2.1
            have hA7 : RdI wc wc.heap.size A5 n5 fr := o7.rd.1
            have hA5m : n5 ≤ maxLen := Nat.le_trans o7.rd.2.2.1 o7.rd.2.2.2
            have hbG7k := Lib.hid hbG7
            clear hb7 hbV6 hbX6 o6 r6 hbG6 f7x f8x hbG7 o7 hB7 hle hB6
            go_wp2_with fail
            go_loopg [12] (n5 + 1) (fun g' i wr => ∃ k : Nat, k ≤ n5 ∧ g' = n5 + 1 - k ∧ i = .int .i64 (k : Int) ∧ Below wc.heap.size wc wr)
            case atStart => exact ⟨0, Nat.zero_le _, rfl, rfl, Below.refl _ _⟩
            case round =>
              obtain ⟨k, hk, rfl, rfl, hbr⟩ := hrel
              have hbGr := blk_below hbG7k.out hbr
              have hltGr := blk_lt hbGr
              have hzr := hbr.size
              have hwr : Below w.heap.size w wr := hw7.trans (hbr.mono hw7.size)
              by_cases hlk : k < n5
              · obtain ⟨bA, oA, u, rfl, hbA, hp, hcp⟩ := (hA7.below hbr).at_ hlk
                have p0 := hcp 0 _ rfl
                have p1 := hcp 1 _ rfl
                rw [Nat.add_zero] at p0
                clear hcp
                have hbA2 : bA < wr.heap.size := by omega
                have hum := List.mem_of_getElem? hp
                have ct := fun w' => take_any fo u fw (hfrwH.out u hum) w'
                rw [f9H.out u hum] at ct
                generalize takeV fo u = V1 at ct
                have ct := Lib.hid ct
                clear hp hum
                obtain ⟨u1, u2⟩ := u
                dsimp only at p0 p1
                have q0 := blk_cell hbGr 0
                have q1 := blk_cell hbGr 1
                have q2 := blk_cell hbGr 2
                have q3 := blk_cell hbGr 3
                have q4 := blk_cell hbGr 4
                have q5 := blk_cell hbGr 5
                have q6 := blk_cell hbGr 6
                have q7 := blk_cell hbGr 7
                simp at q0 q1 q2 q3 q4 q5 q6 q7
                have hq0 : KQ wr.heap.size wr wr := kq (Below.refl _ _)
                go_wp2_with fail
                go_region_held3 (fun w' => KQ wr.heap.size wr w') (first
      | with_reducible exact kq_call (by assumption) (by simp) (by assumption)
      | with_reducible exact kq_grown (by assumption) (by simp) (by assumption) (by simp [Value.ownBlock])
      | ((repeat (first | (with_reducible refine kq_set ?_ (by first | (simp; done) | (simp; omega) | omega) _) | (with_reducible refine kq_alloc ?_ (by first | exact Nat.le_refl _ | (simp; done) | (simp; omega)) _))); (with_reducible assumption))
      | ((with_reducible refine kq ?_); (repeat (first | (with_reducible exact Below.refl _ _) | (with_reducible refine Below.drew ?_) | (with_reducible refine Below.alloc ?_ (by simp) _) | (with_reducible refine Below.setCell ?_ (by simp) _) | (with_reducible exact (by assumption : KQ _ _ _).1))); done)) (first | (go_at_call 33; refine (ct.out _).mono ?_; rintro e w2 ⟨rfl, hb2⟩; have hz2 := hb2.size; (try simp at hz2); have hq2 : KQ wr.heap.size wr w2 := kq_call (by assumption) (by simp) hb2; (try (have hbx : w2.heap[wr.heap.size]? = some (.cells #[.int .u32 0, .int .u32 0, .int .u32 0, .int .u32 0, .int .u32 0, .int .u32 0, .int .u32 0, .int .u32 0] 25 (0, 0)) := (hb2.block _ (by simp; done)).trans (heap_at _ _ (by simp; done)); have hfx := blk_frozen hbx; have x0 := blk_cell hbx 0; have x1 := blk_cell hbx 1; have x2 := blk_cell hbx 2; have x3 := blk_cell hbx 3; have x4 := blk_cell hbx 4; have x5 := blk_cell hbx 5; have x6 := blk_cell hbx 6; have x7 := blk_cell hbx 7; simp at x0 x1 x2 x3 x4 x5 x6 x7))))
                all_goals
                  have hq2B := hbr.trans (hq2.1.mono hzr)
                  go_wp2
                  go_roundg (n5 + 1 - (k + 1))
                  case measure => omega
                  case rel =>
                    refine ⟨k + 1, by omega, rfl, by go_num, ?_⟩
                    repeat (first | (with_reducible exact hq2B) | (with_reducible refine Below.drew ?_) | (with_reducible refine Below.alloc ?_ (by first | (simp; done) | (simp; omega) | omega) _) | (with_reducible refine Below.setCell ?_ (by first | (simp; done) | (simp; omega) | omega) _))
              · have hAr := (hA7.below hbr).more hzr
                have ho5 := Lib.hid (fun w' (hb : Below wr.heap.size wr w') => own_any A5 n5 c5 fr w' ((hAr.below hb).more hb.size) (by omega))
                have hF5 := Lib.hid (fun A' c' w' (h1 : RdI w' w'.heap.size A' n5 fr) => fold_any fo A' n5 c' fr w' h1 (by omega) fw hfrwH.out)
                rw [f101112.out.1, f101112.out.2.1, f101112.out.2.2] at hF5
                have q0 := blk_cell hbGr 0
                have q1 := blk_cell hbGr 1
                have q2 := blk_cell hbGr 2
                have q3 := blk_cell hbGr 3
                have q4 := blk_cell hbGr 4
                have q5 := blk_cell hbGr 5
                have q6 := blk_cell hbGr 6
                have q7 := blk_cell hbGr 7
                simp at q0 q1 q2 q3 q4 q5 q6 q7
                go_upto_region 20 with (fail)
                go_cut [15, 16, 17] (fun sa sb sc wx => ∃ g A' n' c', sa = .pointer (some ⟨g, 0, none⟩) ∧ wr.heap.size ≤ g ∧ sb = .slice A' n' c' ∧ sc = .int .i64 0 ∧ wx.heap[g]? = some (.cells #[.int .u32 fo.d0, .int .u32 fo.d1, .int .u32 fo.d2, .int .u32 fo.d3, .int .u32 fo.d4, .int .u32 fo.d5, .int .u32 fo.d6, .int .u32 fo.d7] 25 (0, 0)) ∧ Ow wx wr.heap.size 35 2 (.slice A' n' c') ((fr).map Im.enc) ∧ Below wr.heap.size wr wx)
                case first =>
                  have hq0 : KQ wr.heap.size wr wr := kq (Below.refl _ _)
                  go_region_held3 (fun w' => KQ wr.heap.size wr w') (first
      | with_reducible exact kq_call (by assumption) (by simp) (by assumption)
      | with_reducible exact kq_grown (by assumption) (by simp) (by assumption) (by simp [Value.ownBlock])
      | ((repeat (first | (with_reducible refine kq_set ?_ (by first | (simp; done) | (simp; omega) | omega) _) | (with_reducible refine kq_alloc ?_ (by first | exact Nat.le_refl _ | (simp; done) | (simp; omega)) _))); (with_reducible assumption))
      | ((with_reducible refine kq ?_); (repeat (first | (with_reducible exact Below.refl _ _) | (with_reducible refine Below.drew ?_) | (with_reducible refine Below.alloc ?_ (by simp) _) | (with_reducible refine Below.setCell ?_ (by simp) _) | (with_reducible exact (by assumption : KQ _ _ _).1))); done))
                    (first
                      | (go_at_call 15; refine (ho5.out _ (by with_reducible assumption : KQ wr.heap.size wr _).1).mono ?_; rintro e v2 ⟨A2, c2, rfl, o2, hb2⟩
                         have hz2 := hb2.size
                         (try simp at hz2)
                         have hq2 : KQ wr.heap.size wr v2 := kq_call (by assumption) (by simp) hb2
                         (try (have hx2 : v2.heap[wr.heap.size]? = some (.cells #[.int .u32 0, .int .u32 0, .int .u32 0, .int .u32 0, .int .u32 0, .int .u32 0, .int .u32 0, .int .u32 0] 25 (0, 0)) := (hb2.block _ (by simp; done)).trans (heap_at _ _ (by simp; done)))))
                      | (go_at_call 30; refine (hF5.out A2 c2 _ (by first | exact o2.rd.1 | exact (o2.below ((Below.refl _ _).alloc (Nat.le_refl _) _)).rd.1)).mono ?_; rintro e v3 ⟨A3, n3, c3, rfl, o3, hb3⟩
                         have hz3 := hb3.size
                         (try simp at hz3)
                         have hq3 : KQ wr.heap.size wr v3 := kq_call (by assumption) (by simp) hb3
                         (first
                           | (have hx3 : v3.heap[wr.heap.size]? = some (.cells #[.int .u32 0, .int .u32 0, .int .u32 0, .int .u32 0, .int .u32 0, .int .u32 0, .int .u32 0, .int .u32 0] 25 (0, 0)) := (hb3.block _ (blk_lt hx2)).trans hx2
                              have hfx := blk_frozen hx3
                              have x0 := blk_cell hx3 0; have x1 := blk_cell hx3 1; have x2 := blk_cell hx3 2; have x3 := blk_cell hx3 3; have x4 := blk_cell hx3 4; have x5 := blk_cell hx3 5; have x6 := blk_cell hx3 6; have x7 := blk_cell hx3 7; simp at x0 x1 x2 x3 x4 x5 x6 x7)
                           | (have hx3 : v3.heap[v2.heap.size]? = some (.cells #[.int .u32 0, .int .u32 0, .int .u32 0, .int .u32 0, .int .u32 0, .int .u32 0, .int .u32 0, .int .u32 0] 25 (0, 0)) := (hb3.block _ (by simp; done)).trans (heap_at _ _ rfl)
                              have hfx := blk_frozen hx3
                              have x0 := blk_cell hx3 0; have x1 := blk_cell hx3 1; have x2 := blk_cell hx3 2; have x3 := blk_cell hx3 3; have x4 := blk_cell hx3 4; have x5 := blk_cell hx3 5; have x6 := blk_cell hx3 6; have x7 := blk_cell hx3 7; simp at x0 x1 x2 x3 x4 x5 x6 x7)
                           | skip)))
                  · go_wp2_with fail
                    go_meet
                    refine ⟨_, A3, n3, c3, rfl, by omega, rfl, rfl, heap_at _ _ rfl, (o3.below ((Below.refl _ _).alloc (Nat.le_refl _) _)).base (by omega), ?_⟩
                    exact (kq_alloc hq3 (by simp) _).1
                  · go_wp2_with fail
                    go_meet
                    refine ⟨_, A3, n3, c3, rfl, by omega, rfl, rfl, ?_, ?_, ?_⟩
                    · with_reducible exact blk_set8 hx3 _ _ _ _ _ _ _ _
                    · refine Ow.base (base := v2.heap.size + 1) ?_ (by omega)
                      repeat (with_reducible refine Ow.setCell ?_ (by first | (simp; done) | (simp; omega) | omega) _)
                      exact o3.base (by simp)
                    · have hq3B := hq3.1
                      repeat (first | (with_reducible exact hq3B) | (with_reducible refine Below.drew ?_) | (with_reducible refine Below.alloc ?_ (by first | (simp; done) | (simp; omega) | omega) _) | (with_reducible refine Below.setCell ?_ (by first | (simp; done) | (simp; omega) | omega) _))
                  · go_wp2_with fail
                    go_meet
                    refine ⟨_, A3, n3, c3, rfl, by omega, rfl, rfl, ?_, ?_, ?_⟩
                    · with_reducible exact blk_set8 hx3 _ _ _ _ _ _ _ _
                    · refine Ow.base (base := v2.heap.size) ?_ (by omega)
                      repeat (with_reducible refine Ow.setCell ?_ (by first | (simp; done) | (simp; omega) | omega) _)
                      exact o3
                    · have hq3B := hq3.1
                      repeat (first | (with_reducible exact hq3B) | (with_reducible refine Below.drew ?_) | (with_reducible refine Below.alloc ?_ (by first | (simp; done) | (simp; omega) | omega) _) | (with_reducible refine Below.setCell ?_ (by first | (simp; done) | (simp; omega) | omega) _))
                case rest =>
                  obtain ⟨g2, A8, n8, c8, rfl, hgl2, rfl, rfl, hbH, o8, hb8⟩ := hcut
                  have hbG8 := blk_below hbGr hb8
                  have hltG8 := blk_lt hbG8
                  have hltH := blk_lt hbH
                  have hw8 := hwr.trans (hb8.mono hwr.size)
                  have hS := same_any A8 A5 n8 n5 c8 c5 fr fr _ o8.rd.1 ((hAr.below hb8).more hb8.size) (Nat.le_trans o8.rd.2.2.1 o8.rd.2.2.2) hA5m
                  rw [decide_eq_true (rfl : fr = fr)] at hS
                  have he := eqlV2 fo fo
                  rw [eqV_iff.2 (rfl : fo = fo)] at he
                  clear q0 q1 q2 q3 q4 q5 q6 q7
                  have q0 := blk_cell hbG8 0
                  have q1 := blk_cell hbG8 1
                  have q2 := blk_cell hbG8 2
                  have q3 := blk_cell hbG8 3
                  have q4 := blk_cell hbG8 4
                  have q5 := blk_cell hbG8 5
                  have q6 := blk_cell hbG8 6
                  have q7 := blk_cell hbG8 7
                  simp at q0 q1 q2 q3 q4 q5 q6 q7
                  have s0 := blk_cell hbH 0
                  have s1 := blk_cell hbH 1
                  have s2 := blk_cell hbH 2
                  have s3 := blk_cell hbH 3
                  have s4 := blk_cell hbH 4
                  have s5 := blk_cell hbH 5
                  have s6 := blk_cell hbH 6
                  have s7 := blk_cell hbH 7
                  simp at s0 s1 s2 s3 s4 s5 s6 s7
                  go_wp2_with fail
                  refine hS.mono ?_
                  rintro e w9 ⟨rfl, hb9⟩
                  have hw9 := hw8.trans (hb9.mono hw8.size)
                  go_wp2
                  go_ret
                  exact ⟨rfl, hw9⟩
    · have hen : (e1 != 0) = true := by simpa using he1
      clear he1
      go_wp2
      go_ret
      exact ⟨rfl, hw3⟩
end Go.Proofs.Ythfjbbijcemmoaa
