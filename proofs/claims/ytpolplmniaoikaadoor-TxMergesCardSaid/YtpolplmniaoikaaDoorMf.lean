/- slices.SortStableFunc at parts: the insertion sort. -/
import Derived.Test.YtpolplmniaoikaaDoorMe
namespace Go.Proofs.YtpolplmniaoikaaDoor
open Go.RowKit

theorem ordI_neg {a b : Int} : ordI a b < 0 ↔ a < b := by unfold ordI; (repeat' split) <;> omega
set_option maxRecDepth 100000 in
set_option maxHeartbeats 4000000 in
theorem insort_any (base g n c a b : Nat) (ps : List Pe) (w : World) (hB : base ≤ w.heap.size) (hown : Ow w base 69 10 (.slice (some ⟨g, 0, none⟩) n c) (ps.map Pe.enc)) (hn : n ≤ 1000) (hab : a < b) (hb : b ≤ n) :
    Calls Tryd.prog 42 #[.slice (some ⟨g, 0, none⟩) n c, .int .i64 (a : Int), .int .i64 (b : Int), .func (.func 15) #[] #[]] w
      fun e w' => e = .returned (.tuple #[]) ∧ ∃ ys : List Pe, Mv a b ps ys ∧ So Pe.num a b ys ∧ Ow w' base 69 10 (.slice (some ⟨g, 0, none⟩) n c) (ys.map Pe.enc) ∧ w.grownBy w' (some g) := by
  have hl : ps.length = n := by simpa using hown.rd.2.1
  have hownH := Lib.hid hown
  clear hown
  go_enter Tryd.func42, Tryd.ntmps42
  go_wp2
  go_loopg [8] (b - a) (fun gg u wr => ∃ (k : Nat) (cur : List Pe), a + 1 ≤ k ∧ k ≤ b ∧ gg = b + 1 - k ∧ u = .int .i64 (k : Int) ∧ Mv a b ps cur ∧ So Pe.num a k cur ∧ Ow wr base 69 10 (.slice (some ⟨g, 0, none⟩) n c) (cur.map Pe.enc) ∧ w.grownBy wr (some g))
  case atStart => exact ⟨a + 1, ps, Nat.le_refl _, by omega, by omega, by go_num, Mv.refl _ _ _, So.one (Nat.le_refl _), hownH.out, World.grownBy.refl _ _⟩
  case round =>
    obtain ⟨k, cur, hak, hkb, rfl, rfl, hmv, hso, hown, hg⟩ := hrel
    have hBr : base ≤ wr.heap.size := Nat.le_trans hB hg.size
    have hgH := Lib.hid hg
    clear hg
    by_cases hlt : k < b
    · have hlti : (k : Int) < (b : Int) := by omega
      have hst := Insr.start hso
      obtain ⟨wo, rfl⟩ : ∃ wo : World, wo = wr := ⟨_, rfl⟩
      go_wp2_with fail
      go_loopg [9] (k - a + 1) (fun gg u wq => ∃ (q : Nat) (cr : List Pe), a ≤ q ∧ q ≤ k ∧ gg = q - a + 1 ∧ u = .int .i64 (q : Int) ∧ Mv a b ps cr ∧ Insr Pe.num a q k cr ∧ Ow wq base 69 10 (.slice (some ⟨g, 0, none⟩) n c) (cr.map Pe.enc) ∧ wo.grownBy wq (some g))
      case atStart => exact ⟨k, cur, by omega, Nat.le_refl _, rfl, rfl, hmv, hst, hown, World.grownBy.refl _ _⟩
      case round =>
        clear hmv hso hown hst
        obtain ⟨q, cr, haq, hqk, rfl, rfl, hmv, hin, hown, hg⟩ := hrel
        have hcl : cr.length = n := by rw [hmv.len, hl]
        have hg2H := Lib.hid hg
        have hmvH := Lib.hid hmv
        have hinH := Lib.hid hin
        have hownH2 := Lib.hid hown
        have hzz := Nat.le_trans hBr hg.size
        by_cases h1 : a < q
        · have h1i : (a : Int) < (q : Int) := by omega
          obtain ⟨r, rfl⟩ : ∃ r, q = r + 1 := ⟨q - 1, by omega⟩
          obtain ⟨x, hx⟩ : ∃ x, cr[r + 1]? = some x := ⟨_, List.getElem?_eq_getElem (by omega)⟩
          obtain ⟨y, hy⟩ : ∃ y, cr[r]? = some y := ⟨_, List.getElem?_eq_getElem (by omega)⟩
          obtain ⟨g', he, _, hgl, hgf, hgc⟩ := hown.addr (by omega)
          injection he with he
          injection he with he
          subst he
          have hcx := hgc (r + 1) x.enc (by rw [List.getElem?_map, hx]; rfl)
          have hcy := hgc r y.enc (by rw [List.getElem?_map, hy]; rfl)
          have p0 := hcx 0 _ rfl
          have p1 := hcx 1 _ rfl
          have p2 := hcx 2 _ rfl
          have p3 := hcx 3 _ rfl
          have p4 := hcx 4 _ rfl
          have p5 := hcx 5 _ rfl
          have p6 := hcx 6 _ rfl
          have p7 := hcx 7 _ rfl
          have p8 := hcx 8 _ rfl
          have p9 := hcx 9 _ rfl
          have q0 := hcy 0 _ rfl
          have q1 := hcy 1 _ rfl
          have q2 := hcy 2 _ rfl
          have q3 := hcy 3 _ rfl
          have q4 := hcy 4 _ rfl
          have q5 := hcy 5 _ rfl
          have q6 := hcy 6 _ rfl
          have q7 := hcy 7 _ rfl
          have q8 := hcy 8 _ rfl
          have q9 := hcy 9 _ rfl
          rw [Nat.add_zero] at p0 q0
          have hwr : IntKind.i64.wrap (((r + 1 : Nat) : Int) - 1) = ((r : Nat) : Int) := by rw [IntWalk.i64_in _ (by omega)]; omega
          have hir : r + 1 < n := by omega
          have hir2 : r < n := by omega
          have hcm := mcmp_any x y
          have hord := Lib.hid (ordI_neg (a := x.num) (b := y.num))
          have hsw := Lib.hid (fun w' (h : Below wr.heap.size wr w') => (hown.below h).swapE hir hir2 hx hy)
          have hstep : Hid (x.num < y.num → Insr Pe.num a r k (swp cr (r + 1) r)) := Lib.hid (fun h => by
            have h2 := hin.step (j := r + 1) h1 hqk (by omega) (fun u v hu hv => by
              rw [Nat.add_sub_cancel] at hu
              obtain rfl : y = u := Option.some.inj (hy.symm.trans hu)
              obtain rfl : x = v := Option.some.inj (hx.symm.trans hv)
              exact h)
            exact h2)
          have hdone : Hid (¬ x.num < y.num → So Pe.num a (k + 1) cr) := Lib.hid (fun h => hin.done haq (.inr (fun u v hu hv => by
              rw [Nat.add_sub_cancel] at hu
              obtain rfl : y = u := Option.some.inj (hy.symm.trans hu)
              obtain rfl : x = v := Option.some.inj (hx.symm.trans hv)
              omega)) (by omega) hqk)
          have hmv2 : Hid (Mv a b ps (swp cr (r + 1) r)) := Lib.hid (hmv.trans (Mv.swap (by omega) (by omega) (by omega) (by omega) (by omega) (by omega)))
          clear hmv hin hown hx hy hcx hcy hgc hg
          generalize ordI x.num y.num = z at hcm hord
          have hcm := Lib.hid hcm
          generalize hi1 : r + 1 = i1 at *
          generalize hi2 : r = i2 at *
          have hne : i1 ≠ i2 := by omega
          go_wp2_with fail
          refine wp_region_M (fun w' => KQ wr.heap.size wr w') (fun _ => True) 99 (by kernel_rfl) (kq (Below.refl _ _).drew) trivial ?_
          intro hcl
          have hC : KQ wr.heap.size wr wr.drew := kq (Below.refl _ _).drew
          have hE := trivial
          (refine wpM_take (i := 0) (v := ?_) rfl (by kernel_rfl) (by kernel_rfl) (by kernel_rfl) (by decide) (fun _ _ _ h => h) hcl hC (fun _ => hE) (Or.inl ⟨by rfl, ?_⟩) ?_; rotate_left; (· (intro w hSw; (try dsimp only at hSw); go_simp; (try with_reducible rfl))); clear hcl; intro hcl; (try simp only [Act.put, List.getElem_toArray, List.getElem_cons_zero, List.setIfInBounds_toArray, List.set_cons_zero, List.set_cons_succ]))
          (refine wpM_take (i := 1) (v := ?_) rfl (by kernel_rfl) (by kernel_rfl) (by kernel_rfl) (by decide) (fun _ _ _ h => h) hcl hC (fun _ => hE) (Or.inl ⟨by rfl, ?_⟩) ?_; rotate_left; (· (intro w hSw; (try dsimp only at hSw); go_simp; (try with_reducible rfl))); clear hcl; intro hcl; (try simp only [Act.put, List.getElem_toArray, List.getElem_cons_zero, List.getElem_cons_succ, List.setIfInBounds_toArray, List.set_cons_zero, List.set_cons_succ]))
          (refine wpM_take (i := 2) (v := ?_) rfl (by kernel_rfl) (by kernel_rfl) (by kernel_rfl) (by decide) (fun _ _ _ h => h) hcl hC (fun _ => hE) (Or.inl ⟨by rfl, ?_⟩) ?_; rotate_left; (· (intro w hSw; (try dsimp only at hSw); go_simp; (try with_reducible rfl))); clear hcl; intro hcl; (try simp only [Act.put, List.getElem_toArray, List.getElem_cons_zero, List.getElem_cons_succ, List.setIfInBounds_toArray, List.set_cons_zero, List.set_cons_succ]))
          (refine wpM_take (i := 3) (v := ?_) rfl (by kernel_rfl) (by kernel_rfl) (by kernel_rfl) (by decide) (fun _ _ _ h => h) hcl hC (fun _ => hE) (Or.inl ⟨by rfl, ?_⟩) ?_; rotate_left; (· (intro w hSw; (try dsimp only at hSw); go_simp; (try with_reducible rfl))); clear hcl; intro hcl; (try simp only [Act.put, List.getElem_toArray, List.getElem_cons_zero, List.getElem_cons_succ, List.setIfInBounds_toArray, List.set_cons_zero, List.set_cons_succ]))
          (refine wpM_take (i := 4) (v := ?_) rfl (by kernel_rfl) (by kernel_rfl) (by kernel_rfl) (by decide) (fun _ _ _ h => h) hcl hC (fun _ => hE) (Or.inl ⟨by rfl, ?_⟩) ?_; rotate_left; (· (intro w hSw; (try dsimp only at hSw); go_simp; (try with_reducible rfl))); clear hcl; intro hcl; (try simp only [Act.put, List.getElem_toArray, List.getElem_cons_zero, List.getElem_cons_succ, List.setIfInBounds_toArray, List.set_cons_zero, List.set_cons_succ]))
          (refine wpM_take (i := 5) (v := ?_) rfl (by kernel_rfl) (by kernel_rfl) (by kernel_rfl) (by decide) (fun _ _ _ h => h) hcl hC (fun _ => hE) (Or.inl ⟨by rfl, ?_⟩) ?_; rotate_left; (· (intro w hSw; (try dsimp only at hSw); go_simp; (try with_reducible rfl))); clear hcl; intro hcl; (try simp only [Act.put, List.getElem_toArray, List.getElem_cons_zero, List.getElem_cons_succ, List.setIfInBounds_toArray, List.set_cons_zero, List.set_cons_succ]))
          (refine wpM_take (i := 6) (v := ?_) rfl (by kernel_rfl) (by kernel_rfl) (by kernel_rfl) (by decide) (fun _ _ _ h => h) hcl hC (fun _ => hE) (Or.inl ⟨by rfl, ?_⟩) ?_; rotate_left; (· (intro w hSw; (try dsimp only at hSw); go_simp; (try with_reducible rfl))); clear hcl; intro hcl; (try simp only [Act.put, List.getElem_toArray, List.getElem_cons_zero, List.getElem_cons_succ, List.setIfInBounds_toArray, List.set_cons_zero, List.set_cons_succ]))
          (refine wpM_take (i := 7) (v := ?_) rfl (by kernel_rfl) (by kernel_rfl) (by kernel_rfl) (by decide) (fun _ _ _ h => h) hcl hC (fun _ => hE) (Or.inl ⟨by rfl, ?_⟩) ?_; rotate_left; (· (intro w hSw; (try dsimp only at hSw); go_simp; (try with_reducible rfl))); clear hcl; intro hcl; (try simp only [Act.put, List.getElem_toArray, List.getElem_cons_zero, List.getElem_cons_succ, List.setIfInBounds_toArray, List.set_cons_zero, List.set_cons_succ]))
          (refine wpM_take (i := 8) (v := ?_) rfl (by kernel_rfl) (by kernel_rfl) (by kernel_rfl) (by decide) (fun _ _ _ h => h) hcl hC (fun _ => hE) (Or.inl ⟨by rfl, ?_⟩) ?_; rotate_left; (· (intro w hSw; (try dsimp only at hSw); go_simp; (try with_reducible rfl))); clear hcl; intro hcl; (try simp only [Act.put, List.getElem_toArray, List.getElem_cons_zero, List.getElem_cons_succ, List.setIfInBounds_toArray, List.set_cons_zero, List.set_cons_succ]))
          (refine wpM_take (i := 9) (v := ?_) rfl (by kernel_rfl) (by kernel_rfl) (by kernel_rfl) (by decide) (fun _ _ _ h => h) hcl hC (fun _ => hE) (Or.inl ⟨by rfl, ?_⟩) ?_; rotate_left; (· (intro w hSw; (try dsimp only at hSw); go_simp; (try with_reducible rfl))); clear hcl; intro hcl; (try simp only [Act.put, List.getElem_toArray, List.getElem_cons_zero, List.getElem_cons_succ, List.setIfInBounds_toArray, List.set_cons_zero, List.set_cons_succ]))
          (refine wpM_take (i := 10) (v := ?_) rfl (by kernel_rfl) (by kernel_rfl) (by kernel_rfl) (by decide) (fun _ _ _ h => h) hcl hC (fun _ => hE) (Or.inl ⟨by rfl, ?_⟩) ?_; rotate_left; (· (intro w hSw; (try dsimp only at hSw); go_simp; (try with_reducible rfl))); clear hcl; intro hcl; (try simp only [Act.put, List.getElem_toArray, List.getElem_cons_zero, List.getElem_cons_succ, List.setIfInBounds_toArray, List.set_cons_zero, List.set_cons_succ]))
          (refine wpM_take (i := 11) (v := ?_) rfl (by kernel_rfl) (by kernel_rfl) (by kernel_rfl) (by decide) (fun _ _ _ h => h) hcl hC (fun _ => hE) (Or.inl ⟨by rfl, ?_⟩) ?_; rotate_left; (· (intro w hSw; (try dsimp only at hSw); go_simp; (try with_reducible rfl))); clear hcl; intro hcl; (try simp only [Act.put, List.getElem_toArray, List.getElem_cons_zero, List.getElem_cons_succ, List.setIfInBounds_toArray, List.set_cons_zero, List.set_cons_succ]))
          (refine wpM_take (i := 12) (v := ?_) rfl (by kernel_rfl) (by kernel_rfl) (by kernel_rfl) (by decide) (fun _ _ _ h => h) hcl hC (fun _ => hE) (Or.inl ⟨by rfl, ?_⟩) ?_; rotate_left; (· (intro w hSw; (try dsimp only at hSw); go_simp; (try with_reducible rfl))); clear hcl; intro hcl; (try simp only [Act.put, List.getElem_toArray, List.getElem_cons_zero, List.getElem_cons_succ, List.setIfInBounds_toArray, List.set_cons_zero, List.set_cons_succ]))
          (refine wpM_take (i := 13) (v := ?_) rfl (by kernel_rfl) (by kernel_rfl) (by kernel_rfl) (by decide) (fun _ _ _ h => h) hcl hC (fun _ => hE) (Or.inl ⟨by rfl, ?_⟩) ?_; rotate_left; (· (intro w hSw; (try dsimp only at hSw); go_simp; (try with_reducible rfl))); clear hcl; intro hcl; (try simp only [Act.put, List.getElem_toArray, List.getElem_cons_zero, List.getElem_cons_succ, List.setIfInBounds_toArray, List.set_cons_zero, List.set_cons_succ]))
          refine wpM_only (i := 14) rfl (by kernel_rfl) hcl (fun K hK => ?_)
          go_simp
          refine (hcm.out _).mono ?_
          rintro e w1 ⟨rfl, hb1⟩
          have hC1 : KQ wr.heap.size wr w1 := kq_call hC (Nat.le_refl _) hb1
          refine hK.out _ _ hC1 trivial ?_
          clear hK K
          clear hcl
          intro hcl
          (try simp only [Act.put, List.getElem_toArray, List.getElem_cons_zero, List.getElem_cons_succ, List.setIfInBounds_toArray, List.set_cons_zero, List.set_cons_succ])
          clear hC
          have hC := hC1
          (refine wpM_take (i := 15) (v := ?_) rfl (by kernel_rfl) (by kernel_rfl) (by kernel_rfl) (by decide) (fun _ _ _ h => h) hcl hC (fun _ => hE) (Or.inl ⟨by rfl, ?_⟩) ?_; rotate_left; (· (intro w hSw; (try dsimp only at hSw); go_simp; (try with_reducible rfl))); clear hcl; intro hcl; (try simp only [Act.put, List.getElem_toArray, List.getElem_cons_zero, List.getElem_cons_succ, List.setIfInBounds_toArray, List.set_cons_zero, List.set_cons_succ]))
          (refine wpM_take (i := 16) (v := ?_) rfl (by kernel_rfl) (by kernel_rfl) (by kernel_rfl) (by decide) (fun _ _ _ h => h) hcl hC (fun _ => hE) (Or.inl ⟨by rfl, ?_⟩) ?_; rotate_left; (· (intro w hSw; (try dsimp only at hSw); go_simp; (try with_reducible rfl))); clear hcl; intro hcl; (try simp only [Act.put, List.getElem_toArray, List.getElem_cons_zero, List.getElem_cons_succ, List.setIfInBounds_toArray, List.set_cons_zero, List.set_cons_succ]))
          refine wpM_done (by kernel_rfl) ?_
          clear hcl hE
          have hbw : Below wr.heap.size wr w1 := hC1.1
          have hgl1 := Nat.lt_of_lt_of_le hgl hbw.size
          by_cases hz : z < 0
          · have hlt2 := hord.out.1 hz
            replace p0 := (hbw.cell (p := ⟨g, _, none⟩) hgl).trans p0
            replace p1 := (hbw.cell (p := ⟨g, _, none⟩) hgl).trans p1
            replace p2 := (hbw.cell (p := ⟨g, _, none⟩) hgl).trans p2
            replace p3 := (hbw.cell (p := ⟨g, _, none⟩) hgl).trans p3
            replace p4 := (hbw.cell (p := ⟨g, _, none⟩) hgl).trans p4
            replace p5 := (hbw.cell (p := ⟨g, _, none⟩) hgl).trans p5
            replace p6 := (hbw.cell (p := ⟨g, _, none⟩) hgl).trans p6
            replace p7 := (hbw.cell (p := ⟨g, _, none⟩) hgl).trans p7
            replace p8 := (hbw.cell (p := ⟨g, _, none⟩) hgl).trans p8
            replace p9 := (hbw.cell (p := ⟨g, _, none⟩) hgl).trans p9
            replace q0 := (hbw.cell (p := ⟨g, _, none⟩) hgl).trans q0
            replace q1 := (hbw.cell (p := ⟨g, _, none⟩) hgl).trans q1
            replace q2 := (hbw.cell (p := ⟨g, _, none⟩) hgl).trans q2
            replace q3 := (hbw.cell (p := ⟨g, _, none⟩) hgl).trans q3
            replace q4 := (hbw.cell (p := ⟨g, _, none⟩) hgl).trans q4
            replace q5 := (hbw.cell (p := ⟨g, _, none⟩) hgl).trans q5
            replace q6 := (hbw.cell (p := ⟨g, _, none⟩) hgl).trans q6
            replace q7 := (hbw.cell (p := ⟨g, _, none⟩) hgl).trans q7
            replace q8 := (hbw.cell (p := ⟨g, _, none⟩) hgl).trans q8
            replace q9 := (hbw.cell (p := ⟨g, _, none⟩) hgl).trans q9
            replace hgf : ∀ o, w1.frozen? ⟨g, o, none⟩ = false := fun o => (hbw.frozen (p := ⟨g, o, none⟩) hgl).trans (hgf o)
            have hsw := Lib.hid (hsw.out w1 hbw)
            have hin2 := hstep.out hlt2
            have hbwH := Lib.hid hbw
            have hin2 := Lib.hid hin2
            clear hC1 hC hbw hgl hb1 hlt2
            have hgl := hgl1
            clear hgl1
            go_wp2
            go_region
            have hown2 := hsw.out
            have hg2 : w1.grownBy ((w1.setCells g (i1 * 10) (Pe.enc y)).setCells g (i2 * 10) (Pe.enc x)) (some g) := gr_setCells _ _ (gr_setCells _ _ (World.grownBy.refl _ _))
            simp only [Pe.enc, World.setCells, Nat.add_assoc, Nat.reduceAdd] at hown2 hg2
            have hown2 := Lib.hid hown2
            have hg2 := Lib.hid hg2
            generalize hwn : World.setCell _ _ _ = wn at hown2 hg2 ⊢
            clear hwn
            clear hsw p0 p1 p2 p3 p4 p5 p6 p7 p8 p9 q0 q1 q2 q3 q4 q5 q6 q7 q8 q9
            go_wp2
            go_roundg (i2 - a + 1)
            case measure => omega
            case rel => exact ⟨i2, _, by omega, by omega, rfl, by go_num, hmv2.out, hin2.out, hown2.out.below (Below.refl _ _).drew, ((hg2H.out.trans (gr_below hbwH.out _)).trans hg2.out).trans (gr_below (Below.refl _ _).drew _)⟩
          · have hso := Lib.hid (hdone.out (by have h9 : ¬ x.num < y.num := fun h => hz (hord.out.2 h); omega))
            have hg3 := Lib.hid (hgH.out.trans (hg2H.out.trans (gr_below hbw (some g))))
            have hown3 := Lib.hid (hownH2.out.below hbw)
            clear hC1 hC hb1 p0 p1 p2 p3 p4 p5 p6 p7 p8 p9 q0 q1 q2 q3 q4 q5 q6 q7 q8 q9
            go_wp2
            go_roundg (b + 1 - (k + 1))
            case measure => omega
            case rel => exact ⟨k + 1, cr, by omega, by omega, rfl, by go_num, hmvH.out, hso.out, hown3.out, hg3.out⟩
        · obtain rfl : a = q := by omega
          have h1i : ¬ (a : Int) < (a : Int) := by omega
          have hso := Lib.hid (hin.done (Nat.le_refl _) (.inl rfl) (by omega) hqk)
          have hg3 := Lib.hid (hgH.out.trans hg2H.out)
          clear hmv hin hown hg
          go_wp2_with fail
          refine wp_region_M (fun w' => KQ wr.heap.size wr w') (fun _ => True) 99 (by kernel_rfl) (kq (Below.refl _ _).drew) trivial ?_
          intro hcl
          have hC : KQ wr.heap.size wr wr.drew := kq (Below.refl _ _).drew
          have hE := trivial
          (refine wpM_take (i := 0) (v := ?_) rfl (by kernel_rfl) (by kernel_rfl) (by kernel_rfl) (by decide) (fun _ _ _ h => h) hcl hC (fun _ => hE) (Or.inl ⟨by rfl, ?_⟩) ?_; rotate_left; (· (intro w hSw; (try dsimp only at hSw); go_simp; (try with_reducible rfl))); clear hcl; intro hcl; (try simp only [Act.put, List.getElem_toArray, List.getElem_cons_zero, List.setIfInBounds_toArray, List.set_cons_zero, List.set_cons_succ]))
          (refine wpM_take (i := 1) (v := ?_) rfl (by kernel_rfl) (by kernel_rfl) (by kernel_rfl) (by decide) (fun _ _ _ h => h) hcl hC (fun _ => hE) (Or.inl ⟨by rfl, ?_⟩) ?_; rotate_left; (· (intro w hSw; (try dsimp only at hSw); go_simp; (try with_reducible rfl))); clear hcl; intro hcl; (try simp only [Act.put, List.getElem_toArray, List.getElem_cons_zero, List.getElem_cons_succ, List.setIfInBounds_toArray, List.set_cons_zero, List.set_cons_succ]))
          (refine wpM_take (i := 2) (v := ?_) rfl (by kernel_rfl) (by kernel_rfl) (by kernel_rfl) (by decide) (fun _ _ _ h => h) hcl hC (fun _ => hE) (Or.inl ⟨by rfl, ?_⟩) ?_; rotate_left; (· (intro w hSw; (try dsimp only at hSw); go_simp; (try with_reducible rfl))); clear hcl; intro hcl; (try simp only [Act.put, List.getElem_toArray, List.getElem_cons_zero, List.getElem_cons_succ, List.setIfInBounds_toArray, List.set_cons_zero, List.set_cons_succ]))
          (refine wpM_take (i := 3) (v := ?_) rfl (by kernel_rfl) (by kernel_rfl) (by kernel_rfl) (by decide) (fun _ _ _ h => h) hcl hC (fun _ => hE) (Or.inl ⟨by rfl, ?_⟩) ?_; rotate_left; (· (intro w hSw; (try dsimp only at hSw); go_simp; (try with_reducible rfl))); clear hcl; intro hcl; (try simp only [Act.put, List.getElem_toArray, List.getElem_cons_zero, List.getElem_cons_succ, List.setIfInBounds_toArray, List.set_cons_zero, List.set_cons_succ]))
          (refine wpM_take (i := 4) (v := undef) rfl (by kernel_rfl) (by kernel_rfl) (by kernel_rfl) (by decide) (fun _ _ _ h => h) hcl hC (fun _ => hE) (Or.inr ⟨by rfl, rfl⟩) ?_; clear hcl; intro hcl; (try simp only [Act.put, List.getElem_toArray, List.getElem_cons_zero, List.getElem_cons_succ, List.setIfInBounds_toArray, List.set_cons_zero, List.set_cons_succ]))
          (refine wpM_take (i := 5) (v := undef) rfl (by kernel_rfl) (by kernel_rfl) (by kernel_rfl) (by decide) (fun _ _ _ h => h) hcl hC (fun _ => hE) (Or.inr ⟨by rfl, rfl⟩) ?_; clear hcl; intro hcl; (try simp only [Act.put, List.getElem_toArray, List.getElem_cons_zero, List.getElem_cons_succ, List.setIfInBounds_toArray, List.set_cons_zero, List.set_cons_succ]))
          (refine wpM_take (i := 6) (v := undef) rfl (by kernel_rfl) (by kernel_rfl) (by kernel_rfl) (by decide) (fun _ _ _ h => h) hcl hC (fun _ => hE) (Or.inr ⟨by rfl, rfl⟩) ?_; clear hcl; intro hcl; (try simp only [Act.put, List.getElem_toArray, List.getElem_cons_zero, List.getElem_cons_succ, List.setIfInBounds_toArray, List.set_cons_zero, List.set_cons_succ]))
          (refine wpM_take (i := 7) (v := undef) rfl (by kernel_rfl) (by kernel_rfl) (by kernel_rfl) (by decide) (fun _ _ _ h => h) hcl hC (fun _ => hE) (Or.inr ⟨by rfl, rfl⟩) ?_; clear hcl; intro hcl; (try simp only [Act.put, List.getElem_toArray, List.getElem_cons_zero, List.getElem_cons_succ, List.setIfInBounds_toArray, List.set_cons_zero, List.set_cons_succ]))
          (refine wpM_take (i := 8) (v := undef) rfl (by kernel_rfl) (by kernel_rfl) (by kernel_rfl) (by decide) (fun _ _ _ h => h) hcl hC (fun _ => hE) (Or.inr ⟨by rfl, rfl⟩) ?_; clear hcl; intro hcl; (try simp only [Act.put, List.getElem_toArray, List.getElem_cons_zero, List.getElem_cons_succ, List.setIfInBounds_toArray, List.set_cons_zero, List.set_cons_succ]))
          (refine wpM_take (i := 9) (v := undef) rfl (by kernel_rfl) (by kernel_rfl) (by kernel_rfl) (by decide) (fun _ _ _ h => h) hcl hC (fun _ => hE) (Or.inr ⟨by rfl, rfl⟩) ?_; clear hcl; intro hcl; (try simp only [Act.put, List.getElem_toArray, List.getElem_cons_zero, List.getElem_cons_succ, List.setIfInBounds_toArray, List.set_cons_zero, List.set_cons_succ]))
          (refine wpM_take (i := 10) (v := undef) rfl (by kernel_rfl) (by kernel_rfl) (by kernel_rfl) (by decide) (fun _ _ _ h => h) hcl hC (fun _ => hE) (Or.inr ⟨by rfl, rfl⟩) ?_; clear hcl; intro hcl; (try simp only [Act.put, List.getElem_toArray, List.getElem_cons_zero, List.getElem_cons_succ, List.setIfInBounds_toArray, List.set_cons_zero, List.set_cons_succ]))
          (refine wpM_take (i := 11) (v := undef) rfl (by kernel_rfl) (by kernel_rfl) (by kernel_rfl) (by decide) (fun _ _ _ h => h) hcl hC (fun _ => hE) (Or.inr ⟨by rfl, rfl⟩) ?_; clear hcl; intro hcl; (try simp only [Act.put, List.getElem_toArray, List.getElem_cons_zero, List.getElem_cons_succ, List.setIfInBounds_toArray, List.set_cons_zero, List.set_cons_succ]))
          (refine wpM_take (i := 12) (v := undef) rfl (by kernel_rfl) (by kernel_rfl) (by kernel_rfl) (by decide) (fun _ _ _ h => h) hcl hC (fun _ => hE) (Or.inr ⟨by rfl, rfl⟩) ?_; clear hcl; intro hcl; (try simp only [Act.put, List.getElem_toArray, List.getElem_cons_zero, List.getElem_cons_succ, List.setIfInBounds_toArray, List.set_cons_zero, List.set_cons_succ]))
          (refine wpM_take (i := 13) (v := undef) rfl (by kernel_rfl) (by kernel_rfl) (by kernel_rfl) (by decide) (fun _ _ _ h => h) hcl hC (fun _ => hE) (Or.inr ⟨by rfl, rfl⟩) ?_; clear hcl; intro hcl; (try simp only [Act.put, List.getElem_toArray, List.getElem_cons_zero, List.getElem_cons_succ, List.setIfInBounds_toArray, List.set_cons_zero, List.set_cons_succ]))
          (refine wpM_take (i := 14) (v := undef) rfl (by kernel_rfl) (by kernel_rfl) (by kernel_rfl) (by decide) (fun _ _ _ h => h) hcl hC (fun _ => hE) (Or.inr ⟨by rfl, rfl⟩) ?_; clear hcl; intro hcl; (try simp only [Act.put, List.getElem_toArray, List.getElem_cons_zero, List.getElem_cons_succ, List.setIfInBounds_toArray, List.set_cons_zero, List.set_cons_succ]))
          (refine wpM_take (i := 15) (v := undef) rfl (by kernel_rfl) (by kernel_rfl) (by kernel_rfl) (by decide) (fun _ _ _ h => h) hcl hC (fun _ => hE) (Or.inr ⟨by rfl, rfl⟩) ?_; clear hcl; intro hcl; (try simp only [Act.put, List.getElem_toArray, List.getElem_cons_zero, List.getElem_cons_succ, List.setIfInBounds_toArray, List.set_cons_zero, List.set_cons_succ]))
          (refine wpM_take (i := 16) (v := ?_) rfl (by kernel_rfl) (by kernel_rfl) (by kernel_rfl) (by decide) (fun _ _ _ h => h) hcl hC (fun _ => hE) (Or.inl ⟨by rfl, ?_⟩) ?_; rotate_left; (· (intro w hSw; (try dsimp only at hSw); go_simp; (try with_reducible rfl))); clear hcl; intro hcl; (try simp only [Act.put, List.getElem_toArray, List.getElem_cons_zero, List.getElem_cons_succ, List.setIfInBounds_toArray, List.set_cons_zero, List.set_cons_succ]))
          refine wpM_done (by kernel_rfl) ?_
          clear hcl hE
          go_wp2
          go_roundg (b + 1 - (k + 1))
          case measure => omega
          case rel => exact ⟨k + 1, cr, by omega, by omega, rfl, by go_num, hmvH.out, hso.out, hownH2.out.below (Below.refl _ _).drew, hg3.out.trans (gr_below (Below.refl _ _).drew _)⟩
    · obtain rfl : k = b := by omega
      have hnlt : ¬ (k : Int) < (k : Int) := by omega
      go_wp2
      go_end0
      exact ⟨rfl, cur, hmv, hso, hown, hgH.out⟩
end Go.Proofs.YtpolplmniaoikaaDoor
