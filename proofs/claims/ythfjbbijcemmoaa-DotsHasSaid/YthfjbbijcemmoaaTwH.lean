/- The statement DotsHas, walked. -/
import Derived.Test.YthfjbbijcemmoaaWk
import Derived.Test.YthfjbbijcemmoaaDtP
import Derived.Test.YthfjbbijcemmoaaPdd
namespace Go.Proofs.Ythfjbbijcemmoaa
open Go.RowKit

theorem grI_bd {n : Nat} (h : grI n = false) : n ≤ 1100 := by
  unfold grI at h
  rw [decide_eq_false_iff_not] at h
  omega
theorem GotI.len {w : World} {A : Option Addr} {n : Nat} {xs : List Im} (h : GotI w A n xs) : xs.length = n := h.1.len

set_option maxRecDepth 100000 in
set_option maxHeartbeats 2000000 in
theorem dhas_any (A B : Option Addr) (n m c d : Nat) (xs ys : List Im) (x : Im) (w : World) (hA : RdI w w.heap.size A n xs) (hB : RdI w w.heap.size B m ys) (hx : ∀ x ∈ xs, x.wf) (hy : ∀ x ∈ ys, x.wf) :
    Calls Try.prog 7 #[.slice A n c, .slice B m d, .agg #[.int .i64 x.1, .int .u32 x.2]] w fun e w' => e = .returned (.bool true) ∧ Below w.heap.size w w' := by
  have hW : Below w.heap.size w (w.alloc (.cells #[.int .i64 x.1, .int .u32 x.2] 35)) := (Below.refl _ w).alloc (Nat.le_refl _) _
  have wk := Lib.hid works_any
  have g1 := great_any A n c
  have g2 := great_any B m d
  cases hga : grI n with
  | true =>
    rw [hga] at g1
    go_enter Try.func7, Try.ntmps7
    go_wp2_with fail
    refine (wk.out _).mono ?_
    rintro e w1 ⟨rfl, hb1⟩
    go_wp2_with fail
    refine (g1 _).mono ?_
    rintro e w2 ⟨rfl, rfl⟩
    go_wp2
    go_ret
    exact ⟨rfl, hW.trans (hb1.mono (by simp))⟩
  | false =>
    rw [hga] at g1
    have hn := grI_bd hga
    clear hga
    cases hgb : grI m with
    | true =>
      rw [hgb] at g2
      go_enter Try.func7, Try.ntmps7
      go_wp2_with fail
      refine (wk.out _).mono ?_
      rintro e w1 ⟨rfl, hb1⟩
      go_wp2_with fail
      refine (g1 _).mono ?_
      rintro e w2 ⟨rfl, rfl⟩
      go_wp2_with fail
      refine (g2 _).mono ?_
      rintro e w2 ⟨rfl, rfl⟩
      go_wp2
      go_ret
      exact ⟨rfl, hW.trans (hb1.mono (by simp))⟩
    | false =>
      rw [hgb] at g2
      have hm := grI_bd hgb
      clear hgb
      have ho1 := Lib.hid (fun w' (hb : Below w.heap.size w w') => own_any A n c xs w' ((hA.below hb).more hb.size) hn)
      have ho2 := Lib.hid (fun w' (hb : Below w.heap.size w w') => own_any B m d ys w' ((hB.below hb).more hb.size) hm)
      have hm1 := Lib.hid (fun A' c' w' (h1 : RdI w' w'.heap.size A' n xs) => make_any A' n c' xs w' h1 hn hx)
      have hm2 := Lib.hid (fun A' c' w' (h1 : RdI w' w'.heap.size A' m ys) => make_any A' m c' ys w' h1 hm hy)
      have k1 := @make_ok xs
      have k2 := @make_ok ys
      generalize hp : makeOut xs = p at hm1 k1
      generalize hq : makeOut ys = q at hm2 k2
      generalize makeErr xs = e1 at hm1 k1
      generalize makeErr ys = e2 at hm2 k2
      have k1H := Lib.hid k1
      have k2H := Lib.hid k2
      clear hA hB hx hy hp hq k1 k2
      go_enter Try.func7, Try.ntmps7
      go_wp2_with fail
      refine (wk.out _).mono ?_
      rintro e w1 ⟨rfl, hb1⟩
      have hB1 : Below (w.heap.size + 1) (w.alloc (.cells #[.int .i64 x.1, .int .u32 x.2] 35)) w1 := hb1.mono (by simp)
      have hz1 : w.heap.size + 1 ≤ w1.heap.size := by have := hb1.size; simpa using this
      have hw1 : Below w.heap.size w w1 := hW.trans (hB1.mono (by omega))
      go_wp2_with fail
      refine (g1 _).mono ?_
      rintro e wx ⟨rfl, rfl⟩
      go_wp2_with fail
      refine (g2 _).mono ?_
      rintro e wx ⟨rfl, rfl⟩
      go_wp2_with fail
      refine (ho1.out _ hw1).mono ?_
      rintro e w2 ⟨A2, c2, rfl, o2, hb2⟩
      have hB2 := hB1.trans (hb2.mono hz1)
      have hz2 : w.heap.size + 1 ≤ w2.heap.size := Nat.le_trans hz1 hb2.size
      have hw2 : Below w.heap.size w w2 := hW.trans (hB2.mono (by omega))
      go_wp2_with fail
      refine (hm1.out A2 c2 w2 o2.rd.1).mono ?_
      rintro e w3 ⟨A3, n3, c3, rfl, r3, hb3⟩
      have hB3 := hB2.trans (hb3.mono hz2)
      have hz3 : w.heap.size + 1 ≤ w3.heap.size := Nat.le_trans hz2 hb3.size
      have hw3 : Below w.heap.size w w3 := hW.trans (hB3.mono (by omega))
      go_wp2_with fail
      refine (ho2.out _ hw3).mono ?_
      rintro e w4 ⟨A4, c4, rfl, o4, hb4⟩
      have hB4 := hB3.trans (hb4.mono hz3)
      have hz4 : w.heap.size + 1 ≤ w4.heap.size := Nat.le_trans hz3 hb4.size
      have hw4 : Below w.heap.size w w4 := hW.trans (hB4.mono (by omega))
      replace r3 := r3.below hb4
      go_wp2_with fail
      refine (hm2.out A4 c4 w4 o4.rd.1).mono ?_
      rintro e w5 ⟨A5, n5, c5, rfl, r5, hb5⟩
      have hB5 := hB4.trans (hb5.mono hz4)
      have hz5 : w.heap.size + 1 ≤ w5.heap.size := Nat.le_trans hz4 hb5.size
      have hw5 : Below w.heap.size w w5 := hW.trans (hB5.mono (by omega))
      replace r3 := r3.below hb5
      clear o2 o4
      by_cases he1 : e1 = 0
      · by_cases he2 : e2 = 0
        · subst he1 he2
          obtain ⟨hp, hpl, hp64, hpw⟩ := k1H.out rfl
          obtain ⟨hq, hql, hq64, hqw⟩ := k2H.out rfl
          rw [← hp] at hpl hp64 hpw
          rw [← hq] at hql hq64 hqw
          have hn3 := r3.len
          have hn5 := r5.len
          obtain ⟨un1, un2⟩ := union_ok hpl hql
          obtain ⟨mi1, mi2, mi3⟩ := minus_ok hpl hql
          have ho3 := Lib.hid (fun w' (hb : Below w5.heap.size w5 w') => own_any A3 n3 c3 p w' (r3.below hb).1 (by omega))
          have ho5 := Lib.hid (fun w' (hb : Below w5.heap.size w5 w') => own_any A5 n5 c5 q w' (r5.below hb).1 (by omega))
          have hU := Lib.hid (fun A' B' c' d' w' (h1 : RdI w' w'.heap.size A' n3 p) (h2 : RdI w' w'.heap.size B' n5 q) (e1 : n3 ≤ c') (e2 : n5 ≤ d') (e3 : c' ≤ maxLen) (e4 : d' ≤ maxLen) => union_any A' B' n3 n5 c' d' p q w' h1 h2 (by omega) (by omega) e1 e2 e3 e4 hpw hqw)
          have hM := Lib.hid (fun A' B' c' d' w' (h1 : RdI w' w'.heap.size A' n3 p) (h2 : RdI w' w'.heap.size B' n5 q) (e1 : n3 ≤ c') (e2 : n5 ≤ d') (e3 : c' ≤ maxLen) (e4 : d' ≤ maxLen) => minus_any A' B' n3 n5 c' d' p q w' h1 h2 (by omega) (by omega) e1 e2 e3 e4 hpw hqw)
          have hmw : ∀ z ∈ minusI p q, z.wf := fun z hz => chk_wf ((lerr_zero.1 mi2).2.1 z hz)
          have huw : unionErr p q = 0 → ∀ z ∈ unionR p q, z.wf := fun h0 z hz => chk_wf ((lerr_zero.1 (un2 h0).1).2.1 z hz)
          rw [mi1] at hM
          have mi3x := mi3 x
          have un2x := fun h0 => (un2 h0).2 x
          generalize hi : p.contains x = i at *
          generalize ho : q.contains x = o at *
          generalize minusI p q = mm at *
          generalize unionR p q = uu at *
          generalize unionErr p q = g at *
          have r3H := Lib.hid r3
          have r5H := Lib.hid r5
          have un2H := Lib.hid un2
          have un2xH := Lib.hid un2x
          have huwH := Lib.hid huw
          have hiH := Lib.hid hi
          have hoH := Lib.hid ho
          have mi3xH := Lib.hid mi3x
          have mi2H := Lib.hid mi2
          have hmwH := Lib.hid hmw
          clear k1H k2H hp hq r3 r5 un2 un2x mi3 hpl hql mi1 hmw huw hn3 hn5 hi ho mi3x mi2
          go_wp2_with fail
          refine (ho3.out _ (Below.refl _ _)).mono ?_
          rintro e w6 ⟨A6, c6, rfl, o6, hb6⟩
          have hB6 := hB5.trans (hb6.mono hz5)
          have hz6 : w.heap.size + 1 ≤ w6.heap.size := Nat.le_trans hz5 hb6.size
          have hw6 : Below w.heap.size w w6 := hW.trans (hB6.mono (by omega))
          go_wp2_with fail
          refine (ho5.out _ hb6).mono ?_
          rintro e w7 ⟨A7, c7, rfl, o7, hb7⟩
          have hB7 := hB6.trans (hb7.mono hz6)
          have hz7 : w.heap.size + 1 ≤ w7.heap.size := Nat.le_trans hz6 hb7.size
          have hw7 : Below w.heap.size w w7 := hW.trans (hB7.mono (by omega))
          have hq7 := hb6.trans (hb7.mono hb6.size)
          replace o6 := o6.below hb7
          go_wp2_with fail
          refine (hU.out A6 A7 c6 c7 w7 o6.rd.1 o7.rd.1 o6.rd.2.2.1 o7.rd.2.2.1 o6.rd.2.2.2 o7.rd.2.2.2).mono ?_
          rintro e w8 ⟨A8, n8, c8, rfl, r8, hb8⟩
          have hB8 := hB7.trans (hb8.mono hz7)
          have hz8 : w.heap.size + 1 ≤ w8.heap.size := Nat.le_trans hz7 hb8.size
          have hw8 : Below w.heap.size w w8 := hW.trans (hB8.mono (by omega))
          have hq8 := hq7.trans (hb8.mono hq7.size)
          clear o6 o7
          go_wp2_with fail
          refine (ho3.out _ hq8).mono ?_
          rintro e w9 ⟨A9, c9, rfl, o9, hb9⟩
          have hB9 := hB8.trans (hb9.mono hz8)
          have hz9 : w.heap.size + 1 ≤ w9.heap.size := Nat.le_trans hz8 hb9.size
          have hw9 : Below w.heap.size w w9 := hW.trans (hB9.mono (by omega))
          have hq9 := hq8.trans (hb9.mono hq8.size)
          replace r8 := r8.below hb9
          go_wp2_with fail
          refine (ho5.out _ hq9).mono ?_
          rintro e w10 ⟨A10, c10, rfl, o10, hb10⟩
          have hB10 := hB9.trans (hb10.mono hz9)
          have hz10 : w.heap.size + 1 ≤ w10.heap.size := Nat.le_trans hz9 hb10.size
          have hw10 : Below w.heap.size w w10 := hW.trans (hB10.mono (by omega))
          have hq10 := hq9.trans (hb10.mono hq9.size)
          replace r8 := r8.below hb10
          replace o9 := o9.below hb10
          go_wp2_with fail
          refine (hM.out A9 A10 c9 c10 w10 o9.rd.1 o10.rd.1 o9.rd.2.2.1 o10.rd.2.2.1 o9.rd.2.2.2 o10.rd.2.2.2).mono ?_
          rintro e w11 ⟨A11, n11, c11, rfl, r11, hb11⟩
          have hB11 := hB10.trans (hb11.mono hz10)
          have hz11 : w.heap.size + 1 ≤ w11.heap.size := Nat.le_trans hz10 hb11.size
          have hw11 : Below w.heap.size w w11 := hW.trans (hB11.mono (by omega))
          have hq11 := hq10.trans (hb11.mono hq10.size)
          replace r8 := r8.below hb11
          clear o9 o10
          have hbi : w11.heap[w.heap.size]? = some (.cells #[.int .i64 x.1, .int .u32 x.2] 35 (0, 0)) := (hB11.block _ (by omega)).trans (heap_at _ _ rfl)
          have q0 := blk_cell hbi 0
          have q1 := blk_cell hbi 1
          simp at q0 q1
          have hlt : w.heap.size < w11.heap.size := by omega
          have hq0 : KQ w11.heap.size w11 w11 := kq (Below.refl _ _)
          have h1 := Lib.hid (fun w' (hb : Below w11.heap.size w11 w') => (show Calls Try.prog 26 #[.slice A3 n3 c3, .agg #[.int .i64 x.1, .int .u32 x.2]] w' fun e w'' => e = .returned (.bool i) ∧ Below w'.heap.size w' w'' from by
            have h := has_any A3 n3 c3 p x w' (r3H.out.below (hq11.trans (hb.mono hq11.size))).1 (r3H.out.2); rwa [hiH.out] at h))
          have h2 := Lib.hid (fun w' (hb : Below w11.heap.size w11 w') => (show Calls Try.prog 26 #[.slice A5 n5 c5, .agg #[.int .i64 x.1, .int .u32 x.2]] w' fun e w'' => e = .returned (.bool o) ∧ Below w'.heap.size w' w'' from by
            have h := has_any A5 n5 c5 q x w' (r5H.out.below (hq11.trans (hb.mono hq11.size))).1 (r5H.out.2); rwa [hoH.out] at h))
          clear hbi
          rcases un1 with rfl | rfl
          · have hu0 := un2H.out rfl
            go_wp2_with fail
            go_region_held3 (fun w' => KQ w11.heap.size w11 w') (first
      | with_reducible exact kq_call (by assumption) (by simp) (by assumption)
      | with_reducible exact kq_grown (by assumption) (by simp) (by assumption) (by simp [Value.ownBlock])
      | ((with_reducible refine kq ?_); (repeat (first | (with_reducible exact Below.refl _ _) | (with_reducible refine Below.drew ?_) | (with_reducible refine Below.alloc ?_ (by simp) _) | (with_reducible refine Below.setCell ?_ (by simp) _) | (with_reducible exact (by assumption : KQ _ _ _).1))); done))
              (first
                | (go_at_call 26; first
                    | ((with_reducible refine (h1.out _ (by with_reducible assumption : KQ w11.heap.size w11 _).1).mono ?_); rintro e w12 ⟨rfl, hb12⟩)
                    | ((with_reducible refine (h2.out _ (by with_reducible assumption : KQ w11.heap.size w11 _).1).mono ?_); rintro e w13 ⟨rfl, hb13⟩)))
            have hF : KQ w11.heap.size w11 w13 := by with_reducible assumption
            have hq13 := hF.1
            have hB13 := hB11.trans (hq13.mono hz11)
            have hz13 : w.heap.size + 1 ≤ w13.heap.size := Nat.le_trans hz11 hq13.size
            have hw13 : Below w.heap.size w w13 := hW.trans (hB13.mono (by omega))
            have hmz := r11.below hq13
            have huz := r8.below hq13
            have c1 := has_any A11 n11 c11 mm x w13 hmz.1 hmz.2
            rw [mi3xH.out] at c1
            have c1 := Lib.hid c1
            have hlt13 : w.heap.size < w13.heap.size := by omega
            clear hF
            cases i <;> cases o
            all_goals
              go_wp2_with fail
              refine c1.out.mono ?_
              rintro e w14 ⟨rfl, hb14⟩
              have hB14 := hB13.trans (hb14.mono hz13)
              have hz14 : w.heap.size + 1 ≤ w14.heap.size := Nat.le_trans hz13 hb14.size
              have hw14 : Below w.heap.size w w14 := hW.trans (hB14.mono (by omega))
              have hmy := hmz.below hb14
              have huy := huz.below hb14
              have c2 := check_any A11 n11 c11 mm w14 hmy.1 hmy.2 hmwH.out
              rw [mi2H.out] at c2
              have c2 := Lib.hid c2
              go_wp2_with fail
              refine c2.out.mono ?_
              rintro e w15 ⟨rfl, hb15⟩
              have hB15 := hB14.trans (hb15.mono hz14)
              have hz15 : w.heap.size + 1 ≤ w15.heap.size := Nat.le_trans hz14 hb15.size
              have hw15 : Below w.heap.size w w15 := hW.trans (hB15.mono (by omega))
              have huv := huy.below hb15
              have c3 := has_any A8 n8 c8 uu x w15 huv.1 huv.2
              rw [un2xH.out (by first | trivial | rfl)] at c3
              have c3 := Lib.hid c3
              have hbj : w15.heap[w.heap.size]? = some (.cells #[.int .i64 x.1, .int .u32 x.2] 35 (0, 0)) := (hB15.block _ (by omega)).trans (heap_at _ _ rfl)
              have t0 := blk_cell hbj 0
              have t1 := blk_cell hbj 1
              simp at t0 t1
              have hlt15 : w.heap.size < w15.heap.size := by omega
              go_wp2_with fail
              refine c3.out.mono ?_
              rintro e w16 ⟨rfl, hb16⟩
              have hB16 := hB15.trans (hb16.mono hz15)
              have hz16 : w.heap.size + 1 ≤ w16.heap.size := Nat.le_trans hz15 hb16.size
              have hw16 : Below w.heap.size w w16 := hW.trans (hB16.mono (by omega))
              have huu := huv.below hb16
              have c4 := check_any A8 n8 c8 uu w16 huu.1 huu.2 (huwH.out (by first | trivial | rfl))
              rw [hu0.1] at c4
              have c4 := Lib.hid c4
              go_wp2_with fail
              refine c4.out.mono ?_
              rintro e w17 ⟨rfl, hb17⟩
              have hw17 : Below w.heap.size w w17 := hW.trans ((hB16.trans (hb17.mono hz16)).mono (by omega))
              go_wp2
              go_ret
              exact ⟨rfl, by assumption⟩
          · skip
            go_wp2_with fail
            go_region_held3 (fun w' => KQ w11.heap.size w11 w') (first
      | with_reducible exact kq_call (by assumption) (by simp) (by assumption)
      | with_reducible exact kq_grown (by assumption) (by simp) (by assumption) (by simp [Value.ownBlock])
      | ((with_reducible refine kq ?_); (repeat (first | (with_reducible exact Below.refl _ _) | (with_reducible refine Below.drew ?_) | (with_reducible refine Below.alloc ?_ (by simp) _) | (with_reducible refine Below.setCell ?_ (by simp) _) | (with_reducible exact (by assumption : KQ _ _ _).1))); done))
              (first
                | (go_at_call 26; first
                    | ((with_reducible refine (h1.out _ (by with_reducible assumption : KQ w11.heap.size w11 _).1).mono ?_); rintro e w12 ⟨rfl, hb12⟩)
                    | ((with_reducible refine (h2.out _ (by with_reducible assumption : KQ w11.heap.size w11 _).1).mono ?_); rintro e w13 ⟨rfl, hb13⟩)))
            have hF : KQ w11.heap.size w11 w13 := by with_reducible assumption
            have hq13 := hF.1
            have hB13 := hB11.trans (hq13.mono hz11)
            have hz13 : w.heap.size + 1 ≤ w13.heap.size := Nat.le_trans hz11 hq13.size
            have hw13 : Below w.heap.size w w13 := hW.trans (hB13.mono (by omega))
            have hmz := r11.below hq13
            have huz := r8.below hq13
            have c1 := has_any A11 n11 c11 mm x w13 hmz.1 hmz.2
            rw [mi3xH.out] at c1
            have c1 := Lib.hid c1
            have hlt13 : w.heap.size < w13.heap.size := by omega
            clear hF
            cases i <;> cases o
            all_goals
              go_wp2_with fail
              refine c1.out.mono ?_
              rintro e w14 ⟨rfl, hb14⟩
              have hB14 := hB13.trans (hb14.mono hz13)
              have hz14 : w.heap.size + 1 ≤ w14.heap.size := Nat.le_trans hz13 hb14.size
              have hw14 : Below w.heap.size w w14 := hW.trans (hB14.mono (by omega))
              have hmy := hmz.below hb14
              have huy := huz.below hb14
              have c2 := check_any A11 n11 c11 mm w14 hmy.1 hmy.2 hmwH.out
              rw [mi2H.out] at c2
              have c2 := Lib.hid c2
              go_wp2_with fail
              refine c2.out.mono ?_
              rintro e w15 ⟨rfl, hb15⟩
              have hB15 := hB14.trans (hb15.mono hz14)
              have hz15 : w.heap.size + 1 ≤ w15.heap.size := Nat.le_trans hz14 hb15.size
              have hw15 : Below w.heap.size w w15 := hW.trans (hB15.mono (by omega))
              skip
              go_wp2
              go_ret
              exact ⟨rfl, by assumption⟩
        · subst he1
          have hen : (e2 == 0) = false := by simpa using he2
          have hen2 : (e2 != 0) = true := by simpa using he2
          clear he2
          go_wp2
          go_ret
          exact ⟨rfl, hw5⟩
      · have hen : (e1 == 0) = false := by simpa using he1
        have hen2 : (e1 != 0) = true := by simpa using he1
        clear he1
        go_wp2
        go_ret
        exact ⟨rfl, hw5⟩
end Go.Proofs.Ythfjbbijcemmoaa
