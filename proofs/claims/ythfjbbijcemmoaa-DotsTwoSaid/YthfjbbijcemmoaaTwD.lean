/- The statement DotsTwo, walked. -/
import Derived.Test.YthfjbbijcemmoaaDtP
import Derived.Test.YthfjbbijcemmoaaDtL
namespace Go.Proofs.Ythfjbbijcemmoaa
open Go.RowKit

theorem grI_false {n : Nat} (h : grI n = false) : n ≤ 1100 := by
  unfold grI at h
  rw [decide_eq_false_iff_not] at h
  omega

set_option maxRecDepth 100000 in
set_option maxHeartbeats 2000000 in
theorem two_any (A B : Option Addr) (n m c d : Nat) (xs ys : List Im) (v : Vm) (w : World) (hA : RdI w w.heap.size A n xs) (hB : RdI w w.heap.size B m ys) (hx : ∀ x ∈ xs, x.wf) (hy : ∀ x ∈ ys, x.wf) :
    Calls Try.prog 3 #[.slice A n c, .slice B m d, .agg #[.int .u32 v.d0, .int .u32 v.d1, .int .u32 v.d2, .int .u32 v.d3, .int .u32 v.d4, .int .u32 v.d5, .int .u32 v.d6, .int .u32 v.d7]] w fun e w' => e = .returned (.bool true) ∧ Below w.heap.size w w' := by
  have hW : Below w.heap.size w (w.alloc (.cells #[.int .u32 v.d0, .int .u32 v.d1, .int .u32 v.d2, .int .u32 v.d3, .int .u32 v.d4, .int .u32 v.d5, .int .u32 v.d6, .int .u32 v.d7] 25)) := (Below.refl _ w).alloc (Nat.le_refl _) _
  have g1 := great_any A n c
  have g2 := great_any B m d
  cases hga : grI n with
  | true =>
    rw [hga] at g1
    go_enter Try.func3, Try.ntmps3
    go_wp2_with fail
    refine (g1 _).mono ?_
    rintro e w1 ⟨rfl, rfl⟩
    go_wp2
    go_ret
    exact ⟨rfl, hW⟩
  | false =>
    rw [hga] at g1
    have hn := grI_false hga
    clear hga
    cases hgb : grI m with
    | true =>
      rw [hgb] at g2
      go_enter Try.func3, Try.ntmps3
      go_wp2_with fail
      refine (g1 _).mono ?_
      rintro e w1 ⟨rfl, rfl⟩
      go_wp2_with fail
      refine (g2 _).mono ?_
      rintro e w1 ⟨rfl, rfl⟩
      go_wp2
      go_ret
      exact ⟨rfl, hW⟩
    | false =>
      rw [hgb] at g2
      have hm := grI_false hgb
      clear hgb
      have ho1 := Lib.hid (fun w' (hb : Below w.heap.size w w') => own_any A n c xs w' ((hA.below hb).more hb.size) hn)
      have ho2 := Lib.hid (fun w' (hb : Below w.heap.size w w') => own_any B m d ys w' ((hB.below hb).more hb.size) hm)
      have hu := Lib.hid (fun A' B' c' d' w' (h1 : RdI w' w'.heap.size A' n xs) (h2 : RdI w' w'.heap.size B' m ys) (e1 : n ≤ c') (e2 : m ≤ d') (e3 : c' ≤ maxLen) (e4 : d' ≤ maxLen) => union_any A' B' n m c' d' xs ys w' h1 h2 hn hm e1 e2 e3 e4 hx hy)
      have hmi := Lib.hid (fun A' B' c' d' w' (h1 : RdI w' w'.heap.size A' n xs) (h2 : RdI w' w'.heap.size B' m ys) (e1 : n ≤ c') (e2 : m ≤ d') (e3 : c' ≤ maxLen) (e4 : d' ≤ maxLen) => minus_any A' B' n m c' d' xs ys w' h1 h2 hn hm e1 e2 e3 e4 hx hy)
      have hbe := Lib.hid (fun A' c' w' (h1 : RdI w' w'.heap.size A' n xs) => beyond_any A' n c' xs v w' h1 hn hx)
      have hru := Lib.hid (fun w' (hb : Below w.heap.size w w') => runion_any A B n m c d xs ys w' ((hA.below hb).more hb.size) ((hB.below hb).more hb.size) hn hm hx hy)
      have hrm := Lib.hid (fun w' (hb : Below w.heap.size w w') => rminus_any A B n m c d xs ys w' ((hA.below hb).more hb.size) ((hB.below hb).more hb.size) hn (by simp [maxLen]; omega) hx hy)
      have hrb := Lib.hid (fun w' (hb : Below w.heap.size w w') => rbeyond_any A n c xs v w' ((hA.below hb).more hb.size) hn hx)
      generalize unionErr xs ys = eu at hu hru
      generalize unionR xs ys = ru at hu hru
      generalize lerr2 xs ys = em at hmi hrm
      generalize minusI xs ys = rm at hmi hrm
      generalize lerr xs = eb at hbe hrb
      generalize beyondI xs v = rb at hbe hrb
      clear hA hB hx hy
      go_enter Try.func3, Try.ntmps3
      go_wp2_with fail
      refine (g1 _).mono ?_
      rintro e w1 ⟨rfl, rfl⟩
      go_wp2_with fail
      refine (g2 _).mono ?_
      rintro e w1 ⟨rfl, rfl⟩
      go_wp2_with fail
      refine (ho1.out _ hW).mono ?_
      rintro e w2 ⟨A2, c2, rfl, o2, hb2⟩
      have hB2 : Below (w.heap.size + 1) (w.alloc (.cells #[.int .u32 v.d0, .int .u32 v.d1, .int .u32 v.d2, .int .u32 v.d3, .int .u32 v.d4, .int .u32 v.d5, .int .u32 v.d6, .int .u32 v.d7] 25)) w2 := hb2.mono (by simp)
      have hz2 : w.heap.size + 1 ≤ w2.heap.size := by have := hb2.size; simpa using this
      have hw2 : Below w.heap.size w w2 := hW.trans (hB2.mono (by omega))
      go_wp2_with fail
      refine (ho2.out _ hw2).mono ?_
      rintro e w3 ⟨A3, c3, rfl, o3, hb3⟩
      have hB3 : Below (w.heap.size + 1) (w.alloc (.cells #[.int .u32 v.d0, .int .u32 v.d1, .int .u32 v.d2, .int .u32 v.d3, .int .u32 v.d4, .int .u32 v.d5, .int .u32 v.d6, .int .u32 v.d7] 25)) w3 := hB2.trans (hb3.mono hz2)
      have hz3 : w.heap.size + 1 ≤ w3.heap.size := Nat.le_trans hz2 hb3.size
      have hw3 : Below w.heap.size w w3 := hW.trans (hB3.mono (by omega))
      replace o2 := o2.below hb3
      go_wp2_with fail
      refine (hu.out A2 A3 c2 c3 w3 o2.rd.1 o3.rd.1 o2.rd.2.2.1 o3.rd.2.2.1 o2.rd.2.2.2 o3.rd.2.2.2).mono ?_
      rintro e w4 ⟨A4, n4, c4, rfl, r4, hb4⟩
      have hB4 : Below (w.heap.size + 1) (w.alloc (.cells #[.int .u32 v.d0, .int .u32 v.d1, .int .u32 v.d2, .int .u32 v.d3, .int .u32 v.d4, .int .u32 v.d5, .int .u32 v.d6, .int .u32 v.d7] 25)) w4 := hB3.trans (hb4.mono hz3)
      have hz4 : w.heap.size + 1 ≤ w4.heap.size := Nat.le_trans hz3 hb4.size
      have hw4 : Below w.heap.size w w4 := hW.trans (hB4.mono (by omega))
      clear o2 o3
      go_wp2_with fail
      refine (hru.out w4 hw4).mono ?_
      rintro e w5 ⟨A5, n5, c5, rfl, r5, hb5⟩
      have hB5 : Below (w.heap.size + 1) (w.alloc (.cells #[.int .u32 v.d0, .int .u32 v.d1, .int .u32 v.d2, .int .u32 v.d3, .int .u32 v.d4, .int .u32 v.d5, .int .u32 v.d6, .int .u32 v.d7] 25)) w5 := hB4.trans (hb5.mono hz4)
      have hz5 : w.heap.size + 1 ≤ w5.heap.size := Nat.le_trans hz4 hb5.size
      have hw5 : Below w.heap.size w w5 := hW.trans (hB5.mono (by omega))
      replace r4 := r4.below hb5
      go_wp2_with fail
      refine (ho1.out _ hw5).mono ?_
      rintro e w6 ⟨A6, c6, rfl, o6, hb6⟩
      have hB6 : Below (w.heap.size + 1) (w.alloc (.cells #[.int .u32 v.d0, .int .u32 v.d1, .int .u32 v.d2, .int .u32 v.d3, .int .u32 v.d4, .int .u32 v.d5, .int .u32 v.d6, .int .u32 v.d7] 25)) w6 := hB5.trans (hb6.mono hz5)
      have hz6 : w.heap.size + 1 ≤ w6.heap.size := Nat.le_trans hz5 hb6.size
      have hw6 : Below w.heap.size w w6 := hW.trans (hB6.mono (by omega))
      replace r4 := r4.below hb6
      replace r5 := r5.below hb6
      go_wp2_with fail
      refine (ho2.out _ hw6).mono ?_
      rintro e w7 ⟨A7, c7, rfl, o7, hb7⟩
      have hB7 : Below (w.heap.size + 1) (w.alloc (.cells #[.int .u32 v.d0, .int .u32 v.d1, .int .u32 v.d2, .int .u32 v.d3, .int .u32 v.d4, .int .u32 v.d5, .int .u32 v.d6, .int .u32 v.d7] 25)) w7 := hB6.trans (hb7.mono hz6)
      have hz7 : w.heap.size + 1 ≤ w7.heap.size := Nat.le_trans hz6 hb7.size
      have hw7 : Below w.heap.size w w7 := hW.trans (hB7.mono (by omega))
      replace r4 := r4.below hb7
      replace r5 := r5.below hb7
      replace o6 := o6.below hb7
      go_wp2_with fail
      refine (hmi.out A6 A7 c6 c7 w7 o6.rd.1 o7.rd.1 o6.rd.2.2.1 o7.rd.2.2.1 o6.rd.2.2.2 o7.rd.2.2.2).mono ?_
      rintro e w8 ⟨A8, n8, c8, rfl, r8, hb8⟩
      have hB8 : Below (w.heap.size + 1) (w.alloc (.cells #[.int .u32 v.d0, .int .u32 v.d1, .int .u32 v.d2, .int .u32 v.d3, .int .u32 v.d4, .int .u32 v.d5, .int .u32 v.d6, .int .u32 v.d7] 25)) w8 := hB7.trans (hb8.mono hz7)
      have hz8 : w.heap.size + 1 ≤ w8.heap.size := Nat.le_trans hz7 hb8.size
      have hw8 : Below w.heap.size w w8 := hW.trans (hB8.mono (by omega))
      replace r4 := r4.below hb8
      replace r5 := r5.below hb8
      clear o6 o7
      go_wp2_with fail
      refine (hrm.out w8 hw8).mono ?_
      rintro e w9 ⟨A9, n9, c9, rfl, r9, hb9⟩
      have hB9 : Below (w.heap.size + 1) (w.alloc (.cells #[.int .u32 v.d0, .int .u32 v.d1, .int .u32 v.d2, .int .u32 v.d3, .int .u32 v.d4, .int .u32 v.d5, .int .u32 v.d6, .int .u32 v.d7] 25)) w9 := hB8.trans (hb9.mono hz8)
      have hz9 : w.heap.size + 1 ≤ w9.heap.size := Nat.le_trans hz8 hb9.size
      have hw9 : Below w.heap.size w w9 := hW.trans (hB9.mono (by omega))
      replace r4 := r4.below hb9
      replace r5 := r5.below hb9
      replace r8 := r8.below hb9
      have hbv : w9.heap[w.heap.size]? = some (.cells #[.int .u32 v.d0, .int .u32 v.d1, .int .u32 v.d2, .int .u32 v.d3, .int .u32 v.d4, .int .u32 v.d5, .int .u32 v.d6, .int .u32 v.d7] 25 (0, 0)) := (hB9.block _ (by omega)).trans (heap_at _ _ rfl)
      have q0 := blk_cell hbv 0
      have q1 := blk_cell hbv 1
      have q2 := blk_cell hbv 2
      have q3 := blk_cell hbv 3
      have q4 := blk_cell hbv 4
      have q5 := blk_cell hbv 5
      have q6 := blk_cell hbv 6
      have q7 := blk_cell hbv 7
      simp at q0 q1 q2 q3 q4 q5 q6 q7
      have hbv2 : w.heap.size < w9.heap.size := by omega
      have hq0 : KQ w9.heap.size w9 w9 := kq (Below.refl _ _)
      clear hbv
      go_wp2_with fail
      go_region_held3 (fun w' => KQ w9.heap.size w9 w') (first
      | with_reducible exact kq_call (by assumption) (by simp) (by assumption)
      | with_reducible exact kq_grown (by assumption) (by simp) (by assumption) (by simp [Value.ownBlock])
      | ((with_reducible refine kq ?_); (repeat (first | (with_reducible exact Below.refl _ _) | (with_reducible refine Below.drew ?_) | (with_reducible refine Below.alloc ?_ (by simp) _) | (with_reducible refine Below.setCell ?_ (by simp) _) | (with_reducible exact (by assumption : KQ _ _ _).1))); done))
        (first
          | (go_at_call 15; refine (ho1.out _ (hw9.trans (((by with_reducible assumption : KQ w9.heap.size w9 _)).1.mono hw9.size))).mono ?_; rintro e w10 ⟨A10, c10, rfl, o10, hb10⟩)
          | (go_at_call 19; refine (hbe.out A10 c10 w10 o10.rd.1).mono ?_; rintro e w11 ⟨A11, n11, c11, rfl, r11, hb11⟩))
      have hb11 : Below w9.heap.size w9 w11 := (by with_reducible assumption : KQ w9.heap.size w9 w11).1
      have hB11 : Below (w.heap.size + 1) (w.alloc (.cells #[.int .u32 v.d0, .int .u32 v.d1, .int .u32 v.d2, .int .u32 v.d3, .int .u32 v.d4, .int .u32 v.d5, .int .u32 v.d6, .int .u32 v.d7] 25)) w11 := hB9.trans (hb11.mono hz9)
      have hz11 : w.heap.size + 1 ≤ w11.heap.size := Nat.le_trans hz9 hb11.size
      have hw11 : Below w.heap.size w w11 := hW.trans (hB11.mono (by omega))
      replace r4 := r4.below hb11
      replace r5 := r5.below hb11
      replace r8 := r8.below hb11
      replace r9 := r9.below hb11
      go_wp2_with fail
      refine (hrb.out w11 hw11).mono ?_
      rintro e w12 ⟨A12, n12, c12, rfl, r12, hb12⟩
      have hB12 : Below (w.heap.size + 1) (w.alloc (.cells #[.int .u32 v.d0, .int .u32 v.d1, .int .u32 v.d2, .int .u32 v.d3, .int .u32 v.d4, .int .u32 v.d5, .int .u32 v.d6, .int .u32 v.d7] 25)) w12 := hB11.trans (hb12.mono hz11)
      have hz12 : w.heap.size + 1 ≤ w12.heap.size := Nat.le_trans hz11 hb12.size
      have hw12 : Below w.heap.size w w12 := hW.trans (hB12.mono (by omega))
      replace r4 := r4.below hb12
      replace r5 := r5.below hb12
      replace r8 := r8.below hb12
      replace r9 := r9.below hb12
      replace r11 := r11.below hb12
      have s1 := Lib.hid (same_any A4 A5 n4 n5 c4 c5 ru ru w12 r4.1 r5.1 r4.2 r5.2)
      go_wp2_with fail
      refine s1.out.mono ?_
      rintro e w13 ⟨he, hb13⟩
      obtain rfl := he.trans (ret_bool (b := true) (by simp))
      have hB13 : Below (w.heap.size + 1) (w.alloc (.cells #[.int .u32 v.d0, .int .u32 v.d1, .int .u32 v.d2, .int .u32 v.d3, .int .u32 v.d4, .int .u32 v.d5, .int .u32 v.d6, .int .u32 v.d7] 25)) w13 := hB12.trans (hb13.mono hz12)
      have hz13 : w.heap.size + 1 ≤ w13.heap.size := Nat.le_trans hz12 hb13.size
      have hw13 : Below w.heap.size w w13 := hW.trans (hB13.mono (by omega))
      replace r8 := r8.below hb13
      replace r9 := r9.below hb13
      replace r11 := r11.below hb13
      replace r12 := r12.below hb13
      have s2 := Lib.hid (same_any A8 A9 n8 n9 c8 c9 rm rm w13 r8.1 r9.1 r8.2 r9.2)
      go_wp2_with fail
      refine s2.out.mono ?_
      rintro e w14 ⟨he, hb14⟩
      obtain rfl := he.trans (ret_bool (b := true) (by simp))
      have hB14 : Below (w.heap.size + 1) (w.alloc (.cells #[.int .u32 v.d0, .int .u32 v.d1, .int .u32 v.d2, .int .u32 v.d3, .int .u32 v.d4, .int .u32 v.d5, .int .u32 v.d6, .int .u32 v.d7] 25)) w14 := hB13.trans (hb14.mono hz13)
      have hz14 : w.heap.size + 1 ≤ w14.heap.size := Nat.le_trans hz13 hb14.size
      have hw14 : Below w.heap.size w w14 := hW.trans (hB14.mono (by omega))
      replace r11 := r11.below hb14
      replace r12 := r12.below hb14
      have s3 := Lib.hid (same_any A11 A12 n11 n12 c11 c12 rb rb w14 r11.1 r12.1 r11.2 r12.2)
      go_wp2_with fail
      refine s3.out.mono ?_
      rintro e w15 ⟨he, hb15⟩
      obtain rfl := he.trans (ret_bool (b := true) (by simp))
      have hB15 : Below (w.heap.size + 1) (w.alloc (.cells #[.int .u32 v.d0, .int .u32 v.d1, .int .u32 v.d2, .int .u32 v.d3, .int .u32 v.d4, .int .u32 v.d5, .int .u32 v.d6, .int .u32 v.d7] 25)) w15 := hB14.trans (hb15.mono hz14)
      have hz15 : w.heap.size + 1 ≤ w15.heap.size := Nat.le_trans hz14 hb15.size
      have hw15 : Below w.heap.size w w15 := hW.trans (hB15.mono (by omega))
      go_wp2
      go_ret
      exact ⟨rfl, hw15⟩
end Go.Proofs.Ythfjbbijcemmoaa
