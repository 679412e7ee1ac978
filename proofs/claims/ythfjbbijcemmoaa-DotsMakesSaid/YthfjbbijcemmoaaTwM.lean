/- The statement DotsMakes, walked. -/
import Derived.Test.YthfjbbijcemmoaaDmD
import Derived.Test.YthfjbbijcemmoaaDmA
import Derived.Test.YthfjbbijcemmoaaDtK
namespace Go.Proofs.Ythfjbbijcemmoaa
open Go.RowKit

theorem grI_bound {n : Nat} (h : grI n = false) : n ≤ 1100 := by
  unfold grI at h
  rw [decide_eq_false_iff_not] at h
  omega

set_option maxRecDepth 100000 in
set_option maxHeartbeats 2000000 in
theorem makes_any (A : Option Addr) (n c : Nat) (xs : List Im) (x : Im) (w : World) (hA : RdI w w.heap.size A n xs) (hx : ∀ x ∈ xs, x.wf) :
    Calls Try.prog 4 #[.slice A n c, .agg #[.int .i64 x.1, .int .u32 x.2]] w fun e w' => e = .returned (.bool true) ∧ Below w.heap.size w w' := by
  have hW : Below w.heap.size w (w.alloc (.cells #[.int .i64 x.1, .int .u32 x.2] 35)) := (Below.refl _ w).alloc (Nat.le_refl _) _
  have g1 := great_any A n c
  cases hga : grI n with
  | true =>
    rw [hga] at g1
    go_enter Try.func4, Try.ntmps4
    go_wp2_with fail
    refine (g1 _).mono ?_
    rintro e w1 ⟨rfl, rfl⟩
    go_wp2
    go_ret
    exact ⟨rfl, hW⟩
  | false =>
    rw [hga] at g1
    have hn := grI_bound hga
    have hnm : n ≤ maxLen := by simp [maxLen]; omega
    clear hga
    have ho1 := Lib.hid (fun w' (hb : Below w.heap.size w w') => own_any A n c xs w' ((hA.below hb).more hb.size) hn)
    have hmk := Lib.hid (fun A' c' w' (h1 : RdI w' w'.heap.size A' n xs) => make_any A' n c' xs w' h1 hn hx)
    have hrm := Lib.hid (fun w' (hb : Below w.heap.size w w') => rmake_any A n c xs w' ((hA.below hb).more hb.size) hnm hx)
    have hck := Lib.hid (fun A' c' w' (h1 : RdI w' w'.heap.size A' n xs) => check_any A' n c' xs w' h1 hnm hx)
    have hrc := Lib.hid (fun w' (hb : Below w.heap.size w w') => rcheck_any A n c xs w' ((hA.below hb).more hb.size) hnm hx)
    have hhs := Lib.hid (fun A' c' w' (h1 : RdI w' w'.heap.size A' n xs) => has_any A' n c' xs x w' h1 hnm)
    have hrh := Lib.hid (fun w' (hb : Below w.heap.size w w') => rhas_any A n c xs x w' ((hA.below hb).more hb.size) hnm)
    have hAH := Lib.hid hA
    generalize makeErr xs = em at hmk hrm
    generalize makeOut xs = mo at hmk hrm
    generalize lerr xs = el at hck hrc
    generalize xs.contains x = bh at hhs hrh
    clear hA hx
    go_enter Try.func4, Try.ntmps4
    go_wp2_with fail
    refine (g1 _).mono ?_
    rintro e w1 ⟨rfl, rfl⟩
    go_wp2_with fail
    refine (ho1.out _ hW).mono ?_
    rintro e w2 ⟨A2, c2, rfl, o2, hb2⟩
    have hB2 : Below (w.heap.size + 1) (w.alloc (.cells #[.int .i64 x.1, .int .u32 x.2] 35)) w2 := hb2.mono (by simp)
    have hz2 : w.heap.size + 1 ≤ w2.heap.size := by have := hb2.size; simpa using this
    have hw2 : Below w.heap.size w w2 := hW.trans (hB2.mono (by omega))
    go_wp2_with fail
    refine (hmk.out A2 c2 w2 o2.rd.1).mono ?_
    rintro e w3 ⟨A3, n3, c3, rfl, r3, hb3⟩
    have hB3 := hB2.trans (hb3.mono hz2)
    have hz3 : w.heap.size + 1 ≤ w3.heap.size := Nat.le_trans hz2 hb3.size
    have hw3 : Below w.heap.size w w3 := hW.trans (hB3.mono (by omega))
    replace o2 := o2.below hb3
    go_wp2_with fail
    refine (hrm.out w3 hw3).mono ?_
    rintro e w4 ⟨A4, n4, c4, rfl, r4, hb4⟩
    have hB4 := hB3.trans (hb4.mono hz3)
    have hz4 : w.heap.size + 1 ≤ w4.heap.size := Nat.le_trans hz3 hb4.size
    have hw4 : Below w.heap.size w w4 := hW.trans (hB4.mono (by omega))
    replace o2 := o2.below hb4
    replace r3 := r3.below hb4
    have hbi : w4.heap[w.heap.size]? = some (.cells #[.int .i64 x.1, .int .u32 x.2] 35 (0, 0)) := (hB4.block _ (by omega)).trans (heap_at _ _ rfl)
    have q0 := blk_cell hbi 0
    have q1 := blk_cell hbi 1
    simp at q0 q1
    have hlt : w.heap.size < w4.heap.size := by omega
    have hq0 : KQ w4.heap.size w4 w4 := kq (Below.refl _ _)
    have m2 : GotI w4 A2 n xs := gotI_own o2
    have s1 : Hid (∀ w', Below w4.heap.size w4 w' → Calls Try.prog 21 #[.slice A3 n3 c3, .slice A4 n4 c4] w' fun e w'' => e = .returned (.bool true) ∧ Below w'.heap.size w' w'') := Lib.hid (fun w' hb => by
      have h := same_any A3 A4 n3 n4 c3 c4 mo mo w' (r3.below hb).1 (r4.below hb).1 r3.2 r4.2
      simpa using h)
    have s2 : Hid (∀ w', Below w4.heap.size w4 w' → Calls Try.prog 21 #[.slice A2 n c2, .slice A n c] w' fun e w'' => e = .returned (.bool true) ∧ Below w'.heap.size w' w'') := Lib.hid (fun w' hb => by
      have h := same_any A2 A n n c2 c xs xs w' (m2.below hb).1 ((hAH.out.below (hw4.trans (hb.mono hw4.size))).more (Nat.le_trans hw4.size hb.size)) m2.2 hnm
      simpa using h)
    have m2H := Lib.hid m2
    clear hbi m2 r3 r4 o2
    go_wp2_with fail
    go_region_held3 (fun w' => KQ w4.heap.size w4 w') (first
      | with_reducible exact kq_call (by assumption) (by simp) (by assumption)
      | with_reducible exact kq_grown (by assumption) (by simp) (by assumption) (by simp [Value.ownBlock])
      | ((with_reducible refine kq ?_); (repeat (first | (with_reducible exact Below.refl _ _) | (with_reducible refine Below.drew ?_) | (with_reducible refine Below.alloc ?_ (by simp) _) | (with_reducible refine Below.setCell ?_ (by simp) _) | (with_reducible exact (by assumption : KQ _ _ _).1))); done))
      (first
        | (go_at_call 21; (with_reducible refine (s1.out _ ((by with_reducible assumption : KQ w4.heap.size w4 _)).1).mono ?_); rintro e w5 ⟨rfl, hb5⟩)
        | (go_at_call 24; refine (hck.out A2 c2 _ (m2H.out.below ((by with_reducible assumption : KQ w4.heap.size w4 _)).1).1).mono ?_; rintro e w6 ⟨rfl, hb6⟩)
        | (go_at_call 25; refine (hrc.out _ (hw4.trans (((by with_reducible assumption : KQ w4.heap.size w4 _)).1.mono hw4.size))).mono ?_; rintro e w7 ⟨rfl, hb7⟩)
        | (go_at_call 26; refine (hhs.out A2 c2 _ (m2H.out.below ((by with_reducible assumption : KQ w4.heap.size w4 _)).1).1).mono ?_; rintro e w8 ⟨rfl, hb8⟩)
        | (go_at_call 27; refine (hrh.out _ (hw4.trans (((by with_reducible assumption : KQ w4.heap.size w4 _)).1.mono hw4.size))).mono ?_; rintro e w9 ⟨rfl, hb9⟩)
        | (go_at_call 21; (with_reducible refine (s2.out _ ((by with_reducible assumption : KQ w4.heap.size w4 _)).1).mono ?_); rintro e w10 ⟨rfl, hb10⟩))
    have hF : KQ w4.heap.size w4 w10 := by with_reducible assumption
    have hG : Below w.heap.size w w10 := hw4.trans (hF.1.mono hw4.size)
    go_wp2
    go_ret
    exact ⟨rfl, hG⟩
end Go.Proofs.Ythfjbbijcemmoaa
