/- The statement DotsFolds, walked. -/
import Derived.Test.YthfjbbijcemmoaaDoorVcD
import Derived.Test.YthfjbbijcemmoaaDoorVcE
import Derived.Test.YthfjbbijcemmoaaDoorDtW
import Derived.Test.YthfjbbijcemmoaaDoorAsB
import Derived.Test.YthfjbbijcemmoaaDoorRgB
namespace Go.Proofs.YthfjbbijcemmoaaDoor
open Go.RowKit

theorem grI_false' {n : Nat} (h : grI n = false) : n ≤ 1100 := by
  unfold grI at h
  rw [decide_eq_false_iff_not] at h
  omega
set_option maxRecDepth 100000 in
theorem pat_any (B : Nat) (v : Value) (w : World) (hlt : B < w.heap.size) (hc : w.cell? ⟨B, 1, none⟩ = some v) :
    Calls Tryd.prog 15 #[.pointer (some ⟨B, 0, none⟩)] w fun e w' => e = .returned v ∧ w = w' := by
  go_enter Tryd.func15, Tryd.ntmps15
  go_wp2
  go_ret
  exact ⟨rfl, rfl⟩
set_option maxRecDepth 100000 in
theorem pnew_any (s : ByteArray) (w : World) :
    Calls Tryd.prog 12 #[.string s] w fun e w' => e = .returned (.pointer (some ⟨w.heap.size, 0, none⟩)) ∧ w' = w.alloc (.cells #[.string s, .int .i64 0, .nilIface] 72) := by
  go_enter Tryd.func12, Tryd.ntmps12
  go_wp2
  go_ret
  exact ⟨rfl, rfl⟩
theorem RdrD.other {w w' : World} {p q : Nat} {S T : Rs} (hQ : RdrD w q S) (hP : RdrP w p T) (hg : w.grownBy w' (some p)) : RdrD w' q S :=
  hQ.grown hg (fun g cs t e hb => by
    injection e with e; subst e
    obtain ⟨_, hh, _⟩ := hP
    rw [hh] at hb
    injection hb with hb; injection hb with _ ht
    rw [← ht]; decide)
theorem RdrP.other {w w' : World} {p q : Nat} {S T : Rs} (hP : RdrP w p S) (hQ : RdrD w q T) (hg : w.grownBy w' (some q)) : RdrP w' p S :=
  hP.grown hg (fun g cs t e hb => by
    injection e with e; subst e
    unfold RdrD at hQ
    rw [hQ] at hb
    injection hb with hb; injection hb with _ ht
    rw [← ht]; exact ⟨by decide, by decide⟩)
theorem neqV (v : Vm) (w : World) : (binOp .neq 24 (.agg #[.int .u32 v.d0, .int .u32 v.d1, .int .u32 v.d2, .int .u32 v.d3, .int .u32 v.d4, .int .u32 v.d5, .int .u32 v.d6, .int .u32 v.d7]) (.agg #[.int .u32 v.d0, .int .u32 v.d1, .int .u32 v.d2, .int .u32 v.d3, .int .u32 v.d4, .int .u32 v.d5, .int .u32 v.d6, .int .u32 v.d7])).run Tryd.prog w = .ok (.bool false) w := by
  have h := run_neq_ints (P := Tryd.prog) (t := 24) (k := .u32) Tryd.underlying24 (Option.eq_some_of_isSome (by kernel_rfl)) (by kernel_rfl) Tryd.underlying22 [v.d0, v.d1, v.d2, v.d3, v.d4, v.d5, v.d6, v.d7] [v.d0, v.d1, v.d2, v.d3, v.d4, v.d5, v.d6, v.d7] rfl rfl w
  simpa using h

set_option maxRecDepth 100000 in
set_option maxHeartbeats 2000000 in
theorem folds_any (v : Vm) (A : Option Addr) (n c : Nat) (xs : List Im) (l : List UInt8) (w : World) (hA : RdI w w.heap.size A n xs) (hv : v.wf) (hx : ∀ x ∈ xs, x.wf) (hvar : VarOk w) :
    Calls Tryd.prog 3 #[.agg #[.int .u32 v.d0, .int .u32 v.d1, .int .u32 v.d2, .int .u32 v.d3, .int .u32 v.d4, .int .u32 v.d5, .int .u32 v.d6, .int .u32 v.d7], .slice A n c, .string (bs l)] w fun e w' => e = .returned (.bool true) ∧ Below w.heap.size w w' := by
  have hW : Below w.heap.size w (w.alloc (.cells #[.int .u32 v.d0, .int .u32 v.d1, .int .u32 v.d2, .int .u32 v.d3, .int .u32 v.d4, .int .u32 v.d5, .int .u32 v.d6, .int .u32 v.d7] 24)) := (Below.refl _ w).alloc (Nat.le_refl _) _
  have g1 := great_any A n c
  cases hga : grI n with
  | true =>
    rw [hga] at g1
    go_enter Tryd.func3, Tryd.ntmps3
    go_wp2_with fail
    refine (g1 _).mono ?_
    rintro e w1 ⟨rfl, rfl⟩
    go_wp2
    go_ret
    exact ⟨rfl, hW⟩
  | false =>
    rw [hga] at g1
    have hn := grI_false' hga
    clear hga
    by_cases hl2 : 2000 < l.length
    · have hd : decide ((2000 : Int) < (((bs l).size : Nat) : Int)) = true := decide_eq_true (by rw [bs_size]; omega)
      go_enter Tryd.func3, Tryd.ntmps3
      go_wp2_with fail
      refine (g1 _).mono ?_
      rintro e w1 ⟨rfl, rfl⟩
      go_wp2
      go_ret
      exact ⟨rfl, hW⟩
    · have hd : decide ((2000 : Int) < (((bs l).size : Nat) : Int)) = false := decide_eq_false (by rw [bs_size]; omega)
      have ho := Lib.hid (fun w' (hb : Below w.heap.size w w') => own_any A n c xs w' ((hA.below hb).more hb.size) hn)
      have hF := Lib.hid (fun A' c' w' (h1 : RdI w' w'.heap.size A' n xs) => fold_any v A' n c' xs w' h1 hn hv hx)
      have hRF := Lib.hid (fun w' (hb : Below w.heap.size w w') => rfold_any v A n c xs w' ((hA.below hb).more hb.size) hn hv hx)
      have hWr := Lib.hid (fun A' c' w' (h1 : RdI w' w'.heap.size A' n xs) => dtw_any A' n c' xs w' h1 hn hx)
      have hRW := Lib.hid (fun w' (hb : Below w.heap.size w w') => rdtw_any A n c xs w' ((hA.below hb).more hb.size) hn hx)
      have hnq := neqV (foldOut v xs)
      generalize foldOut v xs = fo at *
      generalize foldErr v xs = fe at *
      generalize foldRest v xs = fr at *
      generalize writeD xs = wd at *
      generalize lerr xs = le at *
      have hvH := Lib.hid hvar
      clear hA hx hv hvar
      go_enter Tryd.func3, Tryd.ntmps3
      go_wp2_with fail
      refine (g1 _).mono ?_
      rintro e w1 ⟨rfl, rfl⟩
      go_upto_region 4 with (fail)
      go_cut [7, 8, 9] (fun s7 s8 s9 wx => ∃ g A' n' c', s7 = .pointer (some ⟨g, 0, none⟩) ∧ w.heap.size < g ∧ s8 = .slice A' n' c' ∧ s9 = .int .i64 fe ∧ wx.heap[g]? = some (.cells #[.int .u32 fo.d0, .int .u32 fo.d1, .int .u32 fo.d2, .int .u32 fo.d3, .int .u32 fo.d4, .int .u32 fo.d5, .int .u32 fo.d6, .int .u32 fo.d7] 24 (0, 0)) ∧ Ow wx (w.heap.size + 1) 63 2 (.slice A' n' c') (fr.map Im.enc) ∧ Below (w.heap.size + 1) (w.alloc (.cells #[.int .u32 v.d0, .int .u32 v.d1, .int .u32 v.d2, .int .u32 v.d3, .int .u32 v.d4, .int .u32 v.d5, .int .u32 v.d6, .int .u32 v.d7] 24)) wx)
      case first =>
        have hq0 : KQ (w.heap.size + 1) (w.alloc (.cells #[.int .u32 v.d0, .int .u32 v.d1, .int .u32 v.d2, .int .u32 v.d3, .int .u32 v.d4, .int .u32 v.d5, .int .u32 v.d6, .int .u32 v.d7] 24)) (w.alloc (.cells #[.int .u32 v.d0, .int .u32 v.d1, .int .u32 v.d2, .int .u32 v.d3, .int .u32 v.d4, .int .u32 v.d5, .int .u32 v.d6, .int .u32 v.d7] 24)) := kq (Below.refl _ _)
        go_region_held3 (fun w' => KQ (w.heap.size + 1) (w.alloc (.cells #[.int .u32 v.d0, .int .u32 v.d1, .int .u32 v.d2, .int .u32 v.d3, .int .u32 v.d4, .int .u32 v.d5, .int .u32 v.d6, .int .u32 v.d7] 24)) w') (first
      | with_reducible exact kq_call (by assumption) (by simp) (by assumption)
      | with_reducible exact kq_grown (by assumption) (by simp) (by assumption) (by simp [Value.ownBlock])
      | ((repeat (first | (with_reducible refine kq_set ?_ (by first | (simp; done) | (simp; omega) | omega) _) | (with_reducible refine kq_alloc ?_ (by first | exact Nat.le_refl _ | (simp; done) | (simp; omega)) _))); (with_reducible assumption))
      | ((with_reducible refine kq ?_); (repeat (first | (with_reducible exact Below.refl _ _) | (with_reducible refine Below.drew ?_) | (with_reducible refine Below.alloc ?_ (by simp) _) | (with_reducible refine Below.setCell ?_ (by simp) _) | (with_reducible exact (by assumption : KQ _ _ _).1))); done))
          (first
            | (go_at_call 7; refine (ho.out _ (hW.trans ((by with_reducible assumption : KQ (w.heap.size + 1) (w.alloc (.cells #[.int .u32 v.d0, .int .u32 v.d1, .int .u32 v.d2, .int .u32 v.d3, .int .u32 v.d4, .int .u32 v.d5, .int .u32 v.d6, .int .u32 v.d7] 24)) _).1.mono (by omega)))).mono ?_; rintro e w2 ⟨A2, c2, rfl, o2, hb2⟩
               have hz2 := hb2.size
               (try simp at hz2)
               have hq2 : KQ (w.heap.size + 1) (w.alloc (.cells #[.int .u32 v.d0, .int .u32 v.d1, .int .u32 v.d2, .int .u32 v.d3, .int .u32 v.d4, .int .u32 v.d5, .int .u32 v.d6, .int .u32 v.d7] 24)) w2 := kq_call (by assumption) (by simp) hb2
               (try (have hx2 : w2.heap[w.heap.size + 1]? = some (.cells #[.int .u32 0, .int .u32 0, .int .u32 0, .int .u32 0, .int .u32 0, .int .u32 0, .int .u32 0, .int .u32 0] 24 (0, 0)) := (hb2.block _ (by simp; done)).trans (heap_at _ _ (by simp; done)))))
            | (go_at_call 6; refine (hF.out A2 c2 _ (by first | exact o2.rd.1 | exact (o2.below ((Below.refl _ _).alloc (Nat.le_refl _) _)).rd.1)).mono ?_; rintro e w3 ⟨A3, n3, c3, rfl, o3, hb3⟩
               have hz3 := hb3.size
               (try simp at hz3)
               have hq3 : KQ (w.heap.size + 1) (w.alloc (.cells #[.int .u32 v.d0, .int .u32 v.d1, .int .u32 v.d2, .int .u32 v.d3, .int .u32 v.d4, .int .u32 v.d5, .int .u32 v.d6, .int .u32 v.d7] 24)) w3 := kq_call (by assumption) (by simp) hb3
               (first
                 | (have hx3 : w3.heap[w.heap.size + 1]? = some (.cells #[.int .u32 0, .int .u32 0, .int .u32 0, .int .u32 0, .int .u32 0, .int .u32 0, .int .u32 0, .int .u32 0] 24 (0, 0)) := (hb3.block _ (blk_lt hx2)).trans hx2
                    have hfx := blk_frozen hx3
                    have x0 := blk_cell hx3 0; have x1 := blk_cell hx3 1; have x2 := blk_cell hx3 2; have x3 := blk_cell hx3 3; have x4 := blk_cell hx3 4; have x5 := blk_cell hx3 5; have x6 := blk_cell hx3 6; have x7 := blk_cell hx3 7; simp at x0 x1 x2 x3 x4 x5 x6 x7)
                 | (have hx3 : w3.heap[w2.heap.size]? = some (.cells #[.int .u32 0, .int .u32 0, .int .u32 0, .int .u32 0, .int .u32 0, .int .u32 0, .int .u32 0, .int .u32 0] 24 (0, 0)) := (hb3.block _ (by simp; done)).trans (heap_at _ _ rfl)
                    have hfx := blk_frozen hx3
                    have x0 := blk_cell hx3 0; have x1 := blk_cell hx3 1; have x2 := blk_cell hx3 2; have x3 := blk_cell hx3 3; have x4 := blk_cell hx3 4; have x5 := blk_cell hx3 5; have x6 := blk_cell hx3 6; have x7 := blk_cell hx3 7; simp at x0 x1 x2 x3 x4 x5 x6 x7)
                 | skip)))
        · go_wp2_with fail
          go_meet
          refine ⟨_, A3, n3, c3, rfl, by omega, rfl, rfl, heap_at _ _ rfl, (o3.below ((Below.refl _ _).alloc (Nat.le_refl _) _)).base (by omega), ?_⟩
          exact (kq_alloc hq3 (by simp) _).1
        · go_wp2_with fail
          go_meet
          refine ⟨_, A3, n3, c3, rfl, by omega, rfl, rfl, ?_, ?_, ?_⟩
          · with_reducible exact blk_set8 hx3 _ _ _ _ _ _ _ _
          · refine Ow.base (base := w2.heap.size + 1) ?_ (by omega)
            repeat (with_reducible refine Ow.setCell ?_ (by first | (simp; done) | (simp; omega) | omega) _)
            exact o3.base (by simp)
          · have hq3B := hq3.1
            repeat (first | (with_reducible exact hq3B) | (with_reducible refine Below.drew ?_) | (with_reducible refine Below.alloc ?_ (by first | (simp; done) | (simp; omega) | omega) _) | (with_reducible refine Below.setCell ?_ (by first | (simp; done) | (simp; omega) | omega) _))
        · go_wp2_with fail
          go_meet
          refine ⟨_, A3, n3, c3, rfl, by omega, rfl, rfl, ?_, ?_, ?_⟩
          · with_reducible exact blk_set8 hx3 _ _ _ _ _ _ _ _
          · refine Ow.base (base := w2.heap.size) ?_ (by omega)
            repeat (with_reducible refine Ow.setCell ?_ (by first | (simp; done) | (simp; omega) | omega) _)
            exact o3
          · have hq3B := hq3.1
            repeat (first | (with_reducible exact hq3B) | (with_reducible refine Below.drew ?_) | (with_reducible refine Below.alloc ?_ (by first | (simp; done) | (simp; omega) | omega) _) | (with_reducible refine Below.setCell ?_ (by first | (simp; done) | (simp; omega) | omega) _))
      case rest =>
        obtain ⟨g, A3, n3, c3, rfl, hgl, rfl, rfl, hbG, o3, hB⟩ := hcut
        have hzc := hB.size
        simp only [World.size_alloc] at hzc
        have hbV := (hB.block w.heap.size (by omega)).trans (heap_at _ _ rfl)
        have hlG := blk_lt hbG
        have hlV := blk_lt hbV
        have hwc : Below w.heap.size w wc := hW.trans (hB.mono (by omega))
        have q0 := blk_cell hbV 0
        have q1 := blk_cell hbV 1
        have q2 := blk_cell hbV 2
        have q3 := blk_cell hbV 3
        have q4 := blk_cell hbV 4
        have q5 := blk_cell hbV 5
        have q6 := blk_cell hbV 6
        have q7 := blk_cell hbV 7
        simp at q0 q1 q2 q3 q4 q5 q6 q7
        go_wp2_with fail
        refine (hRF.out wc hwc).mono ?_
        rintro e w5 ⟨A5, n5, c5, rfl, o5, hb5⟩
        have hz5 := hb5.size
        replace hbG := blk_below hbG hb5
        have hlG5 := blk_lt hbG
        replace o3 := o3.below hb5
        replace hB := hB.trans (hb5.mono hzc)
        have hw5 : Below w.heap.size w w5 := hW.trans (hB.mono (by omega))
        clear q0 q1 q2 q3 q4 q5 q6 q7 hbV
        go_wp2_with fail
        obtain ⟨w6, hw6⟩ : ∃ w6, w5.alloc (.cells #[.int .u32 fo.d0, .int .u32 fo.d1, .int .u32 fo.d2, .int .u32 fo.d3, .int .u32 fo.d4, .int .u32 fo.d5, .int .u32 fo.d6, .int .u32 fo.d7] 24) = w6 := ⟨_, rfl⟩
        have hbH : w6.heap[w5.heap.size]? = some (.cells #[.int .u32 fo.d0, .int .u32 fo.d1, .int .u32 fo.d2, .int .u32 fo.d3, .int .u32 fo.d4, .int .u32 fo.d5, .int .u32 fo.d6, .int .u32 fo.d7] 24 (0, 0)) := by rw [← hw6]; exact heap_at _ _ rfl
        have hb6 : Below w5.heap.size w5 w6 := by rw [← hw6]; exact (Below.refl _ w5).alloc (Nat.le_refl _) _
        rw [hw6]
        clear hw6
        have hz6 := hb6.size
        replace hbG := blk_below hbG hb6
        have hlH := blk_lt hbH
        have hlG6 := blk_lt hbG
        replace o3 := o3.below hb6
        replace o5 := o5.below hb6
        replace hB := hB.trans (hb6.mono (by omega))
        have hw6 : Below w.heap.size w w6 := hW.trans (hB.mono (by omega))
        refine (ho.out w6 hw6).mono ?_
        rintro e w7 ⟨A7, c7, rfl, o7, hb7⟩
        have hz7 := hb7.size
        replace hbG := blk_below hbG hb7
        replace hbH := blk_below hbH hb7
        have hlG7 := blk_lt hbG
        have hlH7 := blk_lt hbH
        replace o3 := o3.below hb7
        replace o5 := o5.below hb7
        replace hB := hB.trans (hb7.mono (by omega))
        have hw7 : Below w.heap.size w w7 := hW.trans (hB.mono (by omega))
        go_wp2_with fail
        refine (hWr.out A7 c7 w7 o7.rd.1).mono ?_
        rintro e w8 ⟨rfl, hb8⟩
        have hz8 := hb8.size
        replace hbG := blk_below hbG hb8
        replace hbH := blk_below hbH hb8
        have hlG8 := blk_lt hbG
        have hlH8 := blk_lt hbH
        replace o3 := o3.below hb8
        replace o5 := o5.below hb8
        replace hB := hB.trans (hb8.mono (by omega))
        have hw8 : Below w.heap.size w w8 := hW.trans (hB.mono (by omega))
        clear o7
        go_wp2_with fail
        refine (hRW.out w8 hw8).mono ?_
        rintro e w9 ⟨rfl, hb9⟩
        have hz9 := hb9.size
        replace hbG := blk_below hbG hb9
        replace hbH := blk_below hbH hb9
        have hlG9 := blk_lt hbG
        have hlH9 := blk_lt hbH
        replace o3 := o3.below hb9
        replace o5 := o5.below hb9
        replace hB := hB.trans (hb9.mono (by omega))
        have hw9 : Below w.heap.size w w9 := hW.trans (hB.mono (by omega))
        have hS := same_any A3 A5 n3 n5 c3 c5 fr fr w9 o3.rd.1 o5.rd.1 (Nat.le_trans o3.rd.2.2.1 o3.rd.2.2.2) (Nat.le_trans o5.rd.2.2.1 o5.rd.2.2.2)
        rw [decide_eq_true (rfl : fr = fr)] at hS
        have hS := Lib.hid hS
        have q0 := blk_cell hbG 0
        have q1 := blk_cell hbG 1
        have q2 := blk_cell hbG 2
        have q3 := blk_cell hbG 3
        have q4 := blk_cell hbG 4
        have q5 := blk_cell hbG 5
        have q6 := blk_cell hbG 6
        have q7 := blk_cell hbG 7
        simp at q0 q1 q2 q3 q4 q5 q6 q7
        have r0 := blk_cell hbH 0
        have r1 := blk_cell hbH 1
        have r2 := blk_cell hbH 2
        have r3 := blk_cell hbH 3
        have r4 := blk_cell hbH 4
        have r5 := blk_cell hbH 5
        have r6 := blk_cell hbH 6
        have r7 := blk_cell hbH 7
        simp at r0 r1 r2 r3 r4 r5 r6 r7
        go_wp2_with fail
        refine hS.out.mono ?_
        rintro e wA ⟨rfl, hbA⟩
        clear q0 q1 q2 q3 q4 q5 q6 q7 r0 r1 r2 r3 r4 r5 r6 r7
        have hwA : Below w.heap.size w wA := hw9.trans (hbA.mono hw9.size)
        have hzA := hwA.size
        clear hS hRW hWr hRF hF ho o3 o5 hbG hbH hB hnq
        go_wp2_with fail
        refine (pnew_any _ _).mono ?_
        rintro e wB ⟨rfl, hwBe⟩
        have hbB : Below wA.heap.size wA wB := by rw [hwBe]; exact (Below.refl _ wA).alloc (Nat.le_refl _) _
        have hPB : RdrP wB wA.heap.size ⟨l, 0, 0, 0⟩ := by rw [hwBe]; exact ⟨_, heap_at _ _ rfl, .inl ⟨rfl, rfl⟩⟩
        clear hwBe
        have hbC : Below wB.heap.size wB (wB.alloc (.cells #[.string (bs l), .int .i64 0, .int .i64 0, .int .i64 0] 40)) := (Below.refl _ wB).alloc (Nat.le_refl _) _
        have hQC : RdrD (wB.alloc (.cells #[.string (bs l), .int .i64 0, .int .i64 0, .int .i64 0] 40)) wB.heap.size ⟨l, 0, 0, 0⟩ := heap_at _ _ rfl
        have hPC := hPB.below hbC
        have hzB := hbB.size
        have hwC := (hwA.trans (hbB.mono hzA)).trans (hbC.mono (by omega))
        have hpq : wA.heap.size < wB.heap.size := hPB.lt
        generalize hqe : wB.heap.size = q at hQC hpq
        generalize hpe : wA.heap.size = p at hPC hpq
        have hwp : w.heap.size ≤ p := by omega
        have hl0 : (⟨l, 0, 0, 0⟩ : Rs).wf := ⟨Nat.zero_le _, by show l.length ≤ _; omega, by show (0 : Int) ≤ 0; decide, by show (0 : Int) ≤ _; decide, fun _ => rfl⟩
        go_wp2_with fail
        go_loopg [19] 3 (fun g i wr => ∃ (k : Nat) (S : Rs), k ≤ 2 ∧ g = 3 - k ∧ i = .int .i64 (k : Int) ∧ S.wf ∧ RdrP wr p S ∧ RdrD wr q S ∧ Below w.heap.size w wr)
        case atStart => exact ⟨0, ⟨l, 0, 0, 0⟩, by omega, rfl, rfl, hl0, hPC, hQC, hwC⟩
        case round =>
          clear hbC hQC hPC hwC hPB hbB hzB hzA hwA hbA hl0
          obtain ⟨k, S, hk, rfl, rfl, hS, hP, hQ, hwr⟩ := hrel
          have hzr := hwr.size
          by_cases hlt : k < 2
          · obtain ⟨rd, T, hT⟩ : ∃ rd T, readD S = (rd, T) := ⟨_, _, rfl⟩
            have hTw := readD_wf hS
            have c1 := fun w h => pdread_any p S w h hS
            have c2 := fun w h => ddread_any q S w h hS
            rw [hT] at c1 c2 hTw
            have c1 := Lib.hid c1
            have c2 := Lib.hid c2
            have hTH := Lib.hid hTw
            clear hT hS hTw
            have hv0 := hvH.out.lt
            go_wp2_with fail
            refine wp_region_M (fun _ => True) (fun _ => True) 99 (by kernel_rfl) trivial trivial ?_
            intro hcl
            have hC := trivial
            have hE := trivial
            (refine wpM_take (i := 0) (v := ?_) rfl (by kernel_rfl) (by kernel_rfl) (by kernel_rfl) (by decide) (fun _ _ _ h => h) hcl hC (fun _ => hE) (Or.inl ⟨by rfl, ?_⟩) ?_; rotate_left; (· (intro w hSw; (try dsimp only at hSw); go_simp; (try with_reducible rfl))); clear hcl; intro hcl; (try simp only [Act.put, List.getElem_toArray, List.getElem_cons_zero, List.getElem_cons_succ, List.setIfInBounds_toArray, List.set_cons_zero, List.set_cons_succ]))
            (refine wpM_take (i := 2) (v := ?_) rfl (by kernel_rfl) (by kernel_rfl) (by kernel_rfl) (by decide) (fun _ _ _ h => h) hcl hC (fun _ => hE) (Or.inl ⟨by rfl, ?_⟩) ?_; rotate_left; (· (intro w hSw; (try dsimp only at hSw); go_simp; (try with_reducible rfl))); clear hcl; intro hcl; (try simp only [Act.put, List.getElem_toArray, List.getElem_cons_zero, List.getElem_cons_succ, List.setIfInBounds_toArray, List.set_cons_zero, List.set_cons_succ]))
            refine wpM_only (i := 1) rfl (by kernel_rfl) hcl (fun K hK => ?_)
            go_simp
            refine (c1.out _ (hP.below (Below.refl _ _).drew)).mono ?_
            rintro e w1 ⟨A1, n1, c1, rfl, o1, hP1, hg1⟩
            have hQ1 := (hQ.below (Below.refl _ _).drew).other (hP.below (Below.refl _ _).drew) hg1
            have hz1 := hg1.size
            simp at hz1
            refine hK.out _ _ trivial trivial ?_
            clear hK K
            clear hcl
            intro hcl
            (try simp only [Act.put, List.getElem_toArray, List.getElem_cons_zero, List.getElem_cons_succ, List.setIfInBounds_toArray, List.set_cons_zero, List.set_cons_succ])
            refine wpM_only (i := 3) rfl (by kernel_rfl) hcl (fun K hK => ?_)
            go_simp
            refine (c2.out _ hQ1).mono ?_
            rintro e w2 ⟨A2, n2, c2, rfl, o2, hQ2, hg2⟩
            have hP2 := hP1.other hQ1 hg2
            have hz2 := hg2.size
            have o1' := o1.keptB hg2 (Nat.lt_of_lt_of_le hQ.lt (by simp))
            refine hK.out _ _ trivial trivial ?_
            clear hK K
            clear hcl
            intro hcl
            (try simp only [Act.put, List.getElem_toArray, List.getElem_cons_zero, List.getElem_cons_succ, List.setIfInBounds_toArray, List.set_cons_zero, List.set_cons_succ])
            refine wpM_only (i := 4) rfl (by kernel_rfl) hcl (fun K hK => ?_)
            go_simp
            refine (same_any A1 A2 n1 n2 c1 c2 rd rd w2 o1'.rd.1 o2.rd.1 (Nat.le_trans o1'.rd.2.2.1 o1'.rd.2.2.2) (Nat.le_trans o2.rd.2.2.1 o2.rd.2.2.2)).mono ?_
            rintro e w3 ⟨rfl, hb3⟩
            rw [decide_eq_true (rfl : rd = rd)]
            have hP3 := hP2.below hb3
            have hQ3 := hQ2.below hb3
            have hw3 : Below w.heap.size w w3 := (((hwr.drew).grown hg1 (by simp; omega) (by rintro g e; injection e with e; omega)).grown hg2 (by omega) (by rintro g e; injection e with e; omega)).trans (hb3.mono (by omega))
            have hV3 := hvH.out.below hw3 hv0
            have hP3k := Lib.hid hP3
            have hQ3k := Lib.hid hQ3
            obtain ⟨ev, hbP, hev⟩ := hP3
            have p1 := blk_cell hbP 1
            have p2 := blk_cell hbP 2
            simp at p1 p2
            have hlP := blk_lt hbP
            have hbQ := hQ3
            unfold RdrD at hbQ
            have hlQ := blk_lt hbQ
            have y1 := blk_cell hbQ 1
            have y2 := blk_cell hbQ 2
            have y3 := blk_cell hbQ 3
            simp at y1 y2 y3
            clear hbQ hbP hQ3 o1 o1' o2 hP1 hQ1 hP2 hQ2 hg1 hg2
            refine hK.out _ _ trivial trivial ?_
            clear hK K
            clear hcl
            intro hcl
            (try simp only [Act.put, List.getElem_toArray, List.getElem_cons_zero, List.getElem_cons_succ, List.setIfInBounds_toArray, List.set_cons_zero, List.set_cons_succ])
            (refine wpM_take (i := 5) (v := ?_) rfl (by kernel_rfl) (by kernel_rfl) (by kernel_rfl) (by decide) (fun _ _ _ h => h) hcl hC (fun _ => hE) (Or.inl ⟨by rfl, ?_⟩) ?_; rotate_left; (· (intro w hSw; (try dsimp only at hSw); go_simp; (try with_reducible rfl))); clear hcl; intro hcl; (try simp only [Act.put, List.getElem_toArray, List.getElem_cons_zero, List.getElem_cons_succ, List.setIfInBounds_toArray, List.set_cons_zero, List.set_cons_succ]))
            (refine wpM_take (i := 6) (v := ?_) rfl (by kernel_rfl) (by kernel_rfl) (by kernel_rfl) (by decide) (fun _ _ _ h => h) hcl hC (fun _ => hE) (Or.inl ⟨by rfl, ?_⟩) ?_; rotate_left; (· (intro w hSw; (try dsimp only at hSw); go_simp; (try with_reducible rfl))); clear hcl; intro hcl; (try simp only [Act.put, List.getElem_toArray, List.getElem_cons_zero, List.getElem_cons_succ, List.setIfInBounds_toArray, List.set_cons_zero, List.set_cons_succ]))
            have hC3 : KQ w3.heap.size w3 w3 := kq (Below.refl _ _)
            refine wpM_now (C' := fun w' => KQ w3.heap.size w3 w') ?_
            clear hC
            have hC := hC3
            (refine wpM_take (i := 7) (v := ?_) rfl (by kernel_rfl) (by kernel_rfl) (by kernel_rfl) (by decide) (fun _ _ _ h => h) hcl hC (fun _ => hE) (Or.inl ⟨by rfl, ?_⟩) ?_; rotate_left; (· (intro w hSw; (try dsimp only at hSw); go_simp; (try with_reducible rfl))); clear hcl; intro hcl; (try simp only [Act.put, List.getElem_toArray, List.getElem_cons_zero, List.getElem_cons_succ, List.setIfInBounds_toArray, List.set_cons_zero, List.set_cons_succ]))
            (refine wpM_take (i := 9) (v := ?_) rfl (by kernel_rfl) (by kernel_rfl) (by kernel_rfl) (by decide) (fun _ _ _ h => h) hcl hC (fun _ => hE) (Or.inl ⟨by rfl, ?_⟩) ?_; rotate_left; (· (intro w hSw; (try dsimp only at hSw); go_simp; (try with_reducible rfl))); clear hcl; intro hcl; (try simp only [Act.put, List.getElem_toArray, List.getElem_cons_zero, List.getElem_cons_succ, List.setIfInBounds_toArray, List.set_cons_zero, List.set_cons_succ]))
            (refine wpM_take (i := 10) (v := ?_) rfl (by kernel_rfl) (by kernel_rfl) (by kernel_rfl) (by decide) (fun _ _ _ h => h) hcl hC (fun _ => hE) (Or.inl ⟨by rfl, ?_⟩) ?_; rotate_left; (· (intro w hSw; (try dsimp only at hSw); go_simp; (try with_reducible rfl))); clear hcl; intro hcl; (try simp only [Act.put, List.getElem_toArray, List.getElem_cons_zero, List.getElem_cons_succ, List.setIfInBounds_toArray, List.set_cons_zero, List.set_cons_succ]))
            (refine wpM_take (i := 11) (v := ?_) rfl (by kernel_rfl) (by kernel_rfl) (by kernel_rfl) (by decide) (fun _ _ _ h => h) hcl hC (fun _ => hE) (Or.inl ⟨by rfl, ?_⟩) ?_; rotate_left; (· (intro w hSw; (try dsimp only at hSw); go_simp; (try with_reducible rfl))); clear hcl; intro hcl; (try simp only [Act.put, List.getElem_toArray, List.getElem_cons_zero, List.getElem_cons_succ, List.setIfInBounds_toArray, List.set_cons_zero, List.set_cons_succ]))
            (refine wpM_take (i := 12) (v := ?_) rfl (by kernel_rfl) (by kernel_rfl) (by kernel_rfl) (by decide) (fun _ _ _ h => h) hcl hC (fun _ => hE) (Or.inl ⟨by rfl, ?_⟩) ?_; rotate_left; (· (intro w hSw; (try dsimp only at hSw); go_simp; (try with_reducible rfl))); clear hcl; intro hcl; (try simp only [Act.put, List.getElem_toArray, List.getElem_cons_zero, List.getElem_cons_succ, List.setIfInBounds_toArray, List.set_cons_zero, List.set_cons_succ]))
            refine wpM_only (i := 8) rfl (by kernel_rfl) hcl (fun K hK => ?_)
            go_simp
            refine (pat_any p _ w3 hlP p1).mono ?_
            rintro e w' ⟨rfl, rfl⟩
            refine hK.out _ _ hC3 trivial ?_
            clear hK K
            clear hcl
            intro hcl
            (try simp only [Act.put, List.getElem_toArray, List.getElem_cons_zero, List.getElem_cons_succ, List.setIfInBounds_toArray, List.set_cons_zero, List.set_cons_succ])
            (refine wpM_take (i := 13) (v := ?_) rfl (by kernel_rfl) (by kernel_rfl) (by kernel_rfl) (by decide) (fun _ _ _ h => h) hcl hC (fun _ => hE) (Or.inl ⟨by rfl, ?_⟩) ?_; rotate_left; (· (intro w hSw; (try dsimp only at hSw); go_simp; (try with_reducible rfl))); clear hcl; intro hcl; (try simp only [Act.put, List.getElem_toArray, List.getElem_cons_zero, List.getElem_cons_succ, List.setIfInBounds_toArray, List.set_cons_zero, List.set_cons_succ]))
            (refine wpM_take (i := 14) (v := ?_) rfl (by kernel_rfl) (by kernel_rfl) (by kernel_rfl) (by decide) (fun _ _ _ h => h) hcl hC (fun _ => hE) (Or.inl ⟨by rfl, ?_⟩) ?_; rotate_left; (· (intro w hSw; (try dsimp only at hSw); go_simp; (try with_reducible rfl))); clear hcl; intro hcl; (try simp only [Act.put, List.getElem_toArray, List.getElem_cons_zero, List.getElem_cons_succ, List.setIfInBounds_toArray, List.set_cons_zero, List.set_cons_succ]))
            (refine wpM_take (i := 15) (v := ?_) rfl (by kernel_rfl) (by kernel_rfl) (by kernel_rfl) (by decide) (fun _ _ _ h => h) hcl hC (fun _ => hE) (Or.inl ⟨by rfl, ?_⟩) ?_; rotate_left; (· (intro w hSw; (try dsimp only at hSw); go_simp; (try with_reducible rfl))); clear hcl; intro hcl; (try simp only [Act.put, List.getElem_toArray, List.getElem_cons_zero, List.getElem_cons_succ, List.setIfInBounds_toArray, List.set_cons_zero, List.set_cons_succ]))
            (refine wpM_take (i := 16) (v := ?_) rfl (by kernel_rfl) (by kernel_rfl) (by kernel_rfl) (by decide) (fun _ _ _ h => h) hcl hC (fun _ => hE) (Or.inl ⟨by rfl, ?_⟩) ?_; rotate_left; (· (intro w hSw; (try dsimp only at hSw); go_simp; (try with_reducible rfl))); clear hcl; intro hcl; (try simp only [Act.put, List.getElem_toArray, List.getElem_cons_zero, List.getElem_cons_succ, List.setIfInBounds_toArray, List.set_cons_zero, List.set_cons_succ]))
            (refine wpM_take (i := 19) (v := ?_) rfl (by kernel_rfl) (by kernel_rfl) (by kernel_rfl) (by decide) (fun _ _ _ h => h) hcl hC (fun _ => hE) (Or.inl ⟨by rfl, ?_⟩) ?_; rotate_left; (· (intro w hSw; (try dsimp only at hSw); go_simp; (try with_reducible rfl))); clear hcl; intro hcl; (try simp only [Act.put, List.getElem_toArray, List.getElem_cons_zero, List.getElem_cons_succ, List.setIfInBounds_toArray, List.set_cons_zero, List.set_cons_succ]))
            (refine wpM_take (i := 20) (v := ?_) rfl (by kernel_rfl) (by kernel_rfl) (by kernel_rfl) (by decide) (fun _ _ _ h => h) hcl hC (fun _ => hE) (Or.inl ⟨by rfl, ?_⟩) ?_; rotate_left; (· (intro w hSw; (try dsimp only at hSw); go_simp; (try with_reducible rfl))); clear hcl; intro hcl; (try simp only [Act.put, List.getElem_toArray, List.getElem_cons_zero, List.getElem_cons_succ, List.setIfInBounds_toArray, List.set_cons_zero, List.set_cons_succ]))
            (refine wpM_take (i := 21) (v := ?_) rfl (by kernel_rfl) (by kernel_rfl) (by kernel_rfl) (by decide) (fun _ _ _ h => h) hcl hC (fun _ => hE) (Or.inl ⟨by rfl, ?_⟩) ?_; rotate_left; (· (intro w hSw; (try dsimp only at hSw); go_simp; (try with_reducible rfl))); clear hcl; intro hcl; (try simp only [Act.put, List.getElem_toArray, List.getElem_cons_zero, List.getElem_cons_succ, List.setIfInBounds_toArray, List.set_cons_zero, List.set_cons_succ]))
            (refine wpM_take (i := 22) (v := ?_) rfl (by kernel_rfl) (by kernel_rfl) (by kernel_rfl) (by decide) (fun _ _ _ h => h) hcl hC (fun _ => hE) (Or.inl ⟨by rfl, ?_⟩) ?_; rotate_left; (· (intro w hSw; (try dsimp only at hSw); go_simp; (try with_reducible rfl))); clear hcl; intro hcl; (try simp only [Act.put, List.getElem_toArray, List.getElem_cons_zero, List.getElem_cons_succ, List.setIfInBounds_toArray, List.set_cons_zero, List.set_cons_succ]))
            refine wpM_only (i := 17) rfl (by kernel_rfl) hcl (fun K hK => ?_)
            go_simp
            refine (perr_any p _ w3 hlP p2).mono ?_
            rintro e w' ⟨rfl, rfl⟩
            refine hK.out _ _ hC3 trivial ?_
            clear hK K
            clear hcl
            intro hcl
            (try simp only [Act.put, List.getElem_toArray, List.getElem_cons_zero, List.getElem_cons_succ, List.setIfInBounds_toArray, List.set_cons_zero, List.set_cons_succ])
            refine wpM_only (i := 18) rfl (by kernel_rfl) hcl (fun K hK => ?_)
            go_simp
            refine (seen_any ev T.fa T.fe w3 hV3 hev hTH.out.2.2.1 hTH.out.2.2.2.1 hTH.out.2.2.2.2).mono ?_
            rintro e w4 ⟨rfl, hb4⟩
            have hC4 : KQ w3.heap.size w3 w4 := kq hb4
            refine hK.out _ _ hC4 trivial ?_
            clear hK K
            clear hcl
            intro hcl
            (try simp only [Act.put, List.getElem_toArray, List.getElem_cons_zero, List.getElem_cons_succ, List.setIfInBounds_toArray, List.set_cons_zero, List.set_cons_succ])
            clear hC
            have hC := hC4
            (refine wpM_take (i := 23) (v := ?_) rfl (by kernel_rfl) (by kernel_rfl) (by kernel_rfl) (by decide) (fun _ _ _ h => h) hcl hC (fun _ => hE) (Or.inl ⟨by rfl, ?_⟩) ?_; rotate_left; (· (intro w hSw; (try dsimp only at hSw); go_simp; (try with_reducible rfl))); clear hcl; intro hcl; (try simp only [Act.put, List.getElem_toArray, List.getElem_cons_zero, List.getElem_cons_succ, List.setIfInBounds_toArray, List.set_cons_zero, List.set_cons_succ]))
            (refine wpM_take (i := 24) (v := ?_) rfl (by kernel_rfl) (by kernel_rfl) (by kernel_rfl) (by decide) (fun _ _ _ h => h) hcl hC (fun _ => hE) (Or.inl ⟨by rfl, ?_⟩) ?_; rotate_left; (· (intro w hSw; (try dsimp only at hSw); go_simp; (try with_reducible rfl))); clear hcl; intro hcl; (try simp only [Act.put, List.getElem_toArray, List.getElem_cons_zero, List.getElem_cons_succ, List.setIfInBounds_toArray, List.set_cons_zero, List.set_cons_succ]))
            refine wpM_done (by kernel_rfl) ?_
            clear hcl
            have hw4 := hw3.trans (hb4.mono hw3.size)
            go_wp2
            go_roundg (3 - (k + 1))
            case measure => omega
            case rel => exact ⟨k + 1, T, by omega, rfl, by go_num, hTH.out, hP3k.out.below hb4, hQ3k.out.below hb4, hw4⟩
          · go_wp2
            go_ret
            exact ⟨rfl, hwr⟩
end Go.Proofs.YthfjbbijcemmoaaDoor
