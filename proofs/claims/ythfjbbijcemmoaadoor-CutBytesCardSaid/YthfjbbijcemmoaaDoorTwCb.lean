/- The statement CutBytes, walked. -/
import Derived.Test.YthfjbbijcemmoaaDoorCtH
import Derived.Test.YthfjbbijcemmoaaDoorCtE
import Derived.Test.YthfjbbijcemmoaaDoorCtI
import Derived.Test.YthfjbbijcemmoaaDoorAs
import Derived.Test.YthfjbbijcemmoaaDoorRsN
import Derived.Test.YthfjbbijcemmoaaDoorGb
namespace Go.Proofs.YthfjbbijcemmoaaDoor
open Go.RowKit

theorem grI_le {n : Nat} (h : grI n = false) : n ≤ 1100 := by
  unfold grI at h
  rw [decide_eq_false_iff_not] at h
  omega
theorem RdrD.beside {w w' : World} {p q : Nat} {S T : Rs} (hQ : RdrD w q S) (hP : RdrP w p T) (hg : w.grownBy w' (some p)) : RdrD w' q S :=
  hQ.grown hg (fun g cs t e hb => by
    injection e with e; subst e
    obtain ⟨_, hh, _⟩ := hP
    rw [hh] at hb
    injection hb with hb; injection hb with _ ht
    rw [← ht]; decide)
theorem RdrP.beside {w w' : World} {p q : Nat} {S T : Rs} (hP : RdrP w p S) (hQ : RdrD w q T) (hg : w.grownBy w' (some q)) : RdrP w' p S :=
  hP.grown hg (fun g cs t e hb => by
    injection e with e; subst e
    unfold RdrD at hQ
    rw [hQ] at hb
    injection hb with hb; injection hb with _ ht
    rw [← ht]; exact ⟨by decide, by decide⟩)

set_option maxRecDepth 100000 in
set_option maxHeartbeats 2000000 in
theorem cutbytes_any (v : Vm) (A : Option Addr) (n c : Nat) (xs : List Im) (l : List UInt8) (w : World) (hA : RdI w w.heap.size A n xs) (hv : v.wf) (hx : ∀ x ∈ xs, x.wf) (hvar : VarOk w) :
    Calls Tryd.prog 4 #[.agg #[.int .u32 v.d0, .int .u32 v.d1, .int .u32 v.d2, .int .u32 v.d3, .int .u32 v.d4, .int .u32 v.d5, .int .u32 v.d6, .int .u32 v.d7, .slice A n c], .string (bs l)] w fun e w' => e = .returned (.bool true) ∧ Below w.heap.size w w' := by
  have hW : Below w.heap.size w (w.alloc (.cells #[.int .u32 v.d0, .int .u32 v.d1, .int .u32 v.d2, .int .u32 v.d3, .int .u32 v.d4, .int .u32 v.d5, .int .u32 v.d6, .int .u32 v.d7, .slice A n c] 50)) := (Below.refl _ w).alloc (Nat.le_refl _) _
  have hbA : (w.alloc (.cells #[.int .u32 v.d0, .int .u32 v.d1, .int .u32 v.d2, .int .u32 v.d3, .int .u32 v.d4, .int .u32 v.d5, .int .u32 v.d6, .int .u32 v.d7, .slice A n c] 50)).heap[w.heap.size]? = some (.cells #[.int .u32 v.d0, .int .u32 v.d1, .int .u32 v.d2, .int .u32 v.d3, .int .u32 v.d4, .int .u32 v.d5, .int .u32 v.d6, .int .u32 v.d7, .slice A n c] 50 (0, 0)) := heap_at _ _ rfl
  generalize hWe : (w.alloc (.cells #[.int .u32 v.d0, .int .u32 v.d1, .int .u32 v.d2, .int .u32 v.d3, .int .u32 v.d4, .int .u32 v.d5, .int .u32 v.d6, .int .u32 v.d7, .slice A n c] 50)) = W at hW hbA
  have hltA := blk_lt hbA
  have hAk := Lib.hid hbA
  have hzW := hW.size
  have g1 := great_any A n c
  have q0 := blk_cell hbA 0
  have q1 := blk_cell hbA 1
  have q2 := blk_cell hbA 2
  have q3 := blk_cell hbA 3
  have q4 := blk_cell hbA 4
  have q5 := blk_cell hbA 5
  have q6 := blk_cell hbA 6
  have q7 := blk_cell hbA 7
  have q8 := blk_cell hbA 8
  simp at q0 q1 q2 q3 q4 q5 q6 q7 q8
  cases hga : grI n with
  | true =>
    rw [hga] at g1
    go_enter Tryd.func4, Tryd.ntmps4
    go_wp2_with fail
    refine (g1 _).mono ?_
    rintro e w1 ⟨rfl, rfl⟩
    go_wp2
    go_ret
    exact ⟨rfl, hW⟩
  | false =>
    rw [hga] at g1
    have hn := grI_le hga
    clear hga
    by_cases hl2 : 2000 < l.length
    · have hd : decide ((2000 : Int) < (((bs l).size : Nat) : Int)) = true := decide_eq_true (by rw [bs_size]; omega)
      go_enter Tryd.func4, Tryd.ntmps4
      go_wp2_with fail
      refine (g1 _).mono ?_
      rintro e w1 ⟨rfl, rfl⟩
      go_wp2
      go_ret
      exact ⟨rfl, hW⟩
    · have hd : decide ((2000 : Int) < (((bs l).size : Nat) : Int)) = false := decide_eq_false (by rw [bs_size]; omega)
      have cT := Lib.hid (to_any v A n c xs W ((hA.below hW).more hW.size) hn)
      have cW := Lib.hid (fun A' c' w' (h1 : RdI w' w'.heap.size A' n xs) => cwrite_any v A' n c' xs w' h1 hn hv hx)
      have cR := Lib.hid (fun w' (hb : Below w.heap.size w w') => rcwrite_any v A n c xs w' ((hA.below hb).more hb.size) hn hv hx)
      generalize writeC v xs = wc at *
      generalize cutErr v xs = we at *
      have hvH := Lib.hid hvar
      clear hA hx hv hvar
      go_enter Tryd.func4, Tryd.ntmps4
      go_wp2_with fail
      refine (g1 _).mono ?_
      rintro e w0 ⟨rfl, rfl⟩
      go_wp2_with fail
      refine cT.out.mono ?_
      rintro e w1 ⟨A1, c1, rfl, o1, hb1⟩
      have hw1 := hW.trans (hb1.mono hzW)
      clear cT g1
      go_wp2_with fail
      refine (cW.out A1 c1 w1 o1.rd.1).mono ?_
      rintro e w2 ⟨rfl, hb2⟩
      have hw2 := hw1.trans (hb2.mono hw1.size)
      have hbA2 := blk_below (blk_below hAk.out hb1) hb2
      have hltA2 := blk_lt hbA2
      clear q0 q1 q2 q3 q4 q5 q6 q7 q8 cW o1 hb1 hb2
      have q0 := blk_cell hbA2 0
      have q1 := blk_cell hbA2 1
      have q2 := blk_cell hbA2 2
      have q3 := blk_cell hbA2 3
      have q4 := blk_cell hbA2 4
      have q5 := blk_cell hbA2 5
      have q6 := blk_cell hbA2 6
      have q7 := blk_cell hbA2 7
      have q8 := blk_cell hbA2 8
      simp at q0 q1 q2 q3 q4 q5 q6 q7 q8
      go_wp2_with fail
      refine (cR.out w2 hw2).mono ?_
      rintro e wA ⟨rfl, hbA3⟩
      have hwA := hw2.trans (hbA3.mono hw2.size)
      have hzA := hwA.size
      clear q0 q1 q2 q3 q4 q5 q6 q7 q8 cR hbA2 hltA2 hbA3
      go_wp2_with fail
      refine (pnew_any _ _).mono ?_
      rintro e wB ⟨rfl, hwBe⟩
      have hbB : Below wA.heap.size wA wB := by rw [hwBe]; exact (Below.refl _ wA).alloc (Nat.le_refl _) _
      have hPB : RdrP wB wA.heap.size ⟨l, 0, 0, 0⟩ := by rw [hwBe]; exact ⟨_, heap_at _ _ rfl, .inl ⟨rfl, rfl⟩⟩
      clear hwBe
      have hbC : Below wB.heap.size wB (wB.alloc (.cells #[.string (bs l), .int .i64 0, .int .i64 0, .int .i64 0] 40)) := (Below.refl _ wB).alloc (Nat.le_refl _) _
      have hQC : RdrD (wB.alloc (.cells #[.string (bs l), .int .i64 0, .int .i64 0, .int .i64 0] 40)) wB.heap.size ⟨l, 0, 0, 0⟩ := heap_at _ _ rfl
      have hPC := hPB.below hbC
      have hzB := hbB.size
      have hwC := (hwA.trans (hbB.mono hzA)).trans (hbC.mono (by omega))
      have hpq : wA.heap.size < wB.heap.size := hPB.lt
      generalize hqe : wB.heap.size = q at hQC hpq
      generalize hpe : wA.heap.size = p at hPC hpq
      have hwp : w.heap.size ≤ p := by omega
      have hl0 : (⟨l, 0, 0, 0⟩ : Rs).wf := ⟨Nat.zero_le _, by show l.length ≤ _; omega, by show (0 : Int) ≤ 0; decide, by show (0 : Int) ≤ _; decide, fun _ => rfl⟩
      go_wp2_with fail
      go_loopg [11] 3 (fun g i wr => ∃ (k : Nat) (S : Rs), k ≤ 2 ∧ g = 3 - k ∧ i = .int .i64 (k : Int) ∧ S.wf ∧ RdrP wr p S ∧ RdrD wr q S ∧ Below w.heap.size w wr)
      case atStart => exact ⟨0, ⟨l, 0, 0, 0⟩, by omega, rfl, rfl, hl0, hPC, hQC, hwC⟩
      case round =>
        clear hbC hQC hPC hwC hPB hbB hzB hzA hwA hl0
        obtain ⟨k, S, hk, rfl, rfl, hS, hP, hQ, hwr⟩ := hrel
        have hzr := hwr.size
        by_cases hlt : k < 2
        · obtain ⟨V, rd, T, hT⟩ : ∃ V rd T, readC S = (V, rd, T) := ⟨_, _, _, rfl⟩
          have hTw := readC_wf hS
          have c1 := fun w h => cread_any p S w h hS
          have c2 := fun w h => rcread_any q S w h hS
          rw [hT] at c1 c2 hTw
          have c1 := Lib.hid c1
          have c2 := Lib.hid c2
          have hTH := Lib.hid hTw.1
          clear hT hS hTw
          have hv0 := hvH.out.lt
          go_wp2_with fail
          refine wp_region_M (fun _ => True) (fun _ => True) 99 (by kernel_rfl) trivial trivial ?_
          intro hcl
          have hC := trivial
          have hE := trivial
          (refine wpM_take (i := 0) (v := ?_) rfl (by kernel_rfl) (by kernel_rfl) (by kernel_rfl) (by decide) (fun _ _ _ h => h) hcl hC (fun _ => hE) (Or.inl ⟨by rfl, ?_⟩) ?_; rotate_left; (· (intro w hSw; (try dsimp only at hSw); go_simp; (try with_reducible rfl))); clear hcl; intro hcl; (try simp only [Act.put, List.getElem_toArray, List.getElem_cons_zero, List.getElem_cons_succ, List.setIfInBounds_toArray, List.set_cons_zero, List.set_cons_succ]))
          (refine wpM_take (i := 3) (v := ?_) rfl (by kernel_rfl) (by kernel_rfl) (by kernel_rfl) (by decide) (fun _ _ _ h => h) hcl hC (fun _ => hE) (Or.inl ⟨by rfl, ?_⟩) ?_; rotate_left; (· (intro w hSw; (try dsimp only at hSw); go_simp; (try with_reducible rfl))); clear hcl; intro hcl; (try simp only [Act.put, List.getElem_toArray, List.getElem_cons_zero, List.getElem_cons_succ, List.setIfInBounds_toArray, List.set_cons_zero, List.set_cons_succ]))
          refine wpM_only (i := 1) rfl (by kernel_rfl) hcl (fun K hK => ?_)
          go_simp
          refine (c1.out _ (hP.below (Below.refl _ _).drew)).mono ?_
          rintro e w1 ⟨A1, n1, c1, rfl, o1, hP1, hg1⟩
          have hQ1 := (hQ.below (Below.refl _ _).drew).beside (hP.below (Below.refl _ _).drew) hg1
          have hz1 := hg1.size
          simp at hz1
          refine hK.out _ _ trivial trivial ?_
          clear hK K
          clear hcl
          intro hcl
          (try simp only [Act.put, List.getElem_toArray, List.getElem_cons_zero, List.getElem_cons_succ, List.setIfInBounds_toArray, List.set_cons_zero, List.set_cons_succ])
          refine wpM_only (i := 2) rfl (by kernel_rfl) hcl (fun K hK => ?_)
          go_simp
          refine (from_any V A1 n1 c1 w1).mono ?_
          rintro e w5 ⟨rfl, hb5⟩
          have hQ5 := hQ1.below hb5
          have hP5 := hP1.below hb5
          have o5 := o1.below hb5
          have hz5 := hb5.size
          refine hK.out _ _ trivial trivial ?_
          clear hK K
          clear hcl
          intro hcl
          (try simp only [Act.put, List.getElem_toArray, List.getElem_cons_zero, List.getElem_cons_succ, List.setIfInBounds_toArray, List.set_cons_zero, List.set_cons_succ])
          refine wpM_only (i := 4) rfl (by kernel_rfl) hcl (fun K hK => ?_)
          go_simp
          refine (c2.out _ hQ5).mono ?_
          rintro e w2 ⟨A2, n2, c2, rfl, o2, hQ2, hg2⟩
          have hP2 := hP5.beside hQ5 hg2
          have hz2 := hg2.size
          have o1' := o5.keptB hg2 (Nat.lt_of_lt_of_le hQ.lt (by simp))
          refine hK.out _ _ trivial trivial ?_
          clear hK K
          clear hcl
          intro hcl
          (try simp only [Act.put, List.getElem_toArray, List.getElem_cons_zero, List.getElem_cons_succ, List.setIfInBounds_toArray, List.set_cons_zero, List.set_cons_succ])
          refine wpM_only (i := 5) rfl (by kernel_rfl) hcl (fun K hK => ?_)
          go_simp
          refine (rcsame_any V V A1 A2 n1 n2 c1 c2 rd rd w2 o1'.rd.1 o2.rd.1 (Nat.le_trans o1'.rd.2.2.1 o1'.rd.2.2.2) (Nat.le_trans o2.rd.2.2.1 o2.rd.2.2.2)).mono ?_
          rintro e w3 ⟨rfl, hb3⟩
          rw [show (eqV V V && decide (rd = rd)) = true from by rw [eqV_iff.2 rfl]; simp]
          have hP3 := hP2.below hb3
          have hQ3 := hQ2.below hb3
          have hw3 : Below w.heap.size w w3 := ((((hwr.drew).grown hg1 (by simp; omega) (by rintro g e; injection e with e; omega)).trans (hb5.mono (by omega))).grown hg2 (by omega) (by rintro g e; injection e with e; omega)).trans (hb3.mono (by omega))
          have hV3 := hvH.out.below hw3 hv0
          have hP3k := Lib.hid hP3
          have hQ3k := Lib.hid hQ3
          obtain ⟨ev, hbP, hev⟩ := hP3
          have p1 := blk_cell hbP 1
          have p2 := blk_cell hbP 2
          simp at p1 p2
          have hlP := blk_lt hbP
          have hbQ := hQ3
          unfold RdrD at hbQ
          have hlQ := blk_lt hbQ
          have y1 := blk_cell hbQ 1
          have y2 := blk_cell hbQ 2
          have y3 := blk_cell hbQ 3
          simp at y1 y2 y3
          clear hbQ hbP hQ3 o1 o1' o2 o5 hP1 hQ1 hP2 hQ2 hP5 hQ5 hg1 hg2
          refine hK.out _ _ trivial trivial ?_
          clear hK K
          clear hcl
          intro hcl
          (try simp only [Act.put, List.getElem_toArray, List.getElem_cons_zero, List.getElem_cons_succ, List.setIfInBounds_toArray, List.set_cons_zero, List.set_cons_succ])
          (refine wpM_take (i := 6) (v := ?_) rfl (by kernel_rfl) (by kernel_rfl) (by kernel_rfl) (by decide) (fun _ _ _ h => h) hcl hC (fun _ => hE) (Or.inl ⟨by rfl, ?_⟩) ?_; rotate_left; (· (intro w hSw; (try dsimp only at hSw); go_simp; (try with_reducible rfl))); clear hcl; intro hcl; (try simp only [Act.put, List.getElem_toArray, List.getElem_cons_zero, List.getElem_cons_succ, List.setIfInBounds_toArray, List.set_cons_zero, List.set_cons_succ]))
          (refine wpM_take (i := 7) (v := ?_) rfl (by kernel_rfl) (by kernel_rfl) (by kernel_rfl) (by decide) (fun _ _ _ h => h) hcl hC (fun _ => hE) (Or.inl ⟨by rfl, ?_⟩) ?_; rotate_left; (· (intro w hSw; (try dsimp only at hSw); go_simp; (try with_reducible rfl))); clear hcl; intro hcl; (try simp only [Act.put, List.getElem_toArray, List.getElem_cons_zero, List.getElem_cons_succ, List.setIfInBounds_toArray, List.set_cons_zero, List.set_cons_succ]))
          have hC3 : KQ w3.heap.size w3 w3 := kq (Below.refl _ _)
          refine wpM_now (C' := fun w' => KQ w3.heap.size w3 w') ?_
          clear hC
          have hC := hC3
          (refine wpM_take (i := 8) (v := ?_) rfl (by kernel_rfl) (by kernel_rfl) (by kernel_rfl) (by decide) (fun _ _ _ h => h) hcl hC (fun _ => hE) (Or.inl ⟨by rfl, ?_⟩) ?_; rotate_left; (· (intro w hSw; (try dsimp only at hSw); go_simp; (try with_reducible rfl))); clear hcl; intro hcl; (try simp only [Act.put, List.getElem_toArray, List.getElem_cons_zero, List.getElem_cons_succ, List.setIfInBounds_toArray, List.set_cons_zero, List.set_cons_succ]))
          (refine wpM_take (i := 10) (v := ?_) rfl (by kernel_rfl) (by kernel_rfl) (by kernel_rfl) (by decide) (fun _ _ _ h => h) hcl hC (fun _ => hE) (Or.inl ⟨by rfl, ?_⟩) ?_; rotate_left; (· (intro w hSw; (try dsimp only at hSw); go_simp; (try with_reducible rfl))); clear hcl; intro hcl; (try simp only [Act.put, List.getElem_toArray, List.getElem_cons_zero, List.getElem_cons_succ, List.setIfInBounds_toArray, List.set_cons_zero, List.set_cons_succ]))
          (refine wpM_take (i := 11) (v := ?_) rfl (by kernel_rfl) (by kernel_rfl) (by kernel_rfl) (by decide) (fun _ _ _ h => h) hcl hC (fun _ => hE) (Or.inl ⟨by rfl, ?_⟩) ?_; rotate_left; (· (intro w hSw; (try dsimp only at hSw); go_simp; (try with_reducible rfl))); clear hcl; intro hcl; (try simp only [Act.put, List.getElem_toArray, List.getElem_cons_zero, List.getElem_cons_succ, List.setIfInBounds_toArray, List.set_cons_zero, List.set_cons_succ]))
          (refine wpM_take (i := 12) (v := ?_) rfl (by kernel_rfl) (by kernel_rfl) (by kernel_rfl) (by decide) (fun _ _ _ h => h) hcl hC (fun _ => hE) (Or.inl ⟨by rfl, ?_⟩) ?_; rotate_left; (· (intro w hSw; (try dsimp only at hSw); go_simp; (try with_reducible rfl))); clear hcl; intro hcl; (try simp only [Act.put, List.getElem_toArray, List.getElem_cons_zero, List.getElem_cons_succ, List.setIfInBounds_toArray, List.set_cons_zero, List.set_cons_succ]))
          (refine wpM_take (i := 13) (v := ?_) rfl (by kernel_rfl) (by kernel_rfl) (by kernel_rfl) (by decide) (fun _ _ _ h => h) hcl hC (fun _ => hE) (Or.inl ⟨by rfl, ?_⟩) ?_; rotate_left; (· (intro w hSw; (try dsimp only at hSw); go_simp; (try with_reducible rfl))); clear hcl; intro hcl; (try simp only [Act.put, List.getElem_toArray, List.getElem_cons_zero, List.getElem_cons_succ, List.setIfInBounds_toArray, List.set_cons_zero, List.set_cons_succ]))
          refine wpM_only (i := 9) rfl (by kernel_rfl) hcl (fun K hK => ?_)
          go_simp
          refine (pat_any p _ w3 hlP p1).mono ?_
          rintro e w' ⟨rfl, rfl⟩
          refine hK.out _ _ hC3 trivial ?_
          clear hK K
          clear hcl
          intro hcl
          (try simp only [Act.put, List.getElem_toArray, List.getElem_cons_zero, List.getElem_cons_succ, List.setIfInBounds_toArray, List.set_cons_zero, List.set_cons_succ])
          (refine wpM_take (i := 14) (v := ?_) rfl (by kernel_rfl) (by kernel_rfl) (by kernel_rfl) (by decide) (fun _ _ _ h => h) hcl hC (fun _ => hE) (Or.inl ⟨by rfl, ?_⟩) ?_; rotate_left; (· (intro w hSw; (try dsimp only at hSw); go_simp; (try with_reducible rfl))); clear hcl; intro hcl; (try simp only [Act.put, List.getElem_toArray, List.getElem_cons_zero, List.getElem_cons_succ, List.setIfInBounds_toArray, List.set_cons_zero, List.set_cons_succ]))
          (refine wpM_take (i := 15) (v := ?_) rfl (by kernel_rfl) (by kernel_rfl) (by kernel_rfl) (by decide) (fun _ _ _ h => h) hcl hC (fun _ => hE) (Or.inl ⟨by rfl, ?_⟩) ?_; rotate_left; (· (intro w hSw; (try dsimp only at hSw); go_simp; (try with_reducible rfl))); clear hcl; intro hcl; (try simp only [Act.put, List.getElem_toArray, List.getElem_cons_zero, List.getElem_cons_succ, List.setIfInBounds_toArray, List.set_cons_zero, List.set_cons_succ]))
          (refine wpM_take (i := 16) (v := ?_) rfl (by kernel_rfl) (by kernel_rfl) (by kernel_rfl) (by decide) (fun _ _ _ h => h) hcl hC (fun _ => hE) (Or.inl ⟨by rfl, ?_⟩) ?_; rotate_left; (· (intro w hSw; (try dsimp only at hSw); go_simp; (try with_reducible rfl))); clear hcl; intro hcl; (try simp only [Act.put, List.getElem_toArray, List.getElem_cons_zero, List.getElem_cons_succ, List.setIfInBounds_toArray, List.set_cons_zero, List.set_cons_succ]))
          (refine wpM_take (i := 17) (v := ?_) rfl (by kernel_rfl) (by kernel_rfl) (by kernel_rfl) (by decide) (fun _ _ _ h => h) hcl hC (fun _ => hE) (Or.inl ⟨by rfl, ?_⟩) ?_; rotate_left; (· (intro w hSw; (try dsimp only at hSw); go_simp; (try with_reducible rfl))); clear hcl; intro hcl; (try simp only [Act.put, List.getElem_toArray, List.getElem_cons_zero, List.getElem_cons_succ, List.setIfInBounds_toArray, List.set_cons_zero, List.set_cons_succ]))
          (refine wpM_take (i := 20) (v := ?_) rfl (by kernel_rfl) (by kernel_rfl) (by kernel_rfl) (by decide) (fun _ _ _ h => h) hcl hC (fun _ => hE) (Or.inl ⟨by rfl, ?_⟩) ?_; rotate_left; (· (intro w hSw; (try dsimp only at hSw); go_simp; (try with_reducible rfl))); clear hcl; intro hcl; (try simp only [Act.put, List.getElem_toArray, List.getElem_cons_zero, List.getElem_cons_succ, List.setIfInBounds_toArray, List.set_cons_zero, List.set_cons_succ]))
          (refine wpM_take (i := 21) (v := ?_) rfl (by kernel_rfl) (by kernel_rfl) (by kernel_rfl) (by decide) (fun _ _ _ h => h) hcl hC (fun _ => hE) (Or.inl ⟨by rfl, ?_⟩) ?_; rotate_left; (· (intro w hSw; (try dsimp only at hSw); go_simp; (try with_reducible rfl))); clear hcl; intro hcl; (try simp only [Act.put, List.getElem_toArray, List.getElem_cons_zero, List.getElem_cons_succ, List.setIfInBounds_toArray, List.set_cons_zero, List.set_cons_succ]))
          (refine wpM_take (i := 22) (v := ?_) rfl (by kernel_rfl) (by kernel_rfl) (by kernel_rfl) (by decide) (fun _ _ _ h => h) hcl hC (fun _ => hE) (Or.inl ⟨by rfl, ?_⟩) ?_; rotate_left; (· (intro w hSw; (try dsimp only at hSw); go_simp; (try with_reducible rfl))); clear hcl; intro hcl; (try simp only [Act.put, List.getElem_toArray, List.getElem_cons_zero, List.getElem_cons_succ, List.setIfInBounds_toArray, List.set_cons_zero, List.set_cons_succ]))
          (refine wpM_take (i := 23) (v := ?_) rfl (by kernel_rfl) (by kernel_rfl) (by kernel_rfl) (by decide) (fun _ _ _ h => h) hcl hC (fun _ => hE) (Or.inl ⟨by rfl, ?_⟩) ?_; rotate_left; (· (intro w hSw; (try dsimp only at hSw); go_simp; (try with_reducible rfl))); clear hcl; intro hcl; (try simp only [Act.put, List.getElem_toArray, List.getElem_cons_zero, List.getElem_cons_succ, List.setIfInBounds_toArray, List.set_cons_zero, List.set_cons_succ]))
          refine wpM_only (i := 18) rfl (by kernel_rfl) hcl (fun K hK => ?_)
          go_simp
          refine (perr_any p _ w3 hlP p2).mono ?_
          rintro e w' ⟨rfl, rfl⟩
          refine hK.out _ _ hC3 trivial ?_
          clear hK K
          clear hcl
          intro hcl
          (try simp only [Act.put, List.getElem_toArray, List.getElem_cons_zero, List.getElem_cons_succ, List.setIfInBounds_toArray, List.set_cons_zero, List.set_cons_succ])
          refine wpM_only (i := 19) rfl (by kernel_rfl) hcl (fun K hK => ?_)
          go_simp
          refine (seen_any ev T.fa T.fe w3 hV3 hev hTH.out.2.2.1 hTH.out.2.2.2.1 hTH.out.2.2.2.2).mono ?_
          rintro e w4 ⟨rfl, hb4⟩
          have hC4 : KQ w3.heap.size w3 w4 := kq hb4
          refine hK.out _ _ hC4 trivial ?_
          clear hK K
          clear hcl
          intro hcl
          (try simp only [Act.put, List.getElem_toArray, List.getElem_cons_zero, List.getElem_cons_succ, List.setIfInBounds_toArray, List.set_cons_zero, List.set_cons_succ])
          clear hC
          have hC := hC4
          (refine wpM_take (i := 24) (v := ?_) rfl (by kernel_rfl) (by kernel_rfl) (by kernel_rfl) (by decide) (fun _ _ _ h => h) hcl hC (fun _ => hE) (Or.inl ⟨by rfl, ?_⟩) ?_; rotate_left; (· (intro w hSw; (try dsimp only at hSw); go_simp; (try with_reducible rfl))); clear hcl; intro hcl; (try simp only [Act.put, List.getElem_toArray, List.getElem_cons_zero, List.getElem_cons_succ, List.setIfInBounds_toArray, List.set_cons_zero, List.set_cons_succ]))
          (refine wpM_take (i := 25) (v := ?_) rfl (by kernel_rfl) (by kernel_rfl) (by kernel_rfl) (by decide) (fun _ _ _ h => h) hcl hC (fun _ => hE) (Or.inl ⟨by rfl, ?_⟩) ?_; rotate_left; (· (intro w hSw; (try dsimp only at hSw); go_simp; (try with_reducible rfl))); clear hcl; intro hcl; (try simp only [Act.put, List.getElem_toArray, List.getElem_cons_zero, List.getElem_cons_succ, List.setIfInBounds_toArray, List.set_cons_zero, List.set_cons_succ]))
          refine wpM_done (by kernel_rfl) ?_
          clear hcl
          have hw4 := hw3.trans (hb4.mono hw3.size)
          go_wp2
          go_roundg (3 - (k + 1))
          case measure => omega
          case rel => exact ⟨k + 1, T, by omega, rfl, by go_num, hTH.out, hP3k.out.below hb4, hQ3k.out.below hb4, hw4⟩
        · go_wp2
          go_ret
          exact ⟨rfl, hwr⟩
end Go.Proofs.YthfjbbijcemmoaaDoor
