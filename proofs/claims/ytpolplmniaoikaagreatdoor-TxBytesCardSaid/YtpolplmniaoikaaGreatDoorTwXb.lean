/- The statement TxBytes, walked. -/
import Derived.Test.YtpolplmniaoikaaGreatDoorTwXt
import Derived.Test.YtpolplmniaoikaaGreatDoorFz
import Derived.Test.YtpolplmniaoikaaGreatDoorJa
import Derived.Test.YtpolplmniaoikaaGreatDoorJe
import Derived.Test.YtpolplmniaoikaaGreatDoorJf
import Derived.Test.YtpolplmniaoikaaGreatDoorAs
import Derived.Test.YtpolplmniaoikaaGreatDoorN39
namespace Go.Proofs.YtpolplmniaoikaaGreatDoor
open Go.RowKit

theorem readX_wf {S : Rs} (h : S.wf) : (readX S).2.wf ∧ (readX S).1.2.2.2.length ≤ 16 ∧ ∀ p ∈ (readX S).1.2.2.2, p.Good := by
  have h1 := (readI_wf h).1
  have h2 := (readV_wf h1).1
  have h3 : (intS 1 (readV (readI S).2).2).2.wf := Rs.wf_next h2 _
  have h4 : (intS 16 (intS 1 (readV (readI S).2).2).2).2.wf := Rs.wf_next h3 _
  have hl := intS_le 16 (intS 1 (readV (readI S).2).2).2
  have h5 := readQs_wf h4 (intS 16 (intS 1 (readV (readI S).2).2).2).1
  have h6 := Rs.wf_fail h5.1 (txErr (rawX S).1.1 (rawX S).1.2.1 (rawX S).1.2.2.2)
  unfold readX
  dsimp only
  split
  · exact ⟨h6, Nat.zero_le _, fun p hp => nomatch hp⟩
  · refine ⟨h6, ?_, h5.2⟩
    show (readQs _ _).1.length ≤ 16
    rw [readQs_len]; exact hl
theorem RdrD.besideX {w w' : World} {p q : Nat} {S T : Rs} (hQ : RdrD w q S) (hP : RdrP w p T) (hg : w.grownBy w' (some p)) : RdrD w' q S :=
  hQ.grown hg (fun g cs t e hb => by
    injection e with e; subst e
    obtain ⟨_, hh, _⟩ := hP
    rw [hh] at hb
    injection hb with hb; injection hb with _ ht
    rw [← ht]; decide)
theorem RdrP.besideX {w w' : World} {p q : Nat} {S T : Rs} (hP : RdrP w p S) (hQ : RdrD w q T) (hg : w.grownBy w' (some q)) : RdrP w' p S :=
  hP.grown hg (fun g cs t e hb => by
    injection e with e; subst e
    unfold RdrD at hQ
    rw [hQ] at hb
    injection hb with hb; injection hb with _ ht
    rw [← ht]; exact ⟨by decide, by decide⟩)
set_option maxRecDepth 100000 in
set_option maxHeartbeats 8000000 in
theorem txbytes_any (x : Im) (v : Vm) (t : Bool) (T : Option Addr) (n k0 : Nat) (ps : List Pe) (l : List UInt8) (w : World)
    (hT : RdE w w.heap.size T n ps) (hn : n ≤ maxLen) (hx : x.wf) (hvw : v.wf) (hpw : ∀ p ∈ ps, p.e.wf ∧ p.key.length ≤ maxLen ∧ p.e.name.length ≤ maxLen ∧ p.l ≤ maxLen) (hvar : VarOk w) (hv : VarM w) :
    Calls Tryz.prog 3 #[.agg #[.int .i64 x.1, .int .u32 x.2, .int .u32 v.d0, .int .u32 v.d1, .int .u32 v.d2, .int .u32 v.d3, .int .u32 v.d4, .int .u32 v.d5, .int .u32 v.d6, .int .u32 v.d7, .bool t, .slice T n k0], .string (bs l)] w fun e w' => e = .returned (.bool true) ∧ Below w.heap.size w w' := by
  have hb0 : Below w.heap.size w (w.alloc (.cells #[.int .i64 x.1, .int .u32 x.2, .int .u32 v.d0, .int .u32 v.d1, .int .u32 v.d2, .int .u32 v.d3, .int .u32 v.d4, .int .u32 v.d5, .int .u32 v.d6, .int .u32 v.d7, .bool t, .slice T n k0] 29)) := (Below.refl _ w).alloc (Nat.le_refl _) _
  have hbt : (w.alloc (.cells #[.int .i64 x.1, .int .u32 x.2, .int .u32 v.d0, .int .u32 v.d1, .int .u32 v.d2, .int .u32 v.d3, .int .u32 v.d4, .int .u32 v.d5, .int .u32 v.d6, .int .u32 v.d7, .bool t, .slice T n k0] 29)).heap[w.heap.size]? = some (.cells #[.int .i64 x.1, .int .u32 x.2, .int .u32 v.d0, .int .u32 v.d1, .int .u32 v.d2, .int .u32 v.d3, .int .u32 v.d4, .int .u32 v.d5, .int .u32 v.d6, .int .u32 v.d7, .bool t, .slice T n k0] 29 (0, 0)) := heap_at _ _ rfl
  generalize hWe : (w.alloc (.cells #[.int .i64 x.1, .int .u32 x.2, .int .u32 v.d0, .int .u32 v.d1, .int .u32 v.d2, .int .u32 v.d3, .int .u32 v.d4, .int .u32 v.d5, .int .u32 v.d6, .int .u32 v.d7, .bool t, .slice T n k0] 29)) = W at hb0 hbt
  have hz0 := hb0.size
  have hcells := Lib.hid (fun w' (h : Below W.heap.size W w') => blk_below hbt h)
  have c1 := Lib.hid (fun w' (h : Below w.heap.size w w') => fgreat15_any (.int .i64 x.1) (.int .u32 x.2) (.int .u32 v.d0) (.int .u32 v.d1) (.int .u32 v.d2) (.int .u32 v.d3) (.int .u32 v.d4) (.int .u32 v.d5) (.int .u32 v.d6) (.int .u32 v.d7) (.bool t) T n k0 ps w' ((hT.below h).more h.size).1 hn)
  have q0 := blk_cell hbt 0
  have q1 := blk_cell hbt 1
  have q2 := blk_cell hbt 2
  have q3 := blk_cell hbt 3
  have q4 := blk_cell hbt 4
  have q5 := blk_cell hbt 5
  have q6 := blk_cell hbt 6
  have q7 := blk_cell hbt 7
  have q8 := blk_cell hbt 8
  have q9 := blk_cell hbt 9
  have q10 := blk_cell hbt 10
  have q11 := blk_cell hbt 11
  simp at q0 q1 q2 q3 q4 q5 q6 q7 q8 q9 q10 q11
  have hltt := blk_lt hbt
  cases hg : fgr15 ps with
  | true =>
    rw [hg] at c1
    clear hg hbt hT hpw
    go_enter Tryz.func3, Tryz.ntmps3
    go_wp2_with fail
    refine (c1.out W hb0).mono ?_
    rintro e w1 ⟨rfl, hv1⟩
    have hG := hb0.trans (hv1.mono hz0)
    clear hltt q0 q1 q2 q3 q4 q5 q6 q7 q8 q9 q10 q11
    go_wp2
    go_ret
    exact ⟨rfl, hG⟩
  | false =>
  rw [hg] at c1
  obtain ⟨hl30, hok⟩ := fgr15_no hT hg
  by_cases hl2 : 3000 < l.length
  · have hd : decide ((3000 : Int) < (((bs l).size : Nat) : Int)) = true := decide_eq_true (by rw [bs_size]; omega)
    clear hl2 hg hbt hT hpw
    go_enter Tryz.func3, Tryz.ntmps3
    go_wp2_with fail
    refine (c1.out W hb0).mono ?_
    rintro e w1 ⟨rfl, hv1⟩
    have hG := hb0.trans (hv1.mono hz0)
    clear hltt q0 q1 q2 q3 q4 q5 q6 q7 q8 q9 q10 q11
    go_wp2
    go_ret
    exact ⟨rfl, hG⟩
  have hd : decide ((3000 : Int) < (((bs l).size : Nat) : Int)) = false := decide_eq_false (by rw [bs_size]; omega)
  have hvr := Lib.hid (fun w' (h : Below w.heap.size w w') => hv.below h hv.lt)
  have hTr := Lib.hid (fun w' (h : Below w.heap.size w w') => (hT.below h).more h.size)
  have cTo := Lib.hid (fun w' (h : Below w.heap.size w w') => txto_any x v t T n k0 ps w' (hTr.out w' h) (by omega) (fun p hp => Nat.le_trans (hok.le hT p hp) (by omega)))
  have hkl : ∀ p ∈ ps, p.key.length ≤ 1000 := fun p hp => Nat.le_trans (hok.pe p hp).1 (by decide)
  have cR := Lib.hid (fun w' (h : Below w.heap.size w w') => rxwrite_any x v t T n k0 ps w' (hTr.out w' h) (by omega) (fit_of (hTr.out w' h) rfl hpw hok (by omega)) hkl hx hvw)
  have cW := Lib.hid (fun w' A' c' qs (hb : Below w.heap.size w w') (hr : RdE w' w'.heap.size A' n qs) (hc : qs.map Pe.core = ps.map Pe.core) => by
    have h := xwrite_any x v t A' n c' qs w' hr (by omega) (fit_of hr hc hpw hok (by omega)) (fun p hp => Nat.le_trans (okPs.pe (by rw [hc]; exact hok) p hp).1 (by decide)) hx hvw (hvr.out w' hb)
    rw [hc] at h
    exact (h : Calls Tryz.prog 8 #[.agg #[.int .i64 x.1, .int .u32 x.2, .int .u32 v.d0, .int .u32 v.d1, .int .u32 v.d2, .int .u32 v.d3, .int .u32 v.d4, .int .u32 v.d5, .int .u32 v.d6, .int .u32 v.d7, .bool t, .slice A' n c']] w' fun r w'' => r = .returned (.tuple #[.string (bs (writeX x v t (ps.map Pe.core))), .int .i64 (txErr x v (ps.map Pe.core))]) ∧ Below w'.heap.size w' w''))
  have hwl : (writeX x v t (ps.map Pe.core)).length ≤ 3000000 := by
    unfold writeX
    split
    · exact Nat.zero_le _
    · rename_i h
      have h1 := (txErr_zero (Classical.not_not.1 h)).1
      have h2 := headX_len x hvw t _ h1
      have h3 := partX_len (headX x v t (ps.map Pe.core).length) (ps.map Pe.core) (ps.map Pe.core).length h1 (fun q hq => Nat.le_trans (hok q hq).1 (by decide)) (fun q hq => by obtain ⟨p, hp, rfl⟩ := List.mem_map.1 hq; exact (hpw p hp).1)
      omega
  generalize writeX x v t (ps.map Pe.core) = wc at *
  generalize txErr x v (ps.map Pe.core) = we at *
  obtain ⟨LL, hLL⟩ : ∃ LL, wc ++ l = LL := ⟨_, rfl⟩
  have hLl : LL.length ≤ 4000000 := by rw [← hLL, List.length_append]; omega
  have hcat : bs wc ++ bs l = bs LL := by rw [bs_append, hLL]
  have hsz : ¬ 9223372036854775807 < (bs wc).size + (bs l).size := by rw [bs_size, bs_size]; omega
  have hvH := Lib.hid hvar
  clear hl2 hg hbt hT hpw hv hok hkl hvar hLL
  go_enter Tryz.func3, Tryz.ntmps3
  go_wp2_with fail
  refine (c1.out W hb0).mono ?_
  rintro e w1 ⟨rfl, hv1⟩
  have hb1 := hb0.trans (hv1.mono hb0.size)
  clear hltt q0 q1 q2 q3 q4 q5 q6 q7 q8 q9 q10 q11 c1
  have hbt1 := hcells.out w1 hv1
  have q0 := blk_cell hbt1 0
  have q1 := blk_cell hbt1 1
  have q2 := blk_cell hbt1 2
  have q3 := blk_cell hbt1 3
  have q4 := blk_cell hbt1 4
  have q5 := blk_cell hbt1 5
  have q6 := blk_cell hbt1 6
  have q7 := blk_cell hbt1 7
  have q8 := blk_cell hbt1 8
  have q9 := blk_cell hbt1 9
  have q10 := blk_cell hbt1 10
  have q11 := blk_cell hbt1 11
  simp at q0 q1 q2 q3 q4 q5 q6 q7 q8 q9 q10 q11
  have hltt := blk_lt hbt1
  clear hbt1
  go_wp2_with fail
  refine (cTo.out w1 hb1).mono ?_
  rintro e w2 ⟨A3, c3, qs, rfl, o3, hq3, hv2⟩
  have hb2 := hb1.trans (hv2.mono hb1.size)
  have hW2 := hv1.trans (hv2.mono hv1.size)
  clear hltt q0 q1 q2 q3 q4 q5 q6 q7 q8 q9 q10 q11 cTo
  go_wp2_with fail
  refine (cW.out w2 A3 c3 qs hb2 o3.rd hq3).mono ?_
  rintro e w3 ⟨rfl, hv3⟩
  have hb3 := hb2.trans (hv3.mono hb2.size)
  have hW3 := hW2.trans (hv3.mono hW2.size)
  clear o3 hq3 cW hv1 hv2 hv3 hb1 hb2 hW2
  have hbt3 := hcells.out w3 hW3
  have q0 := blk_cell hbt3 0
  have q1 := blk_cell hbt3 1
  have q2 := blk_cell hbt3 2
  have q3 := blk_cell hbt3 3
  have q4 := blk_cell hbt3 4
  have q5 := blk_cell hbt3 5
  have q6 := blk_cell hbt3 6
  have q7 := blk_cell hbt3 7
  have q8 := blk_cell hbt3 8
  have q9 := blk_cell hbt3 9
  have q10 := blk_cell hbt3 10
  have q11 := blk_cell hbt3 11
  simp at q0 q1 q2 q3 q4 q5 q6 q7 q8 q9 q10 q11
  have hltt := blk_lt hbt3
  clear hbt3
  go_wp2_with fail
  refine (cR.out w3 hb3).mono ?_
  rintro e wA ⟨rfl, hbA3⟩
  have hwA := hb3.trans (hbA3.mono hb3.size)
  have hzA := hwA.size
  clear cR hbA3 hb3 hltt q0 q1 q2 q3 q4 q5 q6 q7 q8 q9 q10 q11 hW3 hcells
  go_wp2_with fail
  refine (pnew_any _ _).mono ?_
  rintro e wB ⟨rfl, hwBe⟩
  have hbB : Below wA.heap.size wA wB := by rw [hwBe]; exact (Below.refl _ wA).alloc (Nat.le_refl _) _
  have hPB : RdrP wB wA.heap.size ⟨LL, 0, 0, 0⟩ := by rw [hwBe]; exact ⟨_, heap_at _ _ rfl, .inl ⟨rfl, rfl⟩⟩
  clear hwBe
  have hbC : Below wB.heap.size wB (wB.alloc (.cells #[.string (bs LL), .int .i64 0, .int .i64 0, .int .i64 0] 45)) := (Below.refl _ wB).alloc (Nat.le_refl _) _
  have hQC : RdrD (wB.alloc (.cells #[.string (bs LL), .int .i64 0, .int .i64 0, .int .i64 0] 45)) wB.heap.size ⟨LL, 0, 0, 0⟩ := heap_at _ _ rfl
  have hPC := hPB.below hbC
  have hzB := hbB.size
  have hwC := (hwA.trans (hbB.mono hzA)).trans (hbC.mono (by omega))
  have hpq : wA.heap.size < wB.heap.size := hPB.lt
  generalize hqe : wB.heap.size = q at hQC hpq
  generalize hpe : wA.heap.size = p at hPC hpq
  have hwp : w.heap.size ≤ p := by omega
  have hl0 : (⟨LL, 0, 0, 0⟩ : Rs).wf := ⟨Nat.zero_le _, by show LL.length ≤ _; omega, by show (0 : Int) ≤ 0; decide, by show (0 : Int) ≤ _; decide, fun _ => rfl⟩
  go_wp2_with fail
  go_loopg [11] 3 (fun g i wr => ∃ (k : Nat) (S : Rs), k ≤ 2 ∧ g = 3 - k ∧ i = .int .i64 (k : Int) ∧ S.wf ∧ RdrP wr p S ∧ RdrD wr q S ∧ Below w.heap.size w wr)
  case atStart => exact ⟨0, ⟨LL, 0, 0, 0⟩, by omega, rfl, rfl, hl0, hPC, hQC, hwC⟩
  case round =>
    clear hbC hQC hPC hwC hPB hbB hzB hzA hwA hl0
    obtain ⟨k, S, hk, rfl, rfl, hS, hP, hQ, hwr⟩ := hrel
    have hzr := hwr.size
    by_cases hlt : k < 2
    · have hTw := readX_wf hS
      have hvm := hvr.out wr hwr
      have hvmd := hvm.below (Below.refl wr.heap.size wr).drew hvm.lt
      have c1 := fun w h hv => xread_any p S w h hS hv
      have c2 := fun w h => rxread_any q S w h hS
      obtain ⟨X, T, hT⟩ : ∃ X T, readX S = (X, T) := ⟨_, _, rfl⟩
      rw [hT] at c1 c2 hTw
      obtain ⟨X1, X2, X3, X4⟩ := X
      dsimp only at c1 c2 hTw
      obtain ⟨hTw, hTl, _⟩ := hTw
      have c1 := Lib.hid c1
      have c2 := Lib.hid c2
      have hTH := Lib.hid hTw
      have hTlH := Lib.hid hTl
      clear hT hS hTw hTl
      have hv0 := hvH.out.lt
      go_wp2_with fail
      refine wp_region_M (fun _ => True) (fun _ => True) 99 (by kernel_rfl) trivial trivial ?_
      intro hcl
      have hC := trivial
      have hE := trivial
      (refine wpM_take (i := 0) (v := ?_) rfl (by kernel_rfl) (by kernel_rfl) (by kernel_rfl) (by decide) (fun _ _ _ h => h) hcl hC (fun _ => hE) (Or.inl ⟨by rfl, ?_⟩) ?_; rotate_left; (· (intro w hSw; (try dsimp only at hSw); go_simp; (try with_reducible rfl))); clear hcl; intro hcl; (try simp only [Act.put, List.getElem_toArray, List.getElem_cons_zero, List.setIfInBounds_toArray, List.set_cons_zero, List.set_cons_succ]))
      (refine wpM_take (i := 3) (v := ?_) rfl (by kernel_rfl) (by kernel_rfl) (by kernel_rfl) (by decide) (fun _ _ _ h => h) hcl hC (fun _ => hE) (Or.inl ⟨by rfl, ?_⟩) ?_; rotate_left; (· (intro w hSw; (try dsimp only at hSw); go_simp; (try with_reducible rfl))); clear hcl; intro hcl; (try simp only [Act.put, List.getElem_toArray, List.getElem_cons_zero, List.getElem_cons_succ, List.setIfInBounds_toArray, List.set_cons_zero, List.set_cons_succ]))
      refine wpM_only (i := 1) rfl (by kernel_rfl) hcl (fun K hK => ?_)
      go_simp
      refine (c1.out _ (hP.below (Below.refl _ _).drew) hvmd).mono ?_
      rintro e w1 ⟨A1, n1, c1, qs1, rfl, o1, e1, hP1, hg1⟩
      have hQ1 := (hQ.below (Below.refl _ _).drew).besideX (hP.below (Below.refl _ _).drew) hg1
      have hz1 := hg1.size
      simp at hz1
      have hn1 : n1 ≤ 16 := by have h1 := o1.len; have h2 := congrArg List.length e1; have h3 := hTlH.out; rw [List.length_map] at h2; omega
      have e1 := Lib.hid e1
      refine hK.out _ _ trivial trivial ?_
      clear hK K
      clear hcl
      intro hcl
      (try simp only [Act.put, List.getElem_toArray, List.getElem_cons_zero, List.getElem_cons_succ, List.setIfInBounds_toArray, List.set_cons_zero, List.set_cons_succ])
      refine wpM_only (i := 2) rfl (by kernel_rfl) hcl (fun K hK => ?_)
      go_simp
      refine (txfrom_any X1 X2 X3 A1 n1 c1 qs1 w1 o1.rd (by omega)).mono ?_
      rintro e w5 ⟨A5, c5, rfl, o5, hb5⟩
      have hQ5 := hQ1.below hb5
      have hP5 := hP1.below hb5
      have o15 := o1.below hb5
      have hz5 := hb5.size
      refine hK.out _ _ trivial trivial ?_
      clear hK K
      clear hcl
      intro hcl
      (try simp only [Act.put, List.getElem_toArray, List.getElem_cons_zero, List.getElem_cons_succ, List.setIfInBounds_toArray, List.set_cons_zero, List.set_cons_succ])
      refine wpM_only (i := 4) rfl (by kernel_rfl) hcl (fun K hK => ?_)
      go_simp
      refine (c2.out _ hQ5).mono ?_
      rintro e w2 ⟨A2, n2, c2, qs2, rfl, o2, e2, hQ2, hg2⟩
      have e2 := Lib.hid e2
      have hP2 := hP5.besideX hQ5 hg2
      have hz2 := hg2.size
      have hlq := hQ.lt
      have o5' := o5.keptB hg2 (by omega)
      have o1' := o15.keptB hg2 (by simp; omega)
      have r5 : RdE w2 w2.heap.size A5 n1 qs1 := ⟨o5'.rd.1, o1'.rd.2⟩
      refine hK.out _ _ trivial trivial ?_
      clear hK K
      clear hcl
      intro hcl
      (try simp only [Act.put, List.getElem_toArray, List.getElem_cons_zero, List.getElem_cons_succ, List.setIfInBounds_toArray, List.set_cons_zero, List.set_cons_succ])
      refine wpM_only (i := 5) rfl (by kernel_rfl) hcl (fun K hK => ?_)
      go_simp
      refine (txsame_any X1 X2 X3 A5 n1 c5 qs1 X1 X2 X3 A2 n2 c2 qs2 w2 r5 o2.rd o1.max o2.max (fun p hp => Nat.le_trans (o1'.2 p hp).rd.2.2.1 (o1'.2 p hp).rd.2.2.2) (fun p hp => Nat.le_trans (o2.2 p hp).rd.2.2.1 (o2.2 p hp).rd.2.2.2)).mono ?_
      rintro e w3 ⟨rfl, hb3⟩
      rw [show sameTv ⟨X1, X2, X3, qs1.map Pe.core⟩ ⟨X1, X2, X3, qs2.map Pe.core⟩ = true from sameTv_iff.2 (by rw [e1.out, e2.out])]
      have hP3 := hP2.below hb3
      have hQ3 := hQ2.below hb3
      have hw3 : Below w.heap.size w w3 := ((((hwr.drew).grown hg1 (by simp; omega) (by rintro g e; injection e with e; omega)).trans (hb5.mono (by omega))).grown hg2 (by omega) (by rintro g e; injection e with e; omega)).trans (hb3.mono (by omega))
      have hV3 := hvH.out.below hw3 hv0
      have hP3k := Lib.hid hP3
      have hQ3k := Lib.hid hQ3
      obtain ⟨ev, hbP, hev⟩ := hP3
      have p1' := blk_cell hbP 1
      have p2' := blk_cell hbP 2
      simp at p1' p2'
      have hlP := blk_lt hbP
      have hbQ := hQ3
      unfold RdrD at hbQ
      have hlQ := blk_lt hbQ
      have y1 := blk_cell hbQ 1
      have y2 := blk_cell hbQ 2
      have y3 := blk_cell hbQ 3
      simp at y1 y2 y3
      clear hbQ hbP hQ3 o1 o2 o5 o15 o5' o1' r5 e1 e2 hP1 hQ1 hP2 hQ2 hP5 hQ5 hg1 hg2 hvmd hvm
      have p1 := p1'
      have p2 := p2'
      clear p1' p2'
      refine hK.out _ _ trivial trivial ?_
      clear hK K
      clear hcl
      intro hcl
      (try simp only [Act.put, List.getElem_toArray, List.getElem_cons_zero, List.getElem_cons_succ, List.setIfInBounds_toArray, List.set_cons_zero, List.set_cons_succ])
      (refine wpM_take (i := 6) (v := ?_) rfl (by kernel_rfl) (by kernel_rfl) (by kernel_rfl) (by decide) (fun _ _ _ h => h) hcl hC (fun _ => hE) (Or.inl ⟨by rfl, ?_⟩) ?_; rotate_left; (· (intro w hSw; (try dsimp only at hSw); go_simp; (try with_reducible rfl))); clear hcl; intro hcl; (try simp only [Act.put, List.getElem_toArray, List.getElem_cons_zero, List.getElem_cons_succ, List.setIfInBounds_toArray, List.set_cons_zero, List.set_cons_succ]))
      (refine wpM_take (i := 7) (v := ?_) rfl (by kernel_rfl) (by kernel_rfl) (by kernel_rfl) (by decide) (fun _ _ _ h => h) hcl hC (fun _ => hE) (Or.inl ⟨by rfl, ?_⟩) ?_; rotate_left; (· (intro w hSw; (try dsimp only at hSw); go_simp; (try with_reducible rfl))); clear hcl; intro hcl; (try simp only [Act.put, List.getElem_toArray, List.getElem_cons_zero, List.getElem_cons_succ, List.setIfInBounds_toArray, List.set_cons_zero, List.set_cons_succ]))
      have hC3 : KQ w3.heap.size w3 w3 := kq (Below.refl _ _)
      refine wpM_now (C' := fun w' => KQ w3.heap.size w3 w') ?_
      clear hC
      have hC := hC3
      (refine wpM_take (i := 8) (v := ?_) rfl (by kernel_rfl) (by kernel_rfl) (by kernel_rfl) (by decide) (fun _ _ _ h => h) hcl hC (fun _ => hE) (Or.inl ⟨by rfl, ?_⟩) ?_; rotate_left; (· (intro w hSw; (try dsimp only at hSw); go_simp; (try with_reducible rfl))); clear hcl; intro hcl; (try simp only [Act.put, List.getElem_toArray, List.getElem_cons_zero, List.getElem_cons_succ, List.setIfInBounds_toArray, List.set_cons_zero, List.set_cons_succ]))
      (refine wpM_take (i := 10) (v := ?_) rfl (by kernel_rfl) (by kernel_rfl) (by kernel_rfl) (by decide) (fun _ _ _ h => h) hcl hC (fun _ => hE) (Or.inl ⟨by rfl, ?_⟩) ?_; rotate_left; (· (intro w hSw; (try dsimp only at hSw); go_simp; (try with_reducible rfl))); clear hcl; intro hcl; (try simp only [Act.put, List.getElem_toArray, List.getElem_cons_zero, List.getElem_cons_succ, List.setIfInBounds_toArray, List.set_cons_zero, List.set_cons_succ]))
      (refine wpM_take (i := 11) (v := ?_) rfl (by kernel_rfl) (by kernel_rfl) (by kernel_rfl) (by decide) (fun _ _ _ h => h) hcl hC (fun _ => hE) (Or.inl ⟨by rfl, ?_⟩) ?_; rotate_left; (· (intro w hSw; (try dsimp only at hSw); go_simp; (try with_reducible rfl))); clear hcl; intro hcl; (try simp only [Act.put, List.getElem_toArray, List.getElem_cons_zero, List.getElem_cons_succ, List.setIfInBounds_toArray, List.set_cons_zero, List.set_cons_succ]))
      (refine wpM_take (i := 12) (v := ?_) rfl (by kernel_rfl) (by kernel_rfl) (by kernel_rfl) (by decide) (fun _ _ _ h => h) hcl hC (fun _ => hE) (Or.inl ⟨by rfl, ?_⟩) ?_; rotate_left; (· (intro w hSw; (try dsimp only at hSw); go_simp; (try with_reducible rfl))); clear hcl; intro hcl; (try simp only [Act.put, List.getElem_toArray, List.getElem_cons_zero, List.getElem_cons_succ, List.setIfInBounds_toArray, List.set_cons_zero, List.set_cons_succ]))
      (refine wpM_take (i := 13) (v := ?_) rfl (by kernel_rfl) (by kernel_rfl) (by kernel_rfl) (by decide) (fun _ _ _ h => h) hcl hC (fun _ => hE) (Or.inl ⟨by rfl, ?_⟩) ?_; rotate_left; (· (intro w hSw; (try dsimp only at hSw); go_simp; (try with_reducible rfl))); clear hcl; intro hcl; (try simp only [Act.put, List.getElem_toArray, List.getElem_cons_zero, List.getElem_cons_succ, List.setIfInBounds_toArray, List.set_cons_zero, List.set_cons_succ]))
      refine wpM_only (i := 9) rfl (by kernel_rfl) hcl (fun K hK => ?_)
      go_simp
      refine (pat_any p _ w3 hlP p1).mono ?_
      rintro e w' ⟨rfl, rfl⟩
      refine hK.out _ _ hC3 trivial ?_
      clear hK K
      clear hcl
      intro hcl
      (try simp only [Act.put, List.getElem_toArray, List.getElem_cons_zero, List.getElem_cons_succ, List.setIfInBounds_toArray, List.set_cons_zero, List.set_cons_succ])
      (refine wpM_take (i := 14) (v := ?_) rfl (by kernel_rfl) (by kernel_rfl) (by kernel_rfl) (by decide) (fun _ _ _ h => h) hcl hC (fun _ => hE) (Or.inl ⟨by rfl, ?_⟩) ?_; rotate_left; (· (intro w hSw; (try dsimp only at hSw); go_simp; (try with_reducible rfl))); clear hcl; intro hcl; (try simp only [Act.put, List.getElem_toArray, List.getElem_cons_zero, List.getElem_cons_succ, List.setIfInBounds_toArray, List.set_cons_zero, List.set_cons_succ]))
      (refine wpM_take (i := 15) (v := ?_) rfl (by kernel_rfl) (by kernel_rfl) (by kernel_rfl) (by decide) (fun _ _ _ h => h) hcl hC (fun _ => hE) (Or.inl ⟨by rfl, ?_⟩) ?_; rotate_left; (· (intro w hSw; (try dsimp only at hSw); go_simp; (try with_reducible rfl))); clear hcl; intro hcl; (try simp only [Act.put, List.getElem_toArray, List.getElem_cons_zero, List.getElem_cons_succ, List.setIfInBounds_toArray, List.set_cons_zero, List.set_cons_succ]))
      (refine wpM_take (i := 16) (v := ?_) rfl (by kernel_rfl) (by kernel_rfl) (by kernel_rfl) (by decide) (fun _ _ _ h => h) hcl hC (fun _ => hE) (Or.inl ⟨by rfl, ?_⟩) ?_; rotate_left; (· (intro w hSw; (try dsimp only at hSw); go_simp; (try with_reducible rfl))); clear hcl; intro hcl; (try simp only [Act.put, List.getElem_toArray, List.getElem_cons_zero, List.getElem_cons_succ, List.setIfInBounds_toArray, List.set_cons_zero, List.set_cons_succ]))
      (refine wpM_take (i := 17) (v := ?_) rfl (by kernel_rfl) (by kernel_rfl) (by kernel_rfl) (by decide) (fun _ _ _ h => h) hcl hC (fun _ => hE) (Or.inl ⟨by rfl, ?_⟩) ?_; rotate_left; (· (intro w hSw; (try dsimp only at hSw); go_simp; (try with_reducible rfl))); clear hcl; intro hcl; (try simp only [Act.put, List.getElem_toArray, List.getElem_cons_zero, List.getElem_cons_succ, List.setIfInBounds_toArray, List.set_cons_zero, List.set_cons_succ]))
      (refine wpM_take (i := 20) (v := ?_) rfl (by kernel_rfl) (by kernel_rfl) (by kernel_rfl) (by decide) (fun _ _ _ h => h) hcl hC (fun _ => hE) (Or.inl ⟨by rfl, ?_⟩) ?_; rotate_left; (· (intro w hSw; (try dsimp only at hSw); go_simp; (try with_reducible rfl))); clear hcl; intro hcl; (try simp only [Act.put, List.getElem_toArray, List.getElem_cons_zero, List.getElem_cons_succ, List.setIfInBounds_toArray, List.set_cons_zero, List.set_cons_succ]))
      (refine wpM_take (i := 21) (v := ?_) rfl (by kernel_rfl) (by kernel_rfl) (by kernel_rfl) (by decide) (fun _ _ _ h => h) hcl hC (fun _ => hE) (Or.inl ⟨by rfl, ?_⟩) ?_; rotate_left; (· (intro w hSw; (try dsimp only at hSw); go_simp; (try with_reducible rfl))); clear hcl; intro hcl; (try simp only [Act.put, List.getElem_toArray, List.getElem_cons_zero, List.getElem_cons_succ, List.setIfInBounds_toArray, List.set_cons_zero, List.set_cons_succ]))
      (refine wpM_take (i := 22) (v := ?_) rfl (by kernel_rfl) (by kernel_rfl) (by kernel_rfl) (by decide) (fun _ _ _ h => h) hcl hC (fun _ => hE) (Or.inl ⟨by rfl, ?_⟩) ?_; rotate_left; (· (intro w hSw; (try dsimp only at hSw); go_simp; (try with_reducible rfl))); clear hcl; intro hcl; (try simp only [Act.put, List.getElem_toArray, List.getElem_cons_zero, List.getElem_cons_succ, List.setIfInBounds_toArray, List.set_cons_zero, List.set_cons_succ]))
      (refine wpM_take (i := 23) (v := ?_) rfl (by kernel_rfl) (by kernel_rfl) (by kernel_rfl) (by decide) (fun _ _ _ h => h) hcl hC (fun _ => hE) (Or.inl ⟨by rfl, ?_⟩) ?_; rotate_left; (· (intro w hSw; (try dsimp only at hSw); go_simp; (try with_reducible rfl))); clear hcl; intro hcl; (try simp only [Act.put, List.getElem_toArray, List.getElem_cons_zero, List.getElem_cons_succ, List.setIfInBounds_toArray, List.set_cons_zero, List.set_cons_succ]))
      refine wpM_only (i := 18) rfl (by kernel_rfl) hcl (fun K hK => ?_)
      go_simp
      refine (perr_any p _ w3 hlP p2).mono ?_
      rintro e w' ⟨rfl, rfl⟩
      refine hK.out _ _ hC3 trivial ?_
      clear hK K
      clear hcl
      intro hcl
      (try simp only [Act.put, List.getElem_toArray, List.getElem_cons_zero, List.getElem_cons_succ, List.setIfInBounds_toArray, List.set_cons_zero, List.set_cons_succ])
      refine wpM_only (i := 19) rfl (by kernel_rfl) hcl (fun K hK => ?_)
      go_simp
      refine (seen_any ev T.fa T.fe w3 hV3 hev hTH.out.2.2.1 hTH.out.2.2.2.1 hTH.out.2.2.2.2).mono ?_
      rintro e w4 ⟨rfl, hb4⟩
      have hC4 : KQ w3.heap.size w3 w4 := kq hb4
      refine hK.out _ _ hC4 trivial ?_
      clear hK K
      clear hcl
      intro hcl
      (try simp only [Act.put, List.getElem_toArray, List.getElem_cons_zero, List.getElem_cons_succ, List.setIfInBounds_toArray, List.set_cons_zero, List.set_cons_succ])
      clear hC
      have hC := hC4
      (refine wpM_take (i := 24) (v := ?_) rfl (by kernel_rfl) (by kernel_rfl) (by kernel_rfl) (by decide) (fun _ _ _ h => h) hcl hC (fun _ => hE) (Or.inl ⟨by rfl, ?_⟩) ?_; rotate_left; (· (intro w hSw; (try dsimp only at hSw); go_simp; (try with_reducible rfl))); clear hcl; intro hcl; (try simp only [Act.put, List.getElem_toArray, List.getElem_cons_zero, List.getElem_cons_succ, List.setIfInBounds_toArray, List.set_cons_zero, List.set_cons_succ]))
      (refine wpM_take (i := 25) (v := ?_) rfl (by kernel_rfl) (by kernel_rfl) (by kernel_rfl) (by decide) (fun _ _ _ h => h) hcl hC (fun _ => hE) (Or.inl ⟨by rfl, ?_⟩) ?_; rotate_left; (· (intro w hSw; (try dsimp only at hSw); go_simp; (try with_reducible rfl))); clear hcl; intro hcl; (try simp only [Act.put, List.getElem_toArray, List.getElem_cons_zero, List.getElem_cons_succ, List.setIfInBounds_toArray, List.set_cons_zero, List.set_cons_succ]))
      refine wpM_done (by kernel_rfl) ?_
      clear hcl
      have hw4 := hw3.trans (hb4.mono hw3.size)
      go_wp2
      go_roundg (3 - (k + 1))
      case measure => omega
      case rel => exact ⟨k + 1, T, by omega, rfl, by go_num, hTH.out, hP3k.out.below hb4, hQ3k.out.below hb4, hw4⟩
    · go_wp2
      go_ret
      exact ⟨rfl, hwr⟩
end Go.Proofs.YtpolplmniaoikaaGreatDoor
