/- The statement TxParts, walked. -/
import Derived.Test.YtpolplmniaoikaaGreatDoorN48
import Derived.Test.YtpolplmniaoikaaGreatDoorM41
namespace Go.Proofs.YtpolplmniaoikaaGreatDoor
open Go.RowKit

/-- A right transaction cut in two by any test, and merged again, is itself, but for its being thin. -/
theorem merge_parts {x : Im} {v : Vm} {cs : List Pv} (a b : Bool) (t : Pv → Bool) (h : txErr x v cs = 0) : mergeT ⟨x, v, a, cs.filter t⟩ ⟨x, v, b, cs.filter fun p => !t p⟩ = (⟨x, v, a && b, cs⟩, 0) := by
  have h1 := (txErr_zero h).1
  have h2 := (partsErr_rise (txErr_head h).2.2).2
  unfold mergeT
  dsimp only
  rw [txErr_filter t h, txErr_filter (fun p => !t p) h, if_neg (by decide), if_neg (by decide), if_neg (by simp [eqV_iff.2 (rfl : v = v)]), mrg_halves (κ := pvN) h2 t]
  dsimp only
  rw [if_neg (by omega)]
theorem leave_not (cs : List Pv) (xs : List (List UInt8)) (b : Bool) : leavePs cs xs (!b) = cs.filter fun p => !(wantK xs p.1 == b) := by
  unfold leavePs
  congr 1
  funext p
  cases wantK xs p.1 <;> cases b <;> rfl
theorem merge_leave {x : Im} {v : Vm} {cs : List Pv} (xs : List (List UInt8)) (q a b : Bool) (h : txErr x v cs = 0) : mergeT ⟨x, v, a, leavePs cs xs q⟩ ⟨x, v, b, leavePs cs xs (!q)⟩ = (⟨x, v, a && b, cs⟩, 0) := by
  rw [leave_not]; exact merge_parts a b _ h
theorem leave_add (cs : List Pv) (xs : List (List UInt8)) : (leavePs cs xs true).length + (leavePs cs xs false).length = cs.length := by
  have h : leavePs cs xs false = cs.filter fun p => !(wantK xs p.1 == true) := leave_not cs xs true
  rw [h]
  have h1 := (List.filter_append_perm (fun p : Pv => wantK xs p.1 == true) cs).length_eq
  rw [List.length_append] at h1
  exact h1
theorem leaveT_len (t : Bool) (cs : List Pv) (xs : List (List UInt8)) (q : Bool) : leaveT t cs xs q = (t || decide (0 < (leavePs cs xs (!q)).length)) := by
  unfold leaveT
  congr 1
  rw [leave_not, Bool.eq_iff_iff, List.any_eq_true, decide_eq_true_iff, List.length_pos_iff_exists_mem]
  simp only [List.mem_filter]
theorem leave_txErr {x : Im} {v : Vm} {cs : List Pv} (xs : List (List UInt8)) (q : Bool) (h : txErr x v cs = 0) : txErr x v (leavePs cs xs q) = 0 := txErr_filter _ h
set_option maxRecDepth 100000 in
set_option maxHeartbeats 8000000 in
theorem txparts_any (x : Im) (v : Vm) (t : Bool) (T : Option Addr) (n k0 : Nat) (ps : List Pe) (B : Option Addr) (m kc : Nat) (xs : List (List UInt8)) (w : World)
    (hT : RdE w w.heap.size T n ps) (hn : n ≤ maxLen) (hB : RdS w w.heap.size B m xs) (hm : m ≤ maxLen) (hx : x.wf) (hvw : v.wf) (hpw : ∀ p ∈ ps, p.e.wf ∧ p.key.length ≤ maxLen ∧ p.e.name.length ≤ maxLen ∧ p.l ≤ maxLen) (hv : VarM w) :
    Calls Tryz.prog 5 #[.agg #[.int .i64 x.1, .int .u32 x.2, .int .u32 v.d0, .int .u32 v.d1, .int .u32 v.d2, .int .u32 v.d3, .int .u32 v.d4, .int .u32 v.d5, .int .u32 v.d6, .int .u32 v.d7, .bool t, .slice T n k0], .slice B m kc] w fun e w' => e = .returned (.bool true) ∧ Below w.heap.size w w' := by
  have hb0 : Below w.heap.size w (w.alloc (.cells #[.int .i64 x.1, .int .u32 x.2, .int .u32 v.d0, .int .u32 v.d1, .int .u32 v.d2, .int .u32 v.d3, .int .u32 v.d4, .int .u32 v.d5, .int .u32 v.d6, .int .u32 v.d7, .bool t, .slice T n k0] 29)) := (Below.refl _ w).alloc (Nat.le_refl _) _
  have hbt : (w.alloc (.cells #[.int .i64 x.1, .int .u32 x.2, .int .u32 v.d0, .int .u32 v.d1, .int .u32 v.d2, .int .u32 v.d3, .int .u32 v.d4, .int .u32 v.d5, .int .u32 v.d6, .int .u32 v.d7, .bool t, .slice T n k0] 29)).heap[w.heap.size]? = some (.cells #[.int .i64 x.1, .int .u32 x.2, .int .u32 v.d0, .int .u32 v.d1, .int .u32 v.d2, .int .u32 v.d3, .int .u32 v.d4, .int .u32 v.d5, .int .u32 v.d6, .int .u32 v.d7, .bool t, .slice T n k0] 29 (0, 0)) := heap_at _ _ rfl
  generalize hWe : (w.alloc (.cells #[.int .i64 x.1, .int .u32 x.2, .int .u32 v.d0, .int .u32 v.d1, .int .u32 v.d2, .int .u32 v.d3, .int .u32 v.d4, .int .u32 v.d5, .int .u32 v.d6, .int .u32 v.d7, .bool t, .slice T n k0] 29)) = W at hb0 hbt
  have hz0 := hb0.size
  have hcells := Lib.hid (fun w' (h : Below W.heap.size W w') => blk_below hbt h)
  have hvr := Lib.hid (fun w' (h : Below w.heap.size w w') => hv.below h hv.lt)
  have cW := Lib.hid (worksX_any W (hvr.out W hb0))
  have c1 := Lib.hid (fun w' (h : Below w.heap.size w w') => fgreat15_any (.int .i64 x.1) (.int .u32 x.2) (.int .u32 v.d0) (.int .u32 v.d1) (.int .u32 v.d2) (.int .u32 v.d3) (.int .u32 v.d4) (.int .u32 v.d5) (.int .u32 v.d6) (.int .u32 v.d7) (.bool t) T n k0 ps w' ((hT.below h).more h.size).1 hn)
  cases hg : fgr15 ps with
  | true =>
    rw [hg] at c1
    clear hg hbt hT hpw
    go_enter Tryz.func5, Tryz.ntmps5
    go_wp2_with fail
    refine cW.out.mono ?_
    rintro e w1 ⟨rfl, hv1⟩
    have hb1 := hb0.trans (hv1.mono hz0)
    have hbt1 := hcells.out w1 hv1
    have q0 := blk_cell hbt1 0
    have q1 := blk_cell hbt1 1
    have q2 := blk_cell hbt1 2
    have q3 := blk_cell hbt1 3
    have q4 := blk_cell hbt1 4
    have q5 := blk_cell hbt1 5
    have q6 := blk_cell hbt1 6
    have q7 := blk_cell hbt1 7
    have q8 := blk_cell hbt1 8
    have q9 := blk_cell hbt1 9
    have q10 := blk_cell hbt1 10
    have q11 := blk_cell hbt1 11
    simp at q0 q1 q2 q3 q4 q5 q6 q7 q8 q9 q10 q11
    have hltt := blk_lt hbt1
    clear hbt1
    go_wp2_with fail
    refine (c1.out w1 hb1).mono ?_
    rintro e w2 ⟨rfl, hv2⟩
    have hb2 := hb1.trans (hv2.mono hb1.size)
    have hW2 := hv1.trans (hv2.mono hv1.size)
    clear hltt q0 q1 q2 q3 q4 q5 q6 q7 q8 q9 q10 q11 hv1 hv2 c1 cW
    have hbt2 := hcells.out w2 hW2
    have q0 := blk_cell hbt2 0
    have q1 := blk_cell hbt2 1
    have q2 := blk_cell hbt2 2
    have q3 := blk_cell hbt2 3
    have q4 := blk_cell hbt2 4
    have q5 := blk_cell hbt2 5
    have q6 := blk_cell hbt2 6
    have q7 := blk_cell hbt2 7
    have q8 := blk_cell hbt2 8
    have q9 := blk_cell hbt2 9
    have q10 := blk_cell hbt2 10
    have q11 := blk_cell hbt2 11
    simp at q0 q1 q2 q3 q4 q5 q6 q7 q8 q9 q10 q11
    have hltt := blk_lt hbt2
    clear hbt2
    go_wp2_with fail
    go_ret
    exact ⟨rfl, hb2⟩
  | false =>
  rw [hg] at c1
  obtain ⟨hl30, hok⟩ := fgr15_no hT hg
  by_cases hl2 : 30 < m
  · have hd : decide ((30 : Int) < (m : Int)) = true := decide_eq_true (by omega)
    clear hl2 hg hbt hT hpw
    go_enter Tryz.func5, Tryz.ntmps5
    go_wp2_with fail
    refine cW.out.mono ?_
    rintro e w1 ⟨rfl, hv1⟩
    have hb1 := hb0.trans (hv1.mono hz0)
    have hbt1 := hcells.out w1 hv1
    have q0 := blk_cell hbt1 0
    have q1 := blk_cell hbt1 1
    have q2 := blk_cell hbt1 2
    have q3 := blk_cell hbt1 3
    have q4 := blk_cell hbt1 4
    have q5 := blk_cell hbt1 5
    have q6 := blk_cell hbt1 6
    have q7 := blk_cell hbt1 7
    have q8 := blk_cell hbt1 8
    have q9 := blk_cell hbt1 9
    have q10 := blk_cell hbt1 10
    have q11 := blk_cell hbt1 11
    simp at q0 q1 q2 q3 q4 q5 q6 q7 q8 q9 q10 q11
    have hltt := blk_lt hbt1
    clear hbt1
    go_wp2_with fail
    refine (c1.out w1 hb1).mono ?_
    rintro e w2 ⟨rfl, hv2⟩
    have hb2 := hb1.trans (hv2.mono hb1.size)
    have hW2 := hv1.trans (hv2.mono hv1.size)
    clear hltt q0 q1 q2 q3 q4 q5 q6 q7 q8 q9 q10 q11 hv1 hv2 c1 cW
    have hbt2 := hcells.out w2 hW2
    have q0 := blk_cell hbt2 0
    have q1 := blk_cell hbt2 1
    have q2 := blk_cell hbt2 2
    have q3 := blk_cell hbt2 3
    have q4 := blk_cell hbt2 4
    have q5 := blk_cell hbt2 5
    have q6 := blk_cell hbt2 6
    have q7 := blk_cell hbt2 7
    have q8 := blk_cell hbt2 8
    have q9 := blk_cell hbt2 9
    have q10 := blk_cell hbt2 10
    have q11 := blk_cell hbt2 11
    simp at q0 q1 q2 q3 q4 q5 q6 q7 q8 q9 q10 q11
    have hltt := blk_lt hbt2
    clear hbt2
    go_wp2_with fail
    go_ret
    exact ⟨rfl, hb2⟩
  have hd : decide ((30 : Int) < (m : Int)) = false := decide_eq_false (by omega)
  have hTr := Lib.hid (fun w' (h : Below w.heap.size w w') => (hT.below h).more h.size)
  have hBr := Lib.hid (fun w' (h : Below w.heap.size w w') => (hB.below h).more h.size)
  have cD := Lib.hid (fun w' (h : Below w.heap.size w w') => rtxcheck_any x v t T n k0 ps w' (hTr.out w' h) hn (fit_of (hTr.out w' h) rfl hpw hok (by omega)) hx hvw)
  by_cases hte : txErr x v (ps.map Pe.core) = 0
  case neg =>
    have hted : (txErr x v (ps.map Pe.core) != 0) = true := by simpa using hte
    generalize txErr x v (ps.map Pe.core) = te at *
    clear hl2 hg hbt hT hpw hte
    go_enter Tryz.func5, Tryz.ntmps5
    go_wp2_with fail
    refine cW.out.mono ?_
    rintro e w1 ⟨rfl, hv1⟩
    have hb1 := hb0.trans (hv1.mono hz0)
    have hbt1 := hcells.out w1 hv1
    have q0 := blk_cell hbt1 0
    have q1 := blk_cell hbt1 1
    have q2 := blk_cell hbt1 2
    have q3 := blk_cell hbt1 3
    have q4 := blk_cell hbt1 4
    have q5 := blk_cell hbt1 5
    have q6 := blk_cell hbt1 6
    have q7 := blk_cell hbt1 7
    have q8 := blk_cell hbt1 8
    have q9 := blk_cell hbt1 9
    have q10 := blk_cell hbt1 10
    have q11 := blk_cell hbt1 11
    simp at q0 q1 q2 q3 q4 q5 q6 q7 q8 q9 q10 q11
    have hltt := blk_lt hbt1
    clear hbt1
    go_wp2_with fail
    refine (c1.out w1 hb1).mono ?_
    rintro e w2 ⟨rfl, hv2⟩
    have hb2 := hb1.trans (hv2.mono hb1.size)
    have hW2 := hv1.trans (hv2.mono hv1.size)
    clear hltt q0 q1 q2 q3 q4 q5 q6 q7 q8 q9 q10 q11 hv1 hv2 c1 cW
    have hbt2 := hcells.out w2 hW2
    have q0 := blk_cell hbt2 0
    have q1 := blk_cell hbt2 1
    have q2 := blk_cell hbt2 2
    have q3 := blk_cell hbt2 3
    have q4 := blk_cell hbt2 4
    have q5 := blk_cell hbt2 5
    have q6 := blk_cell hbt2 6
    have q7 := blk_cell hbt2 7
    have q8 := blk_cell hbt2 8
    have q9 := blk_cell hbt2 9
    have q10 := blk_cell hbt2 10
    have q11 := blk_cell hbt2 11
    simp at q0 q1 q2 q3 q4 q5 q6 q7 q8 q9 q10 q11
    have hltt := blk_lt hbt2
    clear hbt2
    go_wp2_with fail
    refine (cD.out w2 hb2).mono ?_
    rintro e w3 ⟨rfl, hv3⟩
    have hb3 := hb2.trans (hv3.mono hb2.size)
    clear hltt q0 q1 q2 q3 q4 q5 q6 q7 q8 q9 q10 q11
    go_wp2
    go_ret
    exact ⟨rfl, hb3⟩
  have hted : (txErr x v (ps.map Pe.core) != 0) = false := by simpa using hte
  have cTo := Lib.hid (fun w' (h : Below w.heap.size w w') => txto_any x v t T n k0 ps w' (hTr.out w' h) (by omega) (fun p hp => Nat.le_trans (hok.le hT p hp) (by omega)))
  have hpwH := Lib.hid hpw
  have hokH := Lib.hid hok
  have hokl := Lib.hid (fun q hq => Nat.le_trans (hok.le hT q hq) (show 100 ≤ maxLen by decide))
  have hteH := Lib.hid hte
  have hok4 : ∀ {w' : World} {A' : Option Addr} {n' : Nat} {qs : List Pe}, RdE w' w'.heap.size A' n' qs → qs.map Pe.core = ps.map Pe.core → ∀ q ∈ qs, q.l ≤ 4096 := fun hr hc q hq => Nat.le_trans (okPs.le (by rw [hc]; exact hok) hr q hq) (by omega)
  have hok4 := Lib.hid (fun w' A' n' qs => @hok4 w' A' n' qs)
  rw [hte] at cD
  clear hl2 hg hbt hT hpw hte hok
  go_enter Tryz.func5, Tryz.ntmps5
  go_wp2_with fail
  refine cW.out.mono ?_
  rintro e w1 ⟨rfl, hv1⟩
  have hb1 := hb0.trans (hv1.mono hz0)
  have hbt1 := hcells.out w1 hv1
  have q0 := blk_cell hbt1 0
  have q1 := blk_cell hbt1 1
  have q2 := blk_cell hbt1 2
  have q3 := blk_cell hbt1 3
  have q4 := blk_cell hbt1 4
  have q5 := blk_cell hbt1 5
  have q6 := blk_cell hbt1 6
  have q7 := blk_cell hbt1 7
  have q8 := blk_cell hbt1 8
  have q9 := blk_cell hbt1 9
  have q10 := blk_cell hbt1 10
  have q11 := blk_cell hbt1 11
  simp at q0 q1 q2 q3 q4 q5 q6 q7 q8 q9 q10 q11
  have hltt := blk_lt hbt1
  clear hbt1
  go_wp2_with fail
  refine (c1.out w1 hb1).mono ?_
  rintro e w2 ⟨rfl, hv2⟩
  have hb2 := hb1.trans (hv2.mono hb1.size)
  have hW2 := hv1.trans (hv2.mono hv1.size)
  clear hltt q0 q1 q2 q3 q4 q5 q6 q7 q8 q9 q10 q11 hv1 hv2 c1 cW
  have hbt2 := hcells.out w2 hW2
  have q0 := blk_cell hbt2 0
  have q1 := blk_cell hbt2 1
  have q2 := blk_cell hbt2 2
  have q3 := blk_cell hbt2 3
  have q4 := blk_cell hbt2 4
  have q5 := blk_cell hbt2 5
  have q6 := blk_cell hbt2 6
  have q7 := blk_cell hbt2 7
  have q8 := blk_cell hbt2 8
  have q9 := blk_cell hbt2 9
  have q10 := blk_cell hbt2 10
  have q11 := blk_cell hbt2 11
  simp at q0 q1 q2 q3 q4 q5 q6 q7 q8 q9 q10 q11
  have hltt := blk_lt hbt2
  clear hbt2
  go_wp2_with fail
  refine (cD.out w2 hb2).mono ?_
  rintro e w3 ⟨rfl, hv3⟩
  have hb3 := hb2.trans (hv3.mono hb2.size)
  have hW3 := hW2.trans (hv3.mono hW2.size)
  clear hltt q0 q1 q2 q3 q4 q5 q6 q7 q8 q9 q10 q11 cD hv3 hb2 hW2
  have hbt3 := hcells.out w3 hW3
  have q0 := blk_cell hbt3 0
  have q1 := blk_cell hbt3 1
  have q2 := blk_cell hbt3 2
  have q3 := blk_cell hbt3 3
  have q4 := blk_cell hbt3 4
  have q5 := blk_cell hbt3 5
  have q6 := blk_cell hbt3 6
  have q7 := blk_cell hbt3 7
  have q8 := blk_cell hbt3 8
  have q9 := blk_cell hbt3 9
  have q10 := blk_cell hbt3 10
  have q11 := blk_cell hbt3 11
  simp at q0 q1 q2 q3 q4 q5 q6 q7 q8 q9 q10 q11
  have hltt := blk_lt hbt3
  clear hbt3
  go_wp2_with fail
  refine (cTo.out w3 hb3).mono ?_
  rintro e w4 ⟨A4, c4, qs4, rfl, o4, hq4, hv4⟩
  have hb4 := hb3.trans (hv4.mono hb3.size)
  have hW4 := hW3.trans (hv4.mono hW3.size)
  clear hltt q0 q1 q2 q3 q4 q5 q6 q7 q8 q9 q10 q11 hv4 hb3 hW3 cTo
  obtain ⟨u0, hu0⟩ : ∃ u0, w4.alloc (.cells #[.int .i64 x.1, .int .u32 x.2, .int .u32 v.d0, .int .u32 v.d1, .int .u32 v.d2, .int .u32 v.d3, .int .u32 v.d4, .int .u32 v.d5, .int .u32 v.d6, .int .u32 v.d7, .bool t, .slice A4 n c4] 36) = u0 := ⟨_, rfl⟩
  have hbu : Below w4.heap.size w4 u0 := by rw [← hu0]; exact (Below.refl _ w4).alloc (Nat.le_refl _) _
  have h5 : u0.heap[w4.heap.size]? = some (.cells #[.int .i64 x.1, .int .u32 x.2, .int .u32 v.d0, .int .u32 v.d1, .int .u32 v.d2, .int .u32 v.d3, .int .u32 v.d4, .int .u32 v.d5, .int .u32 v.d6, .int .u32 v.d7, .bool t, .slice A4 n c4] 36 (0, 0)) := by rw [← hu0]; exact heap_at _ _ rfl
  go_upto_region 6 with (fail)
  have hzu := hbu.size
  have hWu : Below W.heap.size W u0 := hW4.trans (hbu.mono hW4.size)
  have hbu0 : Below w.heap.size w u0 := hb4.trans (hbu.mono hb4.size)
  have o4u := o4.below hbu
  have y0 := blk_cell h5 0
  have y1 := blk_cell h5 1
  have y2 := blk_cell h5 2
  have y3 := blk_cell h5 3
  have y4 := blk_cell h5 4
  have y5 := blk_cell h5 5
  have y6 := blk_cell h5 6
  have y7 := blk_cell h5 7
  have y8 := blk_cell h5 8
  have y9 := blk_cell h5 9
  have y10 := blk_cell h5 10
  have y11 := blk_cell h5 11
  simp at y0 y1 y2 y3 y4 y5 y6 y7 y8 y9 y10 y11
  have hlt5 := blk_lt h5
  have cO : ∀ b : Bool, Hid (∀ w', KQ u0.heap.size u0 w' → Calls Tryz.prog 28 #[.agg #[.int .i64 x.1, .int .u32 x.2, .int .u32 v.d0, .int .u32 v.d1, .int .u32 v.d2, .int .u32 v.d3, .int .u32 v.d4, .int .u32 v.d5, .int .u32 v.d6, .int .u32 v.d7, .bool t, .slice A4 n c4], .slice B m kc, .bool b] w'
      fun e w'' => ∃ A' n' c' qs, e = .returned (.agg #[.int .i64 x.1, .int .u32 x.2, .int .u32 v.d0, .int .u32 v.d1, .int .u32 v.d2, .int .u32 v.d3, .int .u32 v.d4, .int .u32 v.d5, .int .u32 v.d6, .int .u32 v.d7, .bool (leaveT t (ps.map Pe.core) xs b), .slice A' n' c']) ∧ OwE 101 w'' w'.heap.size A' n' c' qs ∧ qs.map Pe.core = leavePs (ps.map Pe.core) xs b ∧ Below w'.heap.size w' w'') := fun b => Lib.hid (fun w' h => by
    have h1 := wonly_any x v t A4 n c4 qs4 B m kc xs b w' (o4u.below h.1).rd (by omega) (hok4.out w' A4 n qs4 (o4u.below h.1).rd hq4) (hBr.out w' (hbu0.trans (h.1.mono hbu0.size))) hm
    rw [hq4] at h1
    exact h1)
  have cO1 := cO true
  have cO2 := cO false
  generalize htt1 : leaveT t (ps.map Pe.core) xs true = tt1 at *
  generalize htt2 : leaveT t (ps.map Pe.core) xs false = tt2 at *
  replace htt1 := Lib.hid htt1
  replace htt2 := Lib.hid htt2
  go_cut [6, 7] (fun s6 s7 wx => ∃ g6 g7 A1 n1 c1 qs1 A2 n2 c2 qs2, s6 = .pointer (some ⟨g6, 0, none⟩) ∧ s7 = .pointer (some ⟨g7, 0, none⟩) ∧ wx.heap[g6]? = some (.cells #[.int .i64 x.1, .int .u32 x.2, .int .u32 v.d0, .int .u32 v.d1, .int .u32 v.d2, .int .u32 v.d3, .int .u32 v.d4, .int .u32 v.d5, .int .u32 v.d6, .int .u32 v.d7, .bool tt1, .slice A1 n1 c1] 36 (0, 0)) ∧ wx.heap[g7]? = some (.cells #[.int .i64 x.1, .int .u32 x.2, .int .u32 v.d0, .int .u32 v.d1, .int .u32 v.d2, .int .u32 v.d3, .int .u32 v.d4, .int .u32 v.d5, .int .u32 v.d6, .int .u32 v.d7, .bool tt2, .slice A2 n2 c2] 36 (0, 0)) ∧
    OwE 101 wx u0.heap.size A1 n1 c1 qs1 ∧ OwE 101 wx u0.heap.size A2 n2 c2 qs2 ∧ qs1.map Pe.core = leavePs (ps.map Pe.core) xs true ∧ qs2.map Pe.core = leavePs (ps.map Pe.core) xs false ∧ Below u0.heap.size u0 wx)
  case first =>
    refine wp_region_M (fun w' => KQ u0.heap.size u0 w') (fun _ => True) 99 (by kernel_rfl) (kq (Below.refl _ _).drew) trivial ?_
    intro hcl
    have hC : KQ u0.heap.size u0 u0.drew := kq (Below.refl _ _).drew
    have hE := trivial
    (refine wpM_take (i := 0) (v := ?_) rfl (by kernel_rfl) (by kernel_rfl) (by kernel_rfl) (by decide) (fun _ _ _ h => h) hcl hC (fun _ => hE) (Or.inl ⟨by rfl, ?_⟩) ?_; rotate_left; (· (intro w hSw; (try dsimp only at hSw); go_simp; (try with_reducible rfl))); clear hcl; intro hcl; (try simp only [Act.put, List.getElem_toArray, List.getElem_cons_zero, List.setIfInBounds_toArray, List.set_cons_zero, List.set_cons_succ]))
    (refine wpM_take (i := 1) (v := ?_) rfl (by kernel_rfl) (by kernel_rfl) (by kernel_rfl) (by decide) (fun _ _ _ h => h) hcl hC (fun _ => hE) (Or.inl ⟨by rfl, ?_⟩) ?_; rotate_left; (· (intro w hSw; (try dsimp only at hSw); go_simp; (try with_reducible rfl))); clear hcl; intro hcl; (try simp only [Act.put, List.getElem_toArray, List.getElem_cons_zero, List.getElem_cons_succ, List.setIfInBounds_toArray, List.set_cons_zero, List.set_cons_succ]))
    (refine wpM_take (i := 3) (v := ?_) rfl (by kernel_rfl) (by kernel_rfl) (by kernel_rfl) (by decide) (fun _ _ _ h => h) hcl hC (fun _ => hE) (Or.inl ⟨by rfl, ?_⟩) ?_; rotate_left; (· (intro w hSw; (try dsimp only at hSw); go_simp; (try with_reducible rfl))); clear hcl; intro hcl; (try simp only [Act.put, List.getElem_toArray, List.getElem_cons_zero, List.getElem_cons_succ, List.setIfInBounds_toArray, List.set_cons_zero, List.set_cons_succ]))
    (refine wpM_take (i := 4) (v := ?_) rfl (by kernel_rfl) (by kernel_rfl) (by kernel_rfl) (by decide) (fun _ _ _ h => h) hcl hC (fun _ => hE) (Or.inl ⟨by rfl, ?_⟩) ?_; rotate_left; (· (intro w hSw; (try dsimp only at hSw); go_simp; (try with_reducible rfl))); clear hcl; intro hcl; (try simp only [Act.put, List.getElem_toArray, List.getElem_cons_zero, List.getElem_cons_succ, List.setIfInBounds_toArray, List.set_cons_zero, List.set_cons_succ]))
    obtain ⟨ud, hud⟩ : ∃ ud, u0.drew = ud := ⟨_, rfl⟩
    rw [hud] at hC ⊢
    clear hud
    refine wpM_three (i := 2) (j := 6) (k := 7) rfl rfl rfl (by kernel_rfl) hcl (fun K hK => ?_) (fun K hK => ?_) (fun K hK => ?_)
    · go_simp
      refine (cO1.out _ hC).mono ?_
      rintro e v1 ⟨A1, n1, c1, qs1, rfl, o1, hq1, hb1⟩
      replace o1 := o1.base hC.1.size
      have hC' := kq_call hC (Nat.le_refl _) hb1
      refine hK.out _ _ hC' trivial ?_
      clear hK K
      clear hcl
      intro hcl
      (try simp only [Act.put, List.getElem_toArray, List.getElem_cons_zero, List.getElem_cons_succ, List.setIfInBounds_toArray, List.set_cons_zero, List.set_cons_succ])
      clear hC
      have hC := hC'
      clear hC'
      refine wpM_three (i := 5) (j := 6) (k := 7) rfl rfl rfl (by kernel_rfl) hcl (fun K hK => ?_) (fun K hK => ?_) (fun K hK => ?_)
      · go_simp
        refine (cO2.out _ hC).mono ?_
        rintro e v2 ⟨A2, n2, c2, qs2, rfl, o2, hq2, hb2⟩
        replace o2 := o2.base hC.1.size
        replace o1 := o1.below hb2
        have hC' := kq_call hC (Nat.le_refl _) hb2
        refine hK.out _ _ hC' trivial ?_
        clear hK K
        clear hcl
        intro hcl
        (try simp only [Act.put, List.getElem_toArray, List.getElem_cons_zero, List.getElem_cons_succ, List.setIfInBounds_toArray, List.set_cons_zero, List.set_cons_succ])
        clear hC
        have hC := hC'
        clear hC'
        refine wpM_two (i := 6) (j := 7) rfl rfl (by kernel_rfl) hcl (fun K hK => ?_) (fun K hK => ?_)
        · go_simp
          obtain ⟨ua6, hua6⟩ : ∃ ua6, v2.alloc (.cells #[.int .i64 0, .int .u32 0, .int .u32 0, .int .u32 0, .int .u32 0, .int .u32 0, .int .u32 0, .int .u32 0, .int .u32 0, .int .u32 0, .bool false, .slice none 0 0] 36) = ua6 := ⟨_, rfl⟩
          rw [hua6]
          have hB6 : Below v2.heap.size v2 ua6 := by rw [← hua6]; exact (Below.refl _ _).alloc (Nat.le_refl _) _
          have hx6 : ua6.heap[v2.heap.size]? = some (.cells #[.int .i64 0, .int .u32 0, .int .u32 0, .int .u32 0, .int .u32 0, .int .u32 0, .int .u32 0, .int .u32 0, .int .u32 0, .int .u32 0, .bool false, .slice none 0 0] 36 (0, 0)) := by rw [← hua6]; exact heap_at _ _ rfl
          have hC3 : KQ u0.heap.size u0 ua6 := kq (hC.1.trans (hB6.mono hC.1.size))
          replace o1 := o1.below hB6
          replace o2 := o2.below hB6
          generalize hgs : v2.heap.size = g6 at hx6 ⊢
          have hge6 : u0.heap.size ≤ g6 := by rw [← hgs]; exact hC.1.size
          clear hgs hB6 hua6
          refine hK.out _ _ hC3 trivial ?_
          clear hK K
          clear hcl
          intro hcl
          (try simp only [Act.put, List.getElem_toArray, List.getElem_cons_zero, List.getElem_cons_succ, List.setIfInBounds_toArray, List.set_cons_zero, List.set_cons_succ])
          clear hC
          have hC := hC3
          clear hC3
          refine wpM_only (i := 7) rfl (by kernel_rfl) hcl (fun K hK => ?_)
          go_simp
          obtain ⟨ua7, hua7⟩ : ∃ ua7, ua6.alloc (.cells #[.int .i64 0, .int .u32 0, .int .u32 0, .int .u32 0, .int .u32 0, .int .u32 0, .int .u32 0, .int .u32 0, .int .u32 0, .int .u32 0, .bool false, .slice none 0 0] 36) = ua7 := ⟨_, rfl⟩
          rw [hua7]
          have hB7 : Below ua6.heap.size ua6 ua7 := by rw [← hua7]; exact (Below.refl _ _).alloc (Nat.le_refl _) _
          have hx7 : ua7.heap[ua6.heap.size]? = some (.cells #[.int .i64 0, .int .u32 0, .int .u32 0, .int .u32 0, .int .u32 0, .int .u32 0, .int .u32 0, .int .u32 0, .int .u32 0, .int .u32 0, .bool false, .slice none 0 0] 36 (0, 0)) := by rw [← hua7]; exact heap_at _ _ rfl
          have hC3 : KQ u0.heap.size u0 ua7 := kq (hC.1.trans (hB7.mono hC.1.size))
          replace o1 := o1.below hB7
          replace o2 := o2.below hB7
          have hlt6 := blk_lt hx6
          replace hx6 := blk_below hx6 hB7
          generalize hgs : ua6.heap.size = g7 at hx7 ⊢
          have hge7 : u0.heap.size ≤ g7 := by rw [← hgs]; exact hC.1.size
          have hne : g6 ≠ g7 := by omega
          clear hlt6
          clear hgs hB7 hua7
          refine hK.out _ _ hC3 trivial ?_
          clear hK K
          clear hcl
          intro hcl
          (try simp only [Act.put, List.getElem_toArray, List.getElem_cons_zero, List.getElem_cons_succ, List.setIfInBounds_toArray, List.set_cons_zero, List.set_cons_succ])
          clear hC
          have hC := hC3
          clear hC3
          have hlx := blk_lt hx6
          have hfx := blk_frozen hx6
          have x0 := blk_cell hx6 0
          have x1 := blk_cell hx6 1
          have x2 := blk_cell hx6 2
          have x3 := blk_cell hx6 3
          have x4 := blk_cell hx6 4
          have x5 := blk_cell hx6 5
          have x6 := blk_cell hx6 6
          have x7 := blk_cell hx6 7
          have x8 := blk_cell hx6 8
          have x9 := blk_cell hx6 9
          have x10 := blk_cell hx6 10
          have x11 := blk_cell hx6 11
          simp at x0 x1 x2 x3 x4 x5 x6 x7 x8 x9 x10 x11
          have hC3 : KQ u0.heap.size u0 _ := kq (set12_keep (g := g6) hC.1 hge6 (.int .i64 x.1) (.int .u32 x.2) (.int .u32 v.d0) (.int .u32 v.d1) (.int .u32 v.d2) (.int .u32 v.d3) (.int .u32 v.d4) (.int .u32 v.d5) (.int .u32 v.d6) (.int .u32 v.d7) (.bool tt1) (.slice A1 n1 c1))
          have hX6 := heap12 hx6 (.int .i64 x.1) (.int .u32 x.2) (.int .u32 v.d0) (.int .u32 v.d1) (.int .u32 v.d2) (.int .u32 v.d3) (.int .u32 v.d4) (.int .u32 v.d5) (.int .u32 v.d6) (.int .u32 v.d7) (.bool tt1) (.slice A1 n1 c1)
          have hX7 := set12_other (g := g6) hne hx7 (.int .i64 x.1) (.int .u32 x.2) (.int .u32 v.d0) (.int .u32 v.d1) (.int .u32 v.d2) (.int .u32 v.d3) (.int .u32 v.d4) (.int .u32 v.d5) (.int .u32 v.d6) (.int .u32 v.d7) (.bool tt1) (.slice A1 n1 c1)
          have hO1 := set12_keepX o1 hx6 (.int .i64 x.1) (.int .u32 x.2) (.int .u32 v.d0) (.int .u32 v.d1) (.int .u32 v.d2) (.int .u32 v.d3) (.int .u32 v.d4) (.int .u32 v.d5) (.int .u32 v.d6) (.int .u32 v.d7) (.bool tt1) (.slice A1 n1 c1)
          have hO2 := set12_keepX o2 hx6 (.int .i64 x.1) (.int .u32 x.2) (.int .u32 v.d0) (.int .u32 v.d1) (.int .u32 v.d2) (.int .u32 v.d3) (.int .u32 v.d4) (.int .u32 v.d5) (.int .u32 v.d6) (.int .u32 v.d7) (.bool tt1) (.slice A1 n1 c1)
          refine wpM_only (i := 8) rfl (by kernel_rfl) hcl (fun K hK => ?_)
          go_simp
          generalize hws : World.setCell _ _ _ = ws at hC3 hX6 hX7 hO1 hO2 ⊢
          refine hK.out _ _ hC3 trivial ?_
          clear hK K hws
          clear hcl
          intro hcl
          (try simp only [Act.put, List.getElem_toArray, List.getElem_cons_zero, List.getElem_cons_succ, List.setIfInBounds_toArray, List.set_cons_zero, List.set_cons_succ])
          clear hC hlx hfx x0 x1 x2 x3 x4 x5 x6 x7 x8 x9 x10 x11 hx6 hx7 o1 o2
          have hC := hC3
          clear hC3
          have hlx := blk_lt hX7
          have hfx := blk_frozen hX7
          have x0 := blk_cell hX7 0
          have x1 := blk_cell hX7 1
          have x2 := blk_cell hX7 2
          have x3 := blk_cell hX7 3
          have x4 := blk_cell hX7 4
          have x5 := blk_cell hX7 5
          have x6 := blk_cell hX7 6
          have x7 := blk_cell hX7 7
          have x8 := blk_cell hX7 8
          have x9 := blk_cell hX7 9
          have x10 := blk_cell hX7 10
          have x11 := blk_cell hX7 11
          simp at x0 x1 x2 x3 x4 x5 x6 x7 x8 x9 x10 x11
          have hC3 : KQ u0.heap.size u0 _ := kq (set12_keep (g := g7) hC.1 hge7 (.int .i64 x.1) (.int .u32 x.2) (.int .u32 v.d0) (.int .u32 v.d1) (.int .u32 v.d2) (.int .u32 v.d3) (.int .u32 v.d4) (.int .u32 v.d5) (.int .u32 v.d6) (.int .u32 v.d7) (.bool tt2) (.slice A2 n2 c2))
          have hY7 := heap12 hX7 (.int .i64 x.1) (.int .u32 x.2) (.int .u32 v.d0) (.int .u32 v.d1) (.int .u32 v.d2) (.int .u32 v.d3) (.int .u32 v.d4) (.int .u32 v.d5) (.int .u32 v.d6) (.int .u32 v.d7) (.bool tt2) (.slice A2 n2 c2)
          have hY6 := set12_other (g := g7) hne.symm hX6 (.int .i64 x.1) (.int .u32 x.2) (.int .u32 v.d0) (.int .u32 v.d1) (.int .u32 v.d2) (.int .u32 v.d3) (.int .u32 v.d4) (.int .u32 v.d5) (.int .u32 v.d6) (.int .u32 v.d7) (.bool tt2) (.slice A2 n2 c2)
          have hP1 := set12_keepX hO1 hX7 (.int .i64 x.1) (.int .u32 x.2) (.int .u32 v.d0) (.int .u32 v.d1) (.int .u32 v.d2) (.int .u32 v.d3) (.int .u32 v.d4) (.int .u32 v.d5) (.int .u32 v.d6) (.int .u32 v.d7) (.bool tt2) (.slice A2 n2 c2)
          have hP2 := set12_keepX hO2 hX7 (.int .i64 x.1) (.int .u32 x.2) (.int .u32 v.d0) (.int .u32 v.d1) (.int .u32 v.d2) (.int .u32 v.d3) (.int .u32 v.d4) (.int .u32 v.d5) (.int .u32 v.d6) (.int .u32 v.d7) (.bool tt2) (.slice A2 n2 c2)
          refine wpM_only (i := 9) rfl (by kernel_rfl) hcl (fun K hK => ?_)
          go_simp
          generalize hws : World.setCell _ _ _ = ws2 at hC3 hY6 hY7 hP1 hP2 ⊢
          refine hK.out _ _ hC3 trivial ?_
          clear hK K hws
          clear hcl
          intro hcl
          refine wpM_done (by kernel_rfl) ?_
          clear hcl
          try simp only [List.getElem_toArray, List.getElem_cons_zero, List.getElem_cons_succ, List.setIfInBounds_toArray, List.set_cons_zero, List.set_cons_succ]
          go_wp2_with fail
          go_meet
          exact ⟨g6, g7, A1, n1, c1, qs1, A2, n2, c2, qs2, rfl, rfl, hY6, hY7, hP1, hP2, hq1, hq2, hC3.1⟩
        · go_simp
          obtain ⟨ua7, hua7⟩ : ∃ ua7, v2.alloc (.cells #[.int .i64 0, .int .u32 0, .int .u32 0, .int .u32 0, .int .u32 0, .int .u32 0, .int .u32 0, .int .u32 0, .int .u32 0, .int .u32 0, .bool false, .slice none 0 0] 36) = ua7 := ⟨_, rfl⟩
          rw [hua7]
          have hB7 : Below v2.heap.size v2 ua7 := by rw [← hua7]; exact (Below.refl _ _).alloc (Nat.le_refl _) _
          have hx7 : ua7.heap[v2.heap.size]? = some (.cells #[.int .i64 0, .int .u32 0, .int .u32 0, .int .u32 0, .int .u32 0, .int .u32 0, .int .u32 0, .int .u32 0, .int .u32 0, .int .u32 0, .bool false, .slice none 0 0] 36 (0, 0)) := by rw [← hua7]; exact heap_at _ _ rfl
          have hC3 : KQ u0.heap.size u0 ua7 := kq (hC.1.trans (hB7.mono hC.1.size))
          replace o1 := o1.below hB7
          replace o2 := o2.below hB7
          generalize hgs : v2.heap.size = g7 at hx7 ⊢
          have hge7 : u0.heap.size ≤ g7 := by rw [← hgs]; exact hC.1.size
          clear hgs hB7 hua7
          refine hK.out _ _ hC3 trivial ?_
          clear hK K
          clear hcl
          intro hcl
          (try simp only [Act.put, List.getElem_toArray, List.getElem_cons_zero, List.getElem_cons_succ, List.setIfInBounds_toArray, List.set_cons_zero, List.set_cons_succ])
          clear hC
          have hC := hC3
          clear hC3
          refine wpM_only (i := 6) rfl (by kernel_rfl) hcl (fun K hK => ?_)
          go_simp
          obtain ⟨ua6, hua6⟩ : ∃ ua6, ua7.alloc (.cells #[.int .i64 0, .int .u32 0, .int .u32 0, .int .u32 0, .int .u32 0, .int .u32 0, .int .u32 0, .int .u32 0, .int .u32 0, .int .u32 0, .bool false, .slice none 0 0] 36) = ua6 := ⟨_, rfl⟩
          rw [hua6]
          have hB6 : Below ua7.heap.size ua7 ua6 := by rw [← hua6]; exact (Below.refl _ _).alloc (Nat.le_refl _) _
          have hx6 : ua6.heap[ua7.heap.size]? = some (.cells #[.int .i64 0, .int .u32 0, .int .u32 0, .int .u32 0, .int .u32 0, .int .u32 0, .int .u32 0, .int .u32 0, .int .u32 0, .int .u32 0, .bool false, .slice none 0 0] 36 (0, 0)) := by rw [← hua6]; exact heap_at _ _ rfl
          have hC3 : KQ u0.heap.size u0 ua6 := kq (hC.1.trans (hB6.mono hC.1.size))
          replace o1 := o1.below hB6
          replace o2 := o2.below hB6
          have hlt7 := blk_lt hx7
          replace hx7 := blk_below hx7 hB6
          generalize hgs : ua7.heap.size = g6 at hx6 ⊢
          have hge6 : u0.heap.size ≤ g6 := by rw [← hgs]; exact hC.1.size
          have hne : g6 ≠ g7 := by omega
          clear hlt7
          clear hgs hB6 hua6
          refine hK.out _ _ hC3 trivial ?_
          clear hK K
          clear hcl
          intro hcl
          (try simp only [Act.put, List.getElem_toArray, List.getElem_cons_zero, List.getElem_cons_succ, List.setIfInBounds_toArray, List.set_cons_zero, List.set_cons_succ])
          clear hC
          have hC := hC3
          clear hC3
          have hlx := blk_lt hx6
          have hfx := blk_frozen hx6
          have x0 := blk_cell hx6 0
          have x1 := blk_cell hx6 1
          have x2 := blk_cell hx6 2
          have x3 := blk_cell hx6 3
          have x4 := blk_cell hx6 4
          have x5 := blk_cell hx6 5
          have x6 := blk_cell hx6 6
          have x7 := blk_cell hx6 7
          have x8 := blk_cell hx6 8
          have x9 := blk_cell hx6 9
          have x10 := blk_cell hx6 10
          have x11 := blk_cell hx6 11
          simp at x0 x1 x2 x3 x4 x5 x6 x7 x8 x9 x10 x11
          have hC3 : KQ u0.heap.size u0 _ := kq (set12_keep (g := g6) hC.1 hge6 (.int .i64 x.1) (.int .u32 x.2) (.int .u32 v.d0) (.int .u32 v.d1) (.int .u32 v.d2) (.int .u32 v.d3) (.int .u32 v.d4) (.int .u32 v.d5) (.int .u32 v.d6) (.int .u32 v.d7) (.bool tt1) (.slice A1 n1 c1))
          have hX6 := heap12 hx6 (.int .i64 x.1) (.int .u32 x.2) (.int .u32 v.d0) (.int .u32 v.d1) (.int .u32 v.d2) (.int .u32 v.d3) (.int .u32 v.d4) (.int .u32 v.d5) (.int .u32 v.d6) (.int .u32 v.d7) (.bool tt1) (.slice A1 n1 c1)
          have hX7 := set12_other (g := g6) hne hx7 (.int .i64 x.1) (.int .u32 x.2) (.int .u32 v.d0) (.int .u32 v.d1) (.int .u32 v.d2) (.int .u32 v.d3) (.int .u32 v.d4) (.int .u32 v.d5) (.int .u32 v.d6) (.int .u32 v.d7) (.bool tt1) (.slice A1 n1 c1)
          have hO1 := set12_keepX o1 hx6 (.int .i64 x.1) (.int .u32 x.2) (.int .u32 v.d0) (.int .u32 v.d1) (.int .u32 v.d2) (.int .u32 v.d3) (.int .u32 v.d4) (.int .u32 v.d5) (.int .u32 v.d6) (.int .u32 v.d7) (.bool tt1) (.slice A1 n1 c1)
          have hO2 := set12_keepX o2 hx6 (.int .i64 x.1) (.int .u32 x.2) (.int .u32 v.d0) (.int .u32 v.d1) (.int .u32 v.d2) (.int .u32 v.d3) (.int .u32 v.d4) (.int .u32 v.d5) (.int .u32 v.d6) (.int .u32 v.d7) (.bool tt1) (.slice A1 n1 c1)
          refine wpM_only (i := 8) rfl (by kernel_rfl) hcl (fun K hK => ?_)
          go_simp
          generalize hws : World.setCell _ _ _ = ws at hC3 hX6 hX7 hO1 hO2 ⊢
          refine hK.out _ _ hC3 trivial ?_
          clear hK K hws
          clear hcl
          intro hcl
          (try simp only [Act.put, List.getElem_toArray, List.getElem_cons_zero, List.getElem_cons_succ, List.setIfInBounds_toArray, List.set_cons_zero, List.set_cons_succ])
          clear hC hlx hfx x0 x1 x2 x3 x4 x5 x6 x7 x8 x9 x10 x11 hx6 hx7 o1 o2
          have hC := hC3
          clear hC3
          have hlx := blk_lt hX7
          have hfx := blk_frozen hX7
          have x0 := blk_cell hX7 0
          have x1 := blk_cell hX7 1
          have x2 := blk_cell hX7 2
          have x3 := blk_cell hX7 3
          have x4 := blk_cell hX7 4
          have x5 := blk_cell hX7 5
          have x6 := blk_cell hX7 6
          have x7 := blk_cell hX7 7
          have x8 := blk_cell hX7 8
          have x9 := blk_cell hX7 9
          have x10 := blk_cell hX7 10
          have x11 := blk_cell hX7 11
          simp at x0 x1 x2 x3 x4 x5 x6 x7 x8 x9 x10 x11
          have hC3 : KQ u0.heap.size u0 _ := kq (set12_keep (g := g7) hC.1 hge7 (.int .i64 x.1) (.int .u32 x.2) (.int .u32 v.d0) (.int .u32 v.d1) (.int .u32 v.d2) (.int .u32 v.d3) (.int .u32 v.d4) (.int .u32 v.d5) (.int .u32 v.d6) (.int .u32 v.d7) (.bool tt2) (.slice A2 n2 c2))
          have hY7 := heap12 hX7 (.int .i64 x.1) (.int .u32 x.2) (.int .u32 v.d0) (.int .u32 v.d1) (.int .u32 v.d2) (.int .u32 v.d3) (.int .u32 v.d4) (.int .u32 v.d5) (.int .u32 v.d6) (.int .u32 v.d7) (.bool tt2) (.slice A2 n2 c2)
          have hY6 := set12_other (g := g7) hne.symm hX6 (.int .i64 x.1) (.int .u32 x.2) (.int .u32 v.d0) (.int .u32 v.d1) (.int .u32 v.d2) (.int .u32 v.d3) (.int .u32 v.d4) (.int .u32 v.d5) (.int .u32 v.d6) (.int .u32 v.d7) (.bool tt2) (.slice A2 n2 c2)
          have hP1 := set12_keepX hO1 hX7 (.int .i64 x.1) (.int .u32 x.2) (.int .u32 v.d0) (.int .u32 v.d1) (.int .u32 v.d2) (.int .u32 v.d3) (.int .u32 v.d4) (.int .u32 v.d5) (.int .u32 v.d6) (.int .u32 v.d7) (.bool tt2) (.slice A2 n2 c2)
          have hP2 := set12_keepX hO2 hX7 (.int .i64 x.1) (.int .u32 x.2) (.int .u32 v.d0) (.int .u32 v.d1) (.int .u32 v.d2) (.int .u32 v.d3) (.int .u32 v.d4) (.int .u32 v.d5) (.int .u32 v.d6) (.int .u32 v.d7) (.bool tt2) (.slice A2 n2 c2)
          refine wpM_only (i := 9) rfl (by kernel_rfl) hcl (fun K hK => ?_)
          go_simp
          generalize hws : World.setCell _ _ _ = ws2 at hC3 hY6 hY7 hP1 hP2 ⊢
          refine hK.out _ _ hC3 trivial ?_
          clear hK K hws
          clear hcl
          intro hcl
          refine wpM_done (by kernel_rfl) ?_
          clear hcl
          try simp only [List.getElem_toArray, List.getElem_cons_zero, List.getElem_cons_succ, List.setIfInBounds_toArray, List.set_cons_zero, List.set_cons_succ]
          go_wp2_with fail
          go_meet
          exact ⟨g6, g7, A1, n1, c1, qs1, A2, n2, c2, qs2, rfl, rfl, hY6, hY7, hP1, hP2, hq1, hq2, hC3.1⟩
      · go_simp
        obtain ⟨ua6, hua6⟩ : ∃ ua6, v1.alloc (.cells #[.int .i64 0, .int .u32 0, .int .u32 0, .int .u32 0, .int .u32 0, .int .u32 0, .int .u32 0, .int .u32 0, .int .u32 0, .int .u32 0, .bool false, .slice none 0 0] 36) = ua6 := ⟨_, rfl⟩
        rw [hua6]
        have hB6 : Below v1.heap.size v1 ua6 := by rw [← hua6]; exact (Below.refl _ _).alloc (Nat.le_refl _) _
        have hx6 : ua6.heap[v1.heap.size]? = some (.cells #[.int .i64 0, .int .u32 0, .int .u32 0, .int .u32 0, .int .u32 0, .int .u32 0, .int .u32 0, .int .u32 0, .int .u32 0, .int .u32 0, .bool false, .slice none 0 0] 36 (0, 0)) := by rw [← hua6]; exact heap_at _ _ rfl
        have hC3 : KQ u0.heap.size u0 ua6 := kq (hC.1.trans (hB6.mono hC.1.size))
        replace o1 := o1.below hB6
        generalize hgs : v1.heap.size = g6 at hx6 ⊢
        have hge6 : u0.heap.size ≤ g6 := by rw [← hgs]; exact hC.1.size
        clear hgs hB6 hua6
        refine hK.out _ _ hC3 trivial ?_
        clear hK K
        clear hcl
        intro hcl
        (try simp only [Act.put, List.getElem_toArray, List.getElem_cons_zero, List.getElem_cons_succ, List.setIfInBounds_toArray, List.set_cons_zero, List.set_cons_succ])
        clear hC
        have hC := hC3
        clear hC3
        refine wpM_two (i := 5) (j := 7) rfl rfl (by kernel_rfl) hcl (fun K hK => ?_) (fun K hK => ?_)
        · go_simp
          refine (cO2.out _ hC).mono ?_
          rintro e v2 ⟨A2, n2, c2, qs2, rfl, o2, hq2, hb2⟩
          replace o2 := o2.base hC.1.size
          replace o1 := o1.below hb2
          replace hx6 := blk_below hx6 hb2
          have hC' := kq_call hC (Nat.le_refl _) hb2
          refine hK.out _ _ hC' trivial ?_
          clear hK K
          clear hcl
          intro hcl
          (try simp only [Act.put, List.getElem_toArray, List.getElem_cons_zero, List.getElem_cons_succ, List.setIfInBounds_toArray, List.set_cons_zero, List.set_cons_succ])
          clear hC
          have hC := hC'
          clear hC'
          refine wpM_only (i := 7) rfl (by kernel_rfl) hcl (fun K hK => ?_)
          go_simp
          obtain ⟨ua7, hua7⟩ : ∃ ua7, v2.alloc (.cells #[.int .i64 0, .int .u32 0, .int .u32 0, .int .u32 0, .int .u32 0, .int .u32 0, .int .u32 0, .int .u32 0, .int .u32 0, .int .u32 0, .bool false, .slice none 0 0] 36) = ua7 := ⟨_, rfl⟩
          rw [hua7]
          have hB7 : Below v2.heap.size v2 ua7 := by rw [← hua7]; exact (Below.refl _ _).alloc (Nat.le_refl _) _
          have hx7 : ua7.heap[v2.heap.size]? = some (.cells #[.int .i64 0, .int .u32 0, .int .u32 0, .int .u32 0, .int .u32 0, .int .u32 0, .int .u32 0, .int .u32 0, .int .u32 0, .int .u32 0, .bool false, .slice none 0 0] 36 (0, 0)) := by rw [← hua7]; exact heap_at _ _ rfl
          have hC3 : KQ u0.heap.size u0 ua7 := kq (hC.1.trans (hB7.mono hC.1.size))
          replace o1 := o1.below hB7
          replace o2 := o2.below hB7
          have hlt6 := blk_lt hx6
          replace hx6 := blk_below hx6 hB7
          generalize hgs : v2.heap.size = g7 at hx7 ⊢
          have hge7 : u0.heap.size ≤ g7 := by rw [← hgs]; exact hC.1.size
          have hne : g6 ≠ g7 := by omega
          clear hlt6
          clear hgs hB7 hua7
          refine hK.out _ _ hC3 trivial ?_
          clear hK K
          clear hcl
          intro hcl
          (try simp only [Act.put, List.getElem_toArray, List.getElem_cons_zero, List.getElem_cons_succ, List.setIfInBounds_toArray, List.set_cons_zero, List.set_cons_succ])
          clear hC
          have hC := hC3
          clear hC3
          have hlx := blk_lt hx6
          have hfx := blk_frozen hx6
          have x0 := blk_cell hx6 0
          have x1 := blk_cell hx6 1
          have x2 := blk_cell hx6 2
          have x3 := blk_cell hx6 3
          have x4 := blk_cell hx6 4
          have x5 := blk_cell hx6 5
          have x6 := blk_cell hx6 6
          have x7 := blk_cell hx6 7
          have x8 := blk_cell hx6 8
          have x9 := blk_cell hx6 9
          have x10 := blk_cell hx6 10
          have x11 := blk_cell hx6 11
          simp at x0 x1 x2 x3 x4 x5 x6 x7 x8 x9 x10 x11
          have hC3 : KQ u0.heap.size u0 _ := kq (set12_keep (g := g6) hC.1 hge6 (.int .i64 x.1) (.int .u32 x.2) (.int .u32 v.d0) (.int .u32 v.d1) (.int .u32 v.d2) (.int .u32 v.d3) (.int .u32 v.d4) (.int .u32 v.d5) (.int .u32 v.d6) (.int .u32 v.d7) (.bool tt1) (.slice A1 n1 c1))
          have hX6 := heap12 hx6 (.int .i64 x.1) (.int .u32 x.2) (.int .u32 v.d0) (.int .u32 v.d1) (.int .u32 v.d2) (.int .u32 v.d3) (.int .u32 v.d4) (.int .u32 v.d5) (.int .u32 v.d6) (.int .u32 v.d7) (.bool tt1) (.slice A1 n1 c1)
          have hX7 := set12_other (g := g6) hne hx7 (.int .i64 x.1) (.int .u32 x.2) (.int .u32 v.d0) (.int .u32 v.d1) (.int .u32 v.d2) (.int .u32 v.d3) (.int .u32 v.d4) (.int .u32 v.d5) (.int .u32 v.d6) (.int .u32 v.d7) (.bool tt1) (.slice A1 n1 c1)
          have hO1 := set12_keepX o1 hx6 (.int .i64 x.1) (.int .u32 x.2) (.int .u32 v.d0) (.int .u32 v.d1) (.int .u32 v.d2) (.int .u32 v.d3) (.int .u32 v.d4) (.int .u32 v.d5) (.int .u32 v.d6) (.int .u32 v.d7) (.bool tt1) (.slice A1 n1 c1)
          have hO2 := set12_keepX o2 hx6 (.int .i64 x.1) (.int .u32 x.2) (.int .u32 v.d0) (.int .u32 v.d1) (.int .u32 v.d2) (.int .u32 v.d3) (.int .u32 v.d4) (.int .u32 v.d5) (.int .u32 v.d6) (.int .u32 v.d7) (.bool tt1) (.slice A1 n1 c1)
          refine wpM_only (i := 8) rfl (by kernel_rfl) hcl (fun K hK => ?_)
          go_simp
          generalize hws : World.setCell _ _ _ = ws at hC3 hX6 hX7 hO1 hO2 ⊢
          refine hK.out _ _ hC3 trivial ?_
          clear hK K hws
          clear hcl
          intro hcl
          (try simp only [Act.put, List.getElem_toArray, List.getElem_cons_zero, List.getElem_cons_succ, List.setIfInBounds_toArray, List.set_cons_zero, List.set_cons_succ])
          clear hC hlx hfx x0 x1 x2 x3 x4 x5 x6 x7 x8 x9 x10 x11 hx6 hx7 o1 o2
          have hC := hC3
          clear hC3
          have hlx := blk_lt hX7
          have hfx := blk_frozen hX7
          have x0 := blk_cell hX7 0
          have x1 := blk_cell hX7 1
          have x2 := blk_cell hX7 2
          have x3 := blk_cell hX7 3
          have x4 := blk_cell hX7 4
          have x5 := blk_cell hX7 5
          have x6 := blk_cell hX7 6
          have x7 := blk_cell hX7 7
          have x8 := blk_cell hX7 8
          have x9 := blk_cell hX7 9
          have x10 := blk_cell hX7 10
          have x11 := blk_cell hX7 11
          simp at x0 x1 x2 x3 x4 x5 x6 x7 x8 x9 x10 x11
          have hC3 : KQ u0.heap.size u0 _ := kq (set12_keep (g := g7) hC.1 hge7 (.int .i64 x.1) (.int .u32 x.2) (.int .u32 v.d0) (.int .u32 v.d1) (.int .u32 v.d2) (.int .u32 v.d3) (.int .u32 v.d4) (.int .u32 v.d5) (.int .u32 v.d6) (.int .u32 v.d7) (.bool tt2) (.slice A2 n2 c2))
          have hY7 := heap12 hX7 (.int .i64 x.1) (.int .u32 x.2) (.int .u32 v.d0) (.int .u32 v.d1) (.int .u32 v.d2) (.int .u32 v.d3) (.int .u32 v.d4) (.int .u32 v.d5) (.int .u32 v.d6) (.int .u32 v.d7) (.bool tt2) (.slice A2 n2 c2)
          have hY6 := set12_other (g := g7) hne.symm hX6 (.int .i64 x.1) (.int .u32 x.2) (.int .u32 v.d0) (.int .u32 v.d1) (.int .u32 v.d2) (.int .u32 v.d3) (.int .u32 v.d4) (.int .u32 v.d5) (.int .u32 v.d6) (.int .u32 v.d7) (.bool tt2) (.slice A2 n2 c2)
          have hP1 := set12_keepX hO1 hX7 (.int .i64 x.1) (.int .u32 x.2) (.int .u32 v.d0) (.int .u32 v.d1) (.int .u32 v.d2) (.int .u32 v.d3) (.int .u32 v.d4) (.int .u32 v.d5) (.int .u32 v.d6) (.int .u32 v.d7) (.bool tt2) (.slice A2 n2 c2)
          have hP2 := set12_keepX hO2 hX7 (.int .i64 x.1) (.int .u32 x.2) (.int .u32 v.d0) (.int .u32 v.d1) (.int .u32 v.d2) (.int .u32 v.d3) (.int .u32 v.d4) (.int .u32 v.d5) (.int .u32 v.d6) (.int .u32 v.d7) (.bool tt2) (.slice A2 n2 c2)
          refine wpM_only (i := 9) rfl (by kernel_rfl) hcl (fun K hK => ?_)
          go_simp
          generalize hws : World.setCell _ _ _ = ws2 at hC3 hY6 hY7 hP1 hP2 ⊢
          refine hK.out _ _ hC3 trivial ?_
          clear hK K hws
          clear hcl
          intro hcl
          refine wpM_done (by kernel_rfl) ?_
          clear hcl
          try simp only [List.getElem_toArray, List.getElem_cons_zero, List.getElem_cons_succ, List.setIfInBounds_toArray, List.set_cons_zero, List.set_cons_succ]
          go_wp2_with fail
          go_meet
          exact ⟨g6, g7, A1, n1, c1, qs1, A2, n2, c2, qs2, rfl, rfl, hY6, hY7, hP1, hP2, hq1, hq2, hC3.1⟩
        · go_simp
          obtain ⟨ua7, hua7⟩ : ∃ ua7, ua6.alloc (.cells #[.int .i64 0, .int .u32 0, .int .u32 0, .int .u32 0, .int .u32 0, .int .u32 0, .int .u32 0, .int .u32 0, .int .u32 0, .int .u32 0, .bool false, .slice none 0 0] 36) = ua7 := ⟨_, rfl⟩
          rw [hua7]
          have hB7 : Below ua6.heap.size ua6 ua7 := by rw [← hua7]; exact (Below.refl _ _).alloc (Nat.le_refl _) _
          have hx7 : ua7.heap[ua6.heap.size]? = some (.cells #[.int .i64 0, .int .u32 0, .int .u32 0, .int .u32 0, .int .u32 0, .int .u32 0, .int .u32 0, .int .u32 0, .int .u32 0, .int .u32 0, .bool false, .slice none 0 0] 36 (0, 0)) := by rw [← hua7]; exact heap_at _ _ rfl
          have hC3 : KQ u0.heap.size u0 ua7 := kq (hC.1.trans (hB7.mono hC.1.size))
          replace o1 := o1.below hB7
          have hlt6 := blk_lt hx6
          replace hx6 := blk_below hx6 hB7
          generalize hgs : ua6.heap.size = g7 at hx7 ⊢
          have hge7 : u0.heap.size ≤ g7 := by rw [← hgs]; exact hC.1.size
          have hne : g6 ≠ g7 := by omega
          clear hlt6
          clear hgs hB7 hua7
          refine hK.out _ _ hC3 trivial ?_
          clear hK K
          clear hcl
          intro hcl
          (try simp only [Act.put, List.getElem_toArray, List.getElem_cons_zero, List.getElem_cons_succ, List.setIfInBounds_toArray, List.set_cons_zero, List.set_cons_succ])
          clear hC
          have hC := hC3
          clear hC3
          refine wpM_only (i := 5) rfl (by kernel_rfl) hcl (fun K hK => ?_)
          go_simp
          refine (cO2.out _ hC).mono ?_
          rintro e v2 ⟨A2, n2, c2, qs2, rfl, o2, hq2, hb2⟩
          replace o2 := o2.base hC.1.size
          replace o1 := o1.below hb2
          replace hx6 := blk_below hx6 hb2
          replace hx7 := blk_below hx7 hb2
          have hC' := kq_call hC (Nat.le_refl _) hb2
          refine hK.out _ _ hC' trivial ?_
          clear hK K
          clear hcl
          intro hcl
          (try simp only [Act.put, List.getElem_toArray, List.getElem_cons_zero, List.getElem_cons_succ, List.setIfInBounds_toArray, List.set_cons_zero, List.set_cons_succ])
          clear hC
          have hC := hC'
          clear hC'
          have hlx := blk_lt hx6
          have hfx := blk_frozen hx6
          have x0 := blk_cell hx6 0
          have x1 := blk_cell hx6 1
          have x2 := blk_cell hx6 2
          have x3 := blk_cell hx6 3
          have x4 := blk_cell hx6 4
          have x5 := blk_cell hx6 5
          have x6 := blk_cell hx6 6
          have x7 := blk_cell hx6 7
          have x8 := blk_cell hx6 8
          have x9 := blk_cell hx6 9
          have x10 := blk_cell hx6 10
          have x11 := blk_cell hx6 11
          simp at x0 x1 x2 x3 x4 x5 x6 x7 x8 x9 x10 x11
          have hC3 : KQ u0.heap.size u0 _ := kq (set12_keep (g := g6) hC.1 hge6 (.int .i64 x.1) (.int .u32 x.2) (.int .u32 v.d0) (.int .u32 v.d1) (.int .u32 v.d2) (.int .u32 v.d3) (.int .u32 v.d4) (.int .u32 v.d5) (.int .u32 v.d6) (.int .u32 v.d7) (.bool tt1) (.slice A1 n1 c1))
          have hX6 := heap12 hx6 (.int .i64 x.1) (.int .u32 x.2) (.int .u32 v.d0) (.int .u32 v.d1) (.int .u32 v.d2) (.int .u32 v.d3) (.int .u32 v.d4) (.int .u32 v.d5) (.int .u32 v.d6) (.int .u32 v.d7) (.bool tt1) (.slice A1 n1 c1)
          have hX7 := set12_other (g := g6) hne hx7 (.int .i64 x.1) (.int .u32 x.2) (.int .u32 v.d0) (.int .u32 v.d1) (.int .u32 v.d2) (.int .u32 v.d3) (.int .u32 v.d4) (.int .u32 v.d5) (.int .u32 v.d6) (.int .u32 v.d7) (.bool tt1) (.slice A1 n1 c1)
          have hO1 := set12_keepX o1 hx6 (.int .i64 x.1) (.int .u32 x.2) (.int .u32 v.d0) (.int .u32 v.d1) (.int .u32 v.d2) (.int .u32 v.d3) (.int .u32 v.d4) (.int .u32 v.d5) (.int .u32 v.d6) (.int .u32 v.d7) (.bool tt1) (.slice A1 n1 c1)
          have hO2 := set12_keepX o2 hx6 (.int .i64 x.1) (.int .u32 x.2) (.int .u32 v.d0) (.int .u32 v.d1) (.int .u32 v.d2) (.int .u32 v.d3) (.int .u32 v.d4) (.int .u32 v.d5) (.int .u32 v.d6) (.int .u32 v.d7) (.bool tt1) (.slice A1 n1 c1)
          refine wpM_only (i := 8) rfl (by kernel_rfl) hcl (fun K hK => ?_)
          go_simp
          generalize hws : World.setCell _ _ _ = ws at hC3 hX6 hX7 hO1 hO2 ⊢
          refine hK.out _ _ hC3 trivial ?_
          clear hK K hws
          clear hcl
          intro hcl
          (try simp only [Act.put, List.getElem_toArray, List.getElem_cons_zero, List.getElem_cons_succ, List.setIfInBounds_toArray, List.set_cons_zero, List.set_cons_succ])
          clear hC hlx hfx x0 x1 x2 x3 x4 x5 x6 x7 x8 x9 x10 x11 hx6 hx7 o1 o2
          have hC := hC3
          clear hC3
          have hlx := blk_lt hX7
          have hfx := blk_frozen hX7
          have x0 := blk_cell hX7 0
          have x1 := blk_cell hX7 1
          have x2 := blk_cell hX7 2
          have x3 := blk_cell hX7 3
          have x4 := blk_cell hX7 4
          have x5 := blk_cell hX7 5
          have x6 := blk_cell hX7 6
          have x7 := blk_cell hX7 7
          have x8 := blk_cell hX7 8
          have x9 := blk_cell hX7 9
          have x10 := blk_cell hX7 10
          have x11 := blk_cell hX7 11
          simp at x0 x1 x2 x3 x4 x5 x6 x7 x8 x9 x10 x11
          have hC3 : KQ u0.heap.size u0 _ := kq (set12_keep (g := g7) hC.1 hge7 (.int .i64 x.1) (.int .u32 x.2) (.int .u32 v.d0) (.int .u32 v.d1) (.int .u32 v.d2) (.int .u32 v.d3) (.int .u32 v.d4) (.int .u32 v.d5) (.int .u32 v.d6) (.int .u32 v.d7) (.bool tt2) (.slice A2 n2 c2))
          have hY7 := heap12 hX7 (.int .i64 x.1) (.int .u32 x.2) (.int .u32 v.d0) (.int .u32 v.d1) (.int .u32 v.d2) (.int .u32 v.d3) (.int .u32 v.d4) (.int .u32 v.d5) (.int .u32 v.d6) (.int .u32 v.d7) (.bool tt2) (.slice A2 n2 c2)
          have hY6 := set12_other (g := g7) hne.symm hX6 (.int .i64 x.1) (.int .u32 x.2) (.int .u32 v.d0) (.int .u32 v.d1) (.int .u32 v.d2) (.int .u32 v.d3) (.int .u32 v.d4) (.int .u32 v.d5) (.int .u32 v.d6) (.int .u32 v.d7) (.bool tt2) (.slice A2 n2 c2)
          have hP1 := set12_keepX hO1 hX7 (.int .i64 x.1) (.int .u32 x.2) (.int .u32 v.d0) (.int .u32 v.d1) (.int .u32 v.d2) (.int .u32 v.d3) (.int .u32 v.d4) (.int .u32 v.d5) (.int .u32 v.d6) (.int .u32 v.d7) (.bool tt2) (.slice A2 n2 c2)
          have hP2 := set12_keepX hO2 hX7 (.int .i64 x.1) (.int .u32 x.2) (.int .u32 v.d0) (.int .u32 v.d1) (.int .u32 v.d2) (.int .u32 v.d3) (.int .u32 v.d4) (.int .u32 v.d5) (.int .u32 v.d6) (.int .u32 v.d7) (.bool tt2) (.slice A2 n2 c2)
          refine wpM_only (i := 9) rfl (by kernel_rfl) hcl (fun K hK => ?_)
          go_simp
          generalize hws : World.setCell _ _ _ = ws2 at hC3 hY6 hY7 hP1 hP2 ⊢
          refine hK.out _ _ hC3 trivial ?_
          clear hK K hws
          clear hcl
          intro hcl
          refine wpM_done (by kernel_rfl) ?_
          clear hcl
          try simp only [List.getElem_toArray, List.getElem_cons_zero, List.getElem_cons_succ, List.setIfInBounds_toArray, List.set_cons_zero, List.set_cons_succ]
          go_wp2_with fail
          go_meet
          exact ⟨g6, g7, A1, n1, c1, qs1, A2, n2, c2, qs2, rfl, rfl, hY6, hY7, hP1, hP2, hq1, hq2, hC3.1⟩
      · go_simp
        obtain ⟨ua7, hua7⟩ : ∃ ua7, v1.alloc (.cells #[.int .i64 0, .int .u32 0, .int .u32 0, .int .u32 0, .int .u32 0, .int .u32 0, .int .u32 0, .int .u32 0, .int .u32 0, .int .u32 0, .bool false, .slice none 0 0] 36) = ua7 := ⟨_, rfl⟩
        rw [hua7]
        have hB7 : Below v1.heap.size v1 ua7 := by rw [← hua7]; exact (Below.refl _ _).alloc (Nat.le_refl _) _
        have hx7 : ua7.heap[v1.heap.size]? = some (.cells #[.int .i64 0, .int .u32 0, .int .u32 0, .int .u32 0, .int .u32 0, .int .u32 0, .int .u32 0, .int .u32 0, .int .u32 0, .int .u32 0, .bool false, .slice none 0 0] 36 (0, 0)) := by rw [← hua7]; exact heap_at _ _ rfl
        have hC3 : KQ u0.heap.size u0 ua7 := kq (hC.1.trans (hB7.mono hC.1.size))
        replace o1 := o1.below hB7
        generalize hgs : v1.heap.size = g7 at hx7 ⊢
        have hge7 : u0.heap.size ≤ g7 := by rw [← hgs]; exact hC.1.size
        clear hgs hB7 hua7
        refine hK.out _ _ hC3 trivial ?_
        clear hK K
        clear hcl
        intro hcl
        (try simp only [Act.put, List.getElem_toArray, List.getElem_cons_zero, List.getElem_cons_succ, List.setIfInBounds_toArray, List.set_cons_zero, List.set_cons_succ])
        clear hC
        have hC := hC3
        clear hC3
        refine wpM_two (i := 5) (j := 6) rfl rfl (by kernel_rfl) hcl (fun K hK => ?_) (fun K hK => ?_)
        · go_simp
          refine (cO2.out _ hC).mono ?_
          rintro e v2 ⟨A2, n2, c2, qs2, rfl, o2, hq2, hb2⟩
          replace o2 := o2.base hC.1.size
          replace o1 := o1.below hb2
          replace hx7 := blk_below hx7 hb2
          have hC' := kq_call hC (Nat.le_refl _) hb2
          refine hK.out _ _ hC' trivial ?_
          clear hK K
          clear hcl
          intro hcl
          (try simp only [Act.put, List.getElem_toArray, List.getElem_cons_zero, List.getElem_cons_succ, List.setIfInBounds_toArray, List.set_cons_zero, List.set_cons_succ])
          clear hC
          have hC := hC'
          clear hC'
          refine wpM_only (i := 6) rfl (by kernel_rfl) hcl (fun K hK => ?_)
          go_simp
          obtain ⟨ua6, hua6⟩ : ∃ ua6, v2.alloc (.cells #[.int .i64 0, .int .u32 0, .int .u32 0, .int .u32 0, .int .u32 0, .int .u32 0, .int .u32 0, .int .u32 0, .int .u32 0, .int .u32 0, .bool false, .slice none 0 0] 36) = ua6 := ⟨_, rfl⟩
          rw [hua6]
          have hB6 : Below v2.heap.size v2 ua6 := by rw [← hua6]; exact (Below.refl _ _).alloc (Nat.le_refl _) _
          have hx6 : ua6.heap[v2.heap.size]? = some (.cells #[.int .i64 0, .int .u32 0, .int .u32 0, .int .u32 0, .int .u32 0, .int .u32 0, .int .u32 0, .int .u32 0, .int .u32 0, .int .u32 0, .bool false, .slice none 0 0] 36 (0, 0)) := by rw [← hua6]; exact heap_at _ _ rfl
          have hC3 : KQ u0.heap.size u0 ua6 := kq (hC.1.trans (hB6.mono hC.1.size))
          replace o1 := o1.below hB6
          replace o2 := o2.below hB6
          have hlt7 := blk_lt hx7
          replace hx7 := blk_below hx7 hB6
          generalize hgs : v2.heap.size = g6 at hx6 ⊢
          have hge6 : u0.heap.size ≤ g6 := by rw [← hgs]; exact hC.1.size
          have hne : g6 ≠ g7 := by omega
          clear hlt7
          clear hgs hB6 hua6
          refine hK.out _ _ hC3 trivial ?_
          clear hK K
          clear hcl
          intro hcl
          (try simp only [Act.put, List.getElem_toArray, List.getElem_cons_zero, List.getElem_cons_succ, List.setIfInBounds_toArray, List.set_cons_zero, List.set_cons_succ])
          clear hC
          have hC := hC3
          clear hC3
          have hlx := blk_lt hx6
          have hfx := blk_frozen hx6
          have x0 := blk_cell hx6 0
          have x1 := blk_cell hx6 1
          have x2 := blk_cell hx6 2
          have x3 := blk_cell hx6 3
          have x4 := blk_cell hx6 4
          have x5 := blk_cell hx6 5
          have x6 := blk_cell hx6 6
          have x7 := blk_cell hx6 7
          have x8 := blk_cell hx6 8
          have x9 := blk_cell hx6 9
          have x10 := blk_cell hx6 10
          have x11 := blk_cell hx6 11
          simp at x0 x1 x2 x3 x4 x5 x6 x7 x8 x9 x10 x11
          have hC3 : KQ u0.heap.size u0 _ := kq (set12_keep (g := g6) hC.1 hge6 (.int .i64 x.1) (.int .u32 x.2) (.int .u32 v.d0) (.int .u32 v.d1) (.int .u32 v.d2) (.int .u32 v.d3) (.int .u32 v.d4) (.int .u32 v.d5) (.int .u32 v.d6) (.int .u32 v.d7) (.bool tt1) (.slice A1 n1 c1))
          have hX6 := heap12 hx6 (.int .i64 x.1) (.int .u32 x.2) (.int .u32 v.d0) (.int .u32 v.d1) (.int .u32 v.d2) (.int .u32 v.d3) (.int .u32 v.d4) (.int .u32 v.d5) (.int .u32 v.d6) (.int .u32 v.d7) (.bool tt1) (.slice A1 n1 c1)
          have hX7 := set12_other (g := g6) hne hx7 (.int .i64 x.1) (.int .u32 x.2) (.int .u32 v.d0) (.int .u32 v.d1) (.int .u32 v.d2) (.int .u32 v.d3) (.int .u32 v.d4) (.int .u32 v.d5) (.int .u32 v.d6) (.int .u32 v.d7) (.bool tt1) (.slice A1 n1 c1)
          have hO1 := set12_keepX o1 hx6 (.int .i64 x.1) (.int .u32 x.2) (.int .u32 v.d0) (.int .u32 v.d1) (.int .u32 v.d2) (.int .u32 v.d3) (.int .u32 v.d4) (.int .u32 v.d5) (.int .u32 v.d6) (.int .u32 v.d7) (.bool tt1) (.slice A1 n1 c1)
          have hO2 := set12_keepX o2 hx6 (.int .i64 x.1) (.int .u32 x.2) (.int .u32 v.d0) (.int .u32 v.d1) (.int .u32 v.d2) (.int .u32 v.d3) (.int .u32 v.d4) (.int .u32 v.d5) (.int .u32 v.d6) (.int .u32 v.d7) (.bool tt1) (.slice A1 n1 c1)
          refine wpM_only (i := 8) rfl (by kernel_rfl) hcl (fun K hK => ?_)
          go_simp
          generalize hws : World.setCell _ _ _ = ws at hC3 hX6 hX7 hO1 hO2 ⊢
          refine hK.out _ _ hC3 trivial ?_
          clear hK K hws
          clear hcl
          intro hcl
          (try simp only [Act.put, List.getElem_toArray, List.getElem_cons_zero, List.getElem_cons_succ, List.setIfInBounds_toArray, List.set_cons_zero, List.set_cons_succ])
          clear hC hlx hfx x0 x1 x2 x3 x4 x5 x6 x7 x8 x9 x10 x11 hx6 hx7 o1 o2
          have hC := hC3
          clear hC3
          have hlx := blk_lt hX7
          have hfx := blk_frozen hX7
          have x0 := blk_cell hX7 0
          have x1 := blk_cell hX7 1
          have x2 := blk_cell hX7 2
          have x3 := blk_cell hX7 3
          have x4 := blk_cell hX7 4
          have x5 := blk_cell hX7 5
          have x6 := blk_cell hX7 6
          have x7 := blk_cell hX7 7
          have x8 := blk_cell hX7 8
          have x9 := blk_cell hX7 9
          have x10 := blk_cell hX7 10
          have x11 := blk_cell hX7 11
          simp at x0 x1 x2 x3 x4 x5 x6 x7 x8 x9 x10 x11
          have hC3 : KQ u0.heap.size u0 _ := kq (set12_keep (g := g7) hC.1 hge7 (.int .i64 x.1) (.int .u32 x.2) (.int .u32 v.d0) (.int .u32 v.d1) (.int .u32 v.d2) (.int .u32 v.d3) (.int .u32 v.d4) (.int .u32 v.d5) (.int .u32 v.d6) (.int .u32 v.d7) (.bool tt2) (.slice A2 n2 c2))
          have hY7 := heap12 hX7 (.int .i64 x.1) (.int .u32 x.2) (.int .u32 v.d0) (.int .u32 v.d1) (.int .u32 v.d2) (.int .u32 v.d3) (.int .u32 v.d4) (.int .u32 v.d5) (.int .u32 v.d6) (.int .u32 v.d7) (.bool tt2) (.slice A2 n2 c2)
          have hY6 := set12_other (g := g7) hne.symm hX6 (.int .i64 x.1) (.int .u32 x.2) (.int .u32 v.d0) (.int .u32 v.d1) (.int .u32 v.d2) (.int .u32 v.d3) (.int .u32 v.d4) (.int .u32 v.d5) (.int .u32 v.d6) (.int .u32 v.d7) (.bool tt2) (.slice A2 n2 c2)
          have hP1 := set12_keepX hO1 hX7 (.int .i64 x.1) (.int .u32 x.2) (.int .u32 v.d0) (.int .u32 v.d1) (.int .u32 v.d2) (.int .u32 v.d3) (.int .u32 v.d4) (.int .u32 v.d5) (.int .u32 v.d6) (.int .u32 v.d7) (.bool tt2) (.slice A2 n2 c2)
          have hP2 := set12_keepX hO2 hX7 (.int .i64 x.1) (.int .u32 x.2) (.int .u32 v.d0) (.int .u32 v.d1) (.int .u32 v.d2) (.int .u32 v.d3) (.int .u32 v.d4) (.int .u32 v.d5) (.int .u32 v.d6) (.int .u32 v.d7) (.bool tt2) (.slice A2 n2 c2)
          refine wpM_only (i := 9) rfl (by kernel_rfl) hcl (fun K hK => ?_)
          go_simp
          generalize hws : World.setCell _ _ _ = ws2 at hC3 hY6 hY7 hP1 hP2 ⊢
          refine hK.out _ _ hC3 trivial ?_
          clear hK K hws
          clear hcl
          intro hcl
          refine wpM_done (by kernel_rfl) ?_
          clear hcl
          try simp only [List.getElem_toArray, List.getElem_cons_zero, List.getElem_cons_succ, List.setIfInBounds_toArray, List.set_cons_zero, List.set_cons_succ]
          go_wp2_with fail
          go_meet
          exact ⟨g6, g7, A1, n1, c1, qs1, A2, n2, c2, qs2, rfl, rfl, hY6, hY7, hP1, hP2, hq1, hq2, hC3.1⟩
        · go_simp
          obtain ⟨ua6, hua6⟩ : ∃ ua6, ua7.alloc (.cells #[.int .i64 0, .int .u32 0, .int .u32 0, .int .u32 0, .int .u32 0, .int .u32 0, .int .u32 0, .int .u32 0, .int .u32 0, .int .u32 0, .bool false, .slice none 0 0] 36) = ua6 := ⟨_, rfl⟩
          rw [hua6]
          have hB6 : Below ua7.heap.size ua7 ua6 := by rw [← hua6]; exact (Below.refl _ _).alloc (Nat.le_refl _) _
          have hx6 : ua6.heap[ua7.heap.size]? = some (.cells #[.int .i64 0, .int .u32 0, .int .u32 0, .int .u32 0, .int .u32 0, .int .u32 0, .int .u32 0, .int .u32 0, .int .u32 0, .int .u32 0, .bool false, .slice none 0 0] 36 (0, 0)) := by rw [← hua6]; exact heap_at _ _ rfl
          have hC3 : KQ u0.heap.size u0 ua6 := kq (hC.1.trans (hB6.mono hC.1.size))
          replace o1 := o1.below hB6
          have hlt7 := blk_lt hx7
          replace hx7 := blk_below hx7 hB6
          generalize hgs : ua7.heap.size = g6 at hx6 ⊢
          have hge6 : u0.heap.size ≤ g6 := by rw [← hgs]; exact hC.1.size
          have hne : g6 ≠ g7 := by omega
          clear hlt7
          clear hgs hB6 hua6
          refine hK.out _ _ hC3 trivial ?_
          clear hK K
          clear hcl
          intro hcl
          (try simp only [Act.put, List.getElem_toArray, List.getElem_cons_zero, List.getElem_cons_succ, List.setIfInBounds_toArray, List.set_cons_zero, List.set_cons_succ])
          clear hC
          have hC := hC3
          clear hC3
          refine wpM_only (i := 5) rfl (by kernel_rfl) hcl (fun K hK => ?_)
          go_simp
          refine (cO2.out _ hC).mono ?_
          rintro e v2 ⟨A2, n2, c2, qs2, rfl, o2, hq2, hb2⟩
          replace o2 := o2.base hC.1.size
          replace o1 := o1.below hb2
          replace hx6 := blk_below hx6 hb2
          replace hx7 := blk_below hx7 hb2
          have hC' := kq_call hC (Nat.le_refl _) hb2
          refine hK.out _ _ hC' trivial ?_
          clear hK K
          clear hcl
          intro hcl
          (try simp only [Act.put, List.getElem_toArray, List.getElem_cons_zero, List.getElem_cons_succ, List.setIfInBounds_toArray, List.set_cons_zero, List.set_cons_succ])
          clear hC
          have hC := hC'
          clear hC'
          have hlx := blk_lt hx6
          have hfx := blk_frozen hx6
          have x0 := blk_cell hx6 0
          have x1 := blk_cell hx6 1
          have x2 := blk_cell hx6 2
          have x3 := blk_cell hx6 3
          have x4 := blk_cell hx6 4
          have x5 := blk_cell hx6 5
          have x6 := blk_cell hx6 6
          have x7 := blk_cell hx6 7
          have x8 := blk_cell hx6 8
          have x9 := blk_cell hx6 9
          have x10 := blk_cell hx6 10
          have x11 := blk_cell hx6 11
          simp at x0 x1 x2 x3 x4 x5 x6 x7 x8 x9 x10 x11
          have hC3 : KQ u0.heap.size u0 _ := kq (set12_keep (g := g6) hC.1 hge6 (.int .i64 x.1) (.int .u32 x.2) (.int .u32 v.d0) (.int .u32 v.d1) (.int .u32 v.d2) (.int .u32 v.d3) (.int .u32 v.d4) (.int .u32 v.d5) (.int .u32 v.d6) (.int .u32 v.d7) (.bool tt1) (.slice A1 n1 c1))
          have hX6 := heap12 hx6 (.int .i64 x.1) (.int .u32 x.2) (.int .u32 v.d0) (.int .u32 v.d1) (.int .u32 v.d2) (.int .u32 v.d3) (.int .u32 v.d4) (.int .u32 v.d5) (.int .u32 v.d6) (.int .u32 v.d7) (.bool tt1) (.slice A1 n1 c1)
          have hX7 := set12_other (g := g6) hne hx7 (.int .i64 x.1) (.int .u32 x.2) (.int .u32 v.d0) (.int .u32 v.d1) (.int .u32 v.d2) (.int .u32 v.d3) (.int .u32 v.d4) (.int .u32 v.d5) (.int .u32 v.d6) (.int .u32 v.d7) (.bool tt1) (.slice A1 n1 c1)
          have hO1 := set12_keepX o1 hx6 (.int .i64 x.1) (.int .u32 x.2) (.int .u32 v.d0) (.int .u32 v.d1) (.int .u32 v.d2) (.int .u32 v.d3) (.int .u32 v.d4) (.int .u32 v.d5) (.int .u32 v.d6) (.int .u32 v.d7) (.bool tt1) (.slice A1 n1 c1)
          have hO2 := set12_keepX o2 hx6 (.int .i64 x.1) (.int .u32 x.2) (.int .u32 v.d0) (.int .u32 v.d1) (.int .u32 v.d2) (.int .u32 v.d3) (.int .u32 v.d4) (.int .u32 v.d5) (.int .u32 v.d6) (.int .u32 v.d7) (.bool tt1) (.slice A1 n1 c1)
          refine wpM_only (i := 8) rfl (by kernel_rfl) hcl (fun K hK => ?_)
          go_simp
          generalize hws : World.setCell _ _ _ = ws at hC3 hX6 hX7 hO1 hO2 ⊢
          refine hK.out _ _ hC3 trivial ?_
          clear hK K hws
          clear hcl
          intro hcl
          (try simp only [Act.put, List.getElem_toArray, List.getElem_cons_zero, List.getElem_cons_succ, List.setIfInBounds_toArray, List.set_cons_zero, List.set_cons_succ])
          clear hC hlx hfx x0 x1 x2 x3 x4 x5 x6 x7 x8 x9 x10 x11 hx6 hx7 o1 o2
          have hC := hC3
          clear hC3
          have hlx := blk_lt hX7
          have hfx := blk_frozen hX7
          have x0 := blk_cell hX7 0
          have x1 := blk_cell hX7 1
          have x2 := blk_cell hX7 2
          have x3 := blk_cell hX7 3
          have x4 := blk_cell hX7 4
          have x5 := blk_cell hX7 5
          have x6 := blk_cell hX7 6
          have x7 := blk_cell hX7 7
          have x8 := blk_cell hX7 8
          have x9 := blk_cell hX7 9
          have x10 := blk_cell hX7 10
          have x11 := blk_cell hX7 11
          simp at x0 x1 x2 x3 x4 x5 x6 x7 x8 x9 x10 x11
          have hC3 : KQ u0.heap.size u0 _ := kq (set12_keep (g := g7) hC.1 hge7 (.int .i64 x.1) (.int .u32 x.2) (.int .u32 v.d0) (.int .u32 v.d1) (.int .u32 v.d2) (.int .u32 v.d3) (.int .u32 v.d4) (.int .u32 v.d5) (.int .u32 v.d6) (.int .u32 v.d7) (.bool tt2) (.slice A2 n2 c2))
          have hY7 := heap12 hX7 (.int .i64 x.1) (.int .u32 x.2) (.int .u32 v.d0) (.int .u32 v.d1) (.int .u32 v.d2) (.int .u32 v.d3) (.int .u32 v.d4) (.int .u32 v.d5) (.int .u32 v.d6) (.int .u32 v.d7) (.bool tt2) (.slice A2 n2 c2)
          have hY6 := set12_other (g := g7) hne.symm hX6 (.int .i64 x.1) (.int .u32 x.2) (.int .u32 v.d0) (.int .u32 v.d1) (.int .u32 v.d2) (.int .u32 v.d3) (.int .u32 v.d4) (.int .u32 v.d5) (.int .u32 v.d6) (.int .u32 v.d7) (.bool tt2) (.slice A2 n2 c2)
          have hP1 := set12_keepX hO1 hX7 (.int .i64 x.1) (.int .u32 x.2) (.int .u32 v.d0) (.int .u32 v.d1) (.int .u32 v.d2) (.int .u32 v.d3) (.int .u32 v.d4) (.int .u32 v.d5) (.int .u32 v.d6) (.int .u32 v.d7) (.bool tt2) (.slice A2 n2 c2)
          have hP2 := set12_keepX hO2 hX7 (.int .i64 x.1) (.int .u32 x.2) (.int .u32 v.d0) (.int .u32 v.d1) (.int .u32 v.d2) (.int .u32 v.d3) (.int .u32 v.d4) (.int .u32 v.d5) (.int .u32 v.d6) (.int .u32 v.d7) (.bool tt2) (.slice A2 n2 c2)
          refine wpM_only (i := 9) rfl (by kernel_rfl) hcl (fun K hK => ?_)
          go_simp
          generalize hws : World.setCell _ _ _ = ws2 at hC3 hY6 hY7 hP1 hP2 ⊢
          refine hK.out _ _ hC3 trivial ?_
          clear hK K hws
          clear hcl
          intro hcl
          refine wpM_done (by kernel_rfl) ?_
          clear hcl
          try simp only [List.getElem_toArray, List.getElem_cons_zero, List.getElem_cons_succ, List.setIfInBounds_toArray, List.set_cons_zero, List.set_cons_succ]
          go_wp2_with fail
          go_meet
          exact ⟨g6, g7, A1, n1, c1, qs1, A2, n2, c2, qs2, rfl, rfl, hY6, hY7, hP1, hP2, hq1, hq2, hC3.1⟩
    · go_simp
      obtain ⟨ua6, hua6⟩ : ∃ ua6, ud.alloc (.cells #[.int .i64 0, .int .u32 0, .int .u32 0, .int .u32 0, .int .u32 0, .int .u32 0, .int .u32 0, .int .u32 0, .int .u32 0, .int .u32 0, .bool false, .slice none 0 0] 36) = ua6 := ⟨_, rfl⟩
      rw [hua6]
      have hB6 : Below ud.heap.size ud ua6 := by rw [← hua6]; exact (Below.refl _ _).alloc (Nat.le_refl _) _
      have hx6 : ua6.heap[ud.heap.size]? = some (.cells #[.int .i64 0, .int .u32 0, .int .u32 0, .int .u32 0, .int .u32 0, .int .u32 0, .int .u32 0, .int .u32 0, .int .u32 0, .int .u32 0, .bool false, .slice none 0 0] 36 (0, 0)) := by rw [← hua6]; exact heap_at _ _ rfl
      have hC3 : KQ u0.heap.size u0 ua6 := kq (hC.1.trans (hB6.mono hC.1.size))
      generalize hgs : ud.heap.size = g6 at hx6 ⊢
      have hge6 : u0.heap.size ≤ g6 := by rw [← hgs]; exact hC.1.size
      clear hgs hB6 hua6
      refine hK.out _ _ hC3 trivial ?_
      clear hK K
      clear hcl
      intro hcl
      (try simp only [Act.put, List.getElem_toArray, List.getElem_cons_zero, List.getElem_cons_succ, List.setIfInBounds_toArray, List.set_cons_zero, List.set_cons_succ])
      clear hC
      have hC := hC3
      clear hC3
      refine wpM_two (i := 2) (j := 7) rfl rfl (by kernel_rfl) hcl (fun K hK => ?_) (fun K hK => ?_)
      · go_simp
        refine (cO1.out _ hC).mono ?_
        rintro e v1 ⟨A1, n1, c1, qs1, rfl, o1, hq1, hb1⟩
        replace o1 := o1.base hC.1.size
        replace hx6 := blk_below hx6 hb1
        have hC' := kq_call hC (Nat.le_refl _) hb1
        refine hK.out _ _ hC' trivial ?_
        clear hK K
        clear hcl
        intro hcl
        (try simp only [Act.put, List.getElem_toArray, List.getElem_cons_zero, List.getElem_cons_succ, List.setIfInBounds_toArray, List.set_cons_zero, List.set_cons_succ])
        clear hC
        have hC := hC'
        clear hC'
        refine wpM_two (i := 5) (j := 7) rfl rfl (by kernel_rfl) hcl (fun K hK => ?_) (fun K hK => ?_)
        · go_simp
          refine (cO2.out _ hC).mono ?_
          rintro e v2 ⟨A2, n2, c2, qs2, rfl, o2, hq2, hb2⟩
          replace o2 := o2.base hC.1.size
          replace o1 := o1.below hb2
          replace hx6 := blk_below hx6 hb2
          have hC' := kq_call hC (Nat.le_refl _) hb2
          refine hK.out _ _ hC' trivial ?_
          clear hK K
          clear hcl
          intro hcl
          (try simp only [Act.put, List.getElem_toArray, List.getElem_cons_zero, List.getElem_cons_succ, List.setIfInBounds_toArray, List.set_cons_zero, List.set_cons_succ])
          clear hC
          have hC := hC'
          clear hC'
          refine wpM_only (i := 7) rfl (by kernel_rfl) hcl (fun K hK => ?_)
          go_simp
          obtain ⟨ua7, hua7⟩ : ∃ ua7, v2.alloc (.cells #[.int .i64 0, .int .u32 0, .int .u32 0, .int .u32 0, .int .u32 0, .int .u32 0, .int .u32 0, .int .u32 0, .int .u32 0, .int .u32 0, .bool false, .slice none 0 0] 36) = ua7 := ⟨_, rfl⟩
          rw [hua7]
          have hB7 : Below v2.heap.size v2 ua7 := by rw [← hua7]; exact (Below.refl _ _).alloc (Nat.le_refl _) _
          have hx7 : ua7.heap[v2.heap.size]? = some (.cells #[.int .i64 0, .int .u32 0, .int .u32 0, .int .u32 0, .int .u32 0, .int .u32 0, .int .u32 0, .int .u32 0, .int .u32 0, .int .u32 0, .bool false, .slice none 0 0] 36 (0, 0)) := by rw [← hua7]; exact heap_at _ _ rfl
          have hC3 : KQ u0.heap.size u0 ua7 := kq (hC.1.trans (hB7.mono hC.1.size))
          replace o1 := o1.below hB7
          replace o2 := o2.below hB7
          have hlt6 := blk_lt hx6
          replace hx6 := blk_below hx6 hB7
          generalize hgs : v2.heap.size = g7 at hx7 ⊢
          have hge7 : u0.heap.size ≤ g7 := by rw [← hgs]; exact hC.1.size
          have hne : g6 ≠ g7 := by omega
          clear hlt6
          clear hgs hB7 hua7
          refine hK.out _ _ hC3 trivial ?_
          clear hK K
          clear hcl
          intro hcl
          (try simp only [Act.put, List.getElem_toArray, List.getElem_cons_zero, List.getElem_cons_succ, List.setIfInBounds_toArray, List.set_cons_zero, List.set_cons_succ])
          clear hC
          have hC := hC3
          clear hC3
          have hlx := blk_lt hx6
          have hfx := blk_frozen hx6
          have x0 := blk_cell hx6 0
          have x1 := blk_cell hx6 1
          have x2 := blk_cell hx6 2
          have x3 := blk_cell hx6 3
          have x4 := blk_cell hx6 4
          have x5 := blk_cell hx6 5
          have x6 := blk_cell hx6 6
          have x7 := blk_cell hx6 7
          have x8 := blk_cell hx6 8
          have x9 := blk_cell hx6 9
          have x10 := blk_cell hx6 10
          have x11 := blk_cell hx6 11
          simp at x0 x1 x2 x3 x4 x5 x6 x7 x8 x9 x10 x11
          have hC3 : KQ u0.heap.size u0 _ := kq (set12_keep (g := g6) hC.1 hge6 (.int .i64 x.1) (.int .u32 x.2) (.int .u32 v.d0) (.int .u32 v.d1) (.int .u32 v.d2) (.int .u32 v.d3) (.int .u32 v.d4) (.int .u32 v.d5) (.int .u32 v.d6) (.int .u32 v.d7) (.bool tt1) (.slice A1 n1 c1))
          have hX6 := heap12 hx6 (.int .i64 x.1) (.int .u32 x.2) (.int .u32 v.d0) (.int .u32 v.d1) (.int .u32 v.d2) (.int .u32 v.d3) (.int .u32 v.d4) (.int .u32 v.d5) (.int .u32 v.d6) (.int .u32 v.d7) (.bool tt1) (.slice A1 n1 c1)
          have hX7 := set12_other (g := g6) hne hx7 (.int .i64 x.1) (.int .u32 x.2) (.int .u32 v.d0) (.int .u32 v.d1) (.int .u32 v.d2) (.int .u32 v.d3) (.int .u32 v.d4) (.int .u32 v.d5) (.int .u32 v.d6) (.int .u32 v.d7) (.bool tt1) (.slice A1 n1 c1)
          have hO1 := set12_keepX o1 hx6 (.int .i64 x.1) (.int .u32 x.2) (.int .u32 v.d0) (.int .u32 v.d1) (.int .u32 v.d2) (.int .u32 v.d3) (.int .u32 v.d4) (.int .u32 v.d5) (.int .u32 v.d6) (.int .u32 v.d7) (.bool tt1) (.slice A1 n1 c1)
          have hO2 := set12_keepX o2 hx6 (.int .i64 x.1) (.int .u32 x.2) (.int .u32 v.d0) (.int .u32 v.d1) (.int .u32 v.d2) (.int .u32 v.d3) (.int .u32 v.d4) (.int .u32 v.d5) (.int .u32 v.d6) (.int .u32 v.d7) (.bool tt1) (.slice A1 n1 c1)
          refine wpM_only (i := 8) rfl (by kernel_rfl) hcl (fun K hK => ?_)
          go_simp
          generalize hws : World.setCell _ _ _ = ws at hC3 hX6 hX7 hO1 hO2 ⊢
          refine hK.out _ _ hC3 trivial ?_
          clear hK K hws
          clear hcl
          intro hcl
          (try simp only [Act.put, List.getElem_toArray, List.getElem_cons_zero, List.getElem_cons_succ, List.setIfInBounds_toArray, List.set_cons_zero, List.set_cons_succ])
          clear hC hlx hfx x0 x1 x2 x3 x4 x5 x6 x7 x8 x9 x10 x11 hx6 hx7 o1 o2
          have hC := hC3
          clear hC3
          have hlx := blk_lt hX7
          have hfx := blk_frozen hX7
          have x0 := blk_cell hX7 0
          have x1 := blk_cell hX7 1
          have x2 := blk_cell hX7 2
          have x3 := blk_cell hX7 3
          have x4 := blk_cell hX7 4
          have x5 := blk_cell hX7 5
          have x6 := blk_cell hX7 6
          have x7 := blk_cell hX7 7
          have x8 := blk_cell hX7 8
          have x9 := blk_cell hX7 9
          have x10 := blk_cell hX7 10
          have x11 := blk_cell hX7 11
          simp at x0 x1 x2 x3 x4 x5 x6 x7 x8 x9 x10 x11
          have hC3 : KQ u0.heap.size u0 _ := kq (set12_keep (g := g7) hC.1 hge7 (.int .i64 x.1) (.int .u32 x.2) (.int .u32 v.d0) (.int .u32 v.d1) (.int .u32 v.d2) (.int .u32 v.d3) (.int .u32 v.d4) (.int .u32 v.d5) (.int .u32 v.d6) (.int .u32 v.d7) (.bool tt2) (.slice A2 n2 c2))
          have hY7 := heap12 hX7 (.int .i64 x.1) (.int .u32 x.2) (.int .u32 v.d0) (.int .u32 v.d1) (.int .u32 v.d2) (.int .u32 v.d3) (.int .u32 v.d4) (.int .u32 v.d5) (.int .u32 v.d6) (.int .u32 v.d7) (.bool tt2) (.slice A2 n2 c2)
          have hY6 := set12_other (g := g7) hne.symm hX6 (.int .i64 x.1) (.int .u32 x.2) (.int .u32 v.d0) (.int .u32 v.d1) (.int .u32 v.d2) (.int .u32 v.d3) (.int .u32 v.d4) (.int .u32 v.d5) (.int .u32 v.d6) (.int .u32 v.d7) (.bool tt2) (.slice A2 n2 c2)
          have hP1 := set12_keepX hO1 hX7 (.int .i64 x.1) (.int .u32 x.2) (.int .u32 v.d0) (.int .u32 v.d1) (.int .u32 v.d2) (.int .u32 v.d3) (.int .u32 v.d4) (.int .u32 v.d5) (.int .u32 v.d6) (.int .u32 v.d7) (.bool tt2) (.slice A2 n2 c2)
          have hP2 := set12_keepX hO2 hX7 (.int .i64 x.1) (.int .u32 x.2) (.int .u32 v.d0) (.int .u32 v.d1) (.int .u32 v.d2) (.int .u32 v.d3) (.int .u32 v.d4) (.int .u32 v.d5) (.int .u32 v.d6) (.int .u32 v.d7) (.bool tt2) (.slice A2 n2 c2)
          refine wpM_only (i := 9) rfl (by kernel_rfl) hcl (fun K hK => ?_)
          go_simp
          generalize hws : World.setCell _ _ _ = ws2 at hC3 hY6 hY7 hP1 hP2 ⊢
          refine hK.out _ _ hC3 trivial ?_
          clear hK K hws
          clear hcl
          intro hcl
          refine wpM_done (by kernel_rfl) ?_
          clear hcl
          try simp only [List.getElem_toArray, List.getElem_cons_zero, List.getElem_cons_succ, List.setIfInBounds_toArray, List.set_cons_zero, List.set_cons_succ]
          go_wp2_with fail
          go_meet
          exact ⟨g6, g7, A1, n1, c1, qs1, A2, n2, c2, qs2, rfl, rfl, hY6, hY7, hP1, hP2, hq1, hq2, hC3.1⟩
        · go_simp
          obtain ⟨ua7, hua7⟩ : ∃ ua7, v1.alloc (.cells #[.int .i64 0, .int .u32 0, .int .u32 0, .int .u32 0, .int .u32 0, .int .u32 0, .int .u32 0, .int .u32 0, .int .u32 0, .int .u32 0, .bool false, .slice none 0 0] 36) = ua7 := ⟨_, rfl⟩
          rw [hua7]
          have hB7 : Below v1.heap.size v1 ua7 := by rw [← hua7]; exact (Below.refl _ _).alloc (Nat.le_refl _) _
          have hx7 : ua7.heap[v1.heap.size]? = some (.cells #[.int .i64 0, .int .u32 0, .int .u32 0, .int .u32 0, .int .u32 0, .int .u32 0, .int .u32 0, .int .u32 0, .int .u32 0, .int .u32 0, .bool false, .slice none 0 0] 36 (0, 0)) := by rw [← hua7]; exact heap_at _ _ rfl
          have hC3 : KQ u0.heap.size u0 ua7 := kq (hC.1.trans (hB7.mono hC.1.size))
          replace o1 := o1.below hB7
          have hlt6 := blk_lt hx6
          replace hx6 := blk_below hx6 hB7
          generalize hgs : v1.heap.size = g7 at hx7 ⊢
          have hge7 : u0.heap.size ≤ g7 := by rw [← hgs]; exact hC.1.size
          have hne : g6 ≠ g7 := by omega
          clear hlt6
          clear hgs hB7 hua7
          refine hK.out _ _ hC3 trivial ?_
          clear hK K
          clear hcl
          intro hcl
          (try simp only [Act.put, List.getElem_toArray, List.getElem_cons_zero, List.getElem_cons_succ, List.setIfInBounds_toArray, List.set_cons_zero, List.set_cons_succ])
          clear hC
          have hC := hC3
          clear hC3
          refine wpM_only (i := 5) rfl (by kernel_rfl) hcl (fun K hK => ?_)
          go_simp
          refine (cO2.out _ hC).mono ?_
          rintro e v2 ⟨A2, n2, c2, qs2, rfl, o2, hq2, hb2⟩
          replace o2 := o2.base hC.1.size
          replace o1 := o1.below hb2
          replace hx6 := blk_below hx6 hb2
          replace hx7 := blk_below hx7 hb2
          have hC' := kq_call hC (Nat.le_refl _) hb2
          refine hK.out _ _ hC' trivial ?_
          clear hK K
          clear hcl
          intro hcl
          (try simp only [Act.put, List.getElem_toArray, List.getElem_cons_zero, List.getElem_cons_succ, List.setIfInBounds_toArray, List.set_cons_zero, List.set_cons_succ])
          clear hC
          have hC := hC'
          clear hC'
          have hlx := blk_lt hx6
          have hfx := blk_frozen hx6
          have x0 := blk_cell hx6 0
          have x1 := blk_cell hx6 1
          have x2 := blk_cell hx6 2
          have x3 := blk_cell hx6 3
          have x4 := blk_cell hx6 4
          have x5 := blk_cell hx6 5
          have x6 := blk_cell hx6 6
          have x7 := blk_cell hx6 7
          have x8 := blk_cell hx6 8
          have x9 := blk_cell hx6 9
          have x10 := blk_cell hx6 10
          have x11 := blk_cell hx6 11
          simp at x0 x1 x2 x3 x4 x5 x6 x7 x8 x9 x10 x11
          have hC3 : KQ u0.heap.size u0 _ := kq (set12_keep (g := g6) hC.1 hge6 (.int .i64 x.1) (.int .u32 x.2) (.int .u32 v.d0) (.int .u32 v.d1) (.int .u32 v.d2) (.int .u32 v.d3) (.int .u32 v.d4) (.int .u32 v.d5) (.int .u32 v.d6) (.int .u32 v.d7) (.bool tt1) (.slice A1 n1 c1))
          have hX6 := heap12 hx6 (.int .i64 x.1) (.int .u32 x.2) (.int .u32 v.d0) (.int .u32 v.d1) (.int .u32 v.d2) (.int .u32 v.d3) (.int .u32 v.d4) (.int .u32 v.d5) (.int .u32 v.d6) (.int .u32 v.d7) (.bool tt1) (.slice A1 n1 c1)
          have hX7 := set12_other (g := g6) hne hx7 (.int .i64 x.1) (.int .u32 x.2) (.int .u32 v.d0) (.int .u32 v.d1) (.int .u32 v.d2) (.int .u32 v.d3) (.int .u32 v.d4) (.int .u32 v.d5) (.int .u32 v.d6) (.int .u32 v.d7) (.bool tt1) (.slice A1 n1 c1)
          have hO1 := set12_keepX o1 hx6 (.int .i64 x.1) (.int .u32 x.2) (.int .u32 v.d0) (.int .u32 v.d1) (.int .u32 v.d2) (.int .u32 v.d3) (.int .u32 v.d4) (.int .u32 v.d5) (.int .u32 v.d6) (.int .u32 v.d7) (.bool tt1) (.slice A1 n1 c1)
          have hO2 := set12_keepX o2 hx6 (.int .i64 x.1) (.int .u32 x.2) (.int .u32 v.d0) (.int .u32 v.d1) (.int .u32 v.d2) (.int .u32 v.d3) (.int .u32 v.d4) (.int .u32 v.d5) (.int .u32 v.d6) (.int .u32 v.d7) (.bool tt1) (.slice A1 n1 c1)
          refine wpM_only (i := 8) rfl (by kernel_rfl) hcl (fun K hK => ?_)
          go_simp
          generalize hws : World.setCell _ _ _ = ws at hC3 hX6 hX7 hO1 hO2 ⊢
          refine hK.out _ _ hC3 trivial ?_
          clear hK K hws
          clear hcl
          intro hcl
          (try simp only [Act.put, List.getElem_toArray, List.getElem_cons_zero, List.getElem_cons_succ, List.setIfInBounds_toArray, List.set_cons_zero, List.set_cons_succ])
          clear hC hlx hfx x0 x1 x2 x3 x4 x5 x6 x7 x8 x9 x10 x11 hx6 hx7 o1 o2
          have hC := hC3
          clear hC3
          have hlx := blk_lt hX7
          have hfx := blk_frozen hX7
          have x0 := blk_cell hX7 0
          have x1 := blk_cell hX7 1
          have x2 := blk_cell hX7 2
          have x3 := blk_cell hX7 3
          have x4 := blk_cell hX7 4
          have x5 := blk_cell hX7 5
          have x6 := blk_cell hX7 6
          have x7 := blk_cell hX7 7
          have x8 := blk_cell hX7 8
          have x9 := blk_cell hX7 9
          have x10 := blk_cell hX7 10
          have x11 := blk_cell hX7 11
          simp at x0 x1 x2 x3 x4 x5 x6 x7 x8 x9 x10 x11
          have hC3 : KQ u0.heap.size u0 _ := kq (set12_keep (g := g7) hC.1 hge7 (.int .i64 x.1) (.int .u32 x.2) (.int .u32 v.d0) (.int .u32 v.d1) (.int .u32 v.d2) (.int .u32 v.d3) (.int .u32 v.d4) (.int .u32 v.d5) (.int .u32 v.d6) (.int .u32 v.d7) (.bool tt2) (.slice A2 n2 c2))
          have hY7 := heap12 hX7 (.int .i64 x.1) (.int .u32 x.2) (.int .u32 v.d0) (.int .u32 v.d1) (.int .u32 v.d2) (.int .u32 v.d3) (.int .u32 v.d4) (.int .u32 v.d5) (.int .u32 v.d6) (.int .u32 v.d7) (.bool tt2) (.slice A2 n2 c2)
          have hY6 := set12_other (g := g7) hne.symm hX6 (.int .i64 x.1) (.int .u32 x.2) (.int .u32 v.d0) (.int .u32 v.d1) (.int .u32 v.d2) (.int .u32 v.d3) (.int .u32 v.d4) (.int .u32 v.d5) (.int .u32 v.d6) (.int .u32 v.d7) (.bool tt2) (.slice A2 n2 c2)
          have hP1 := set12_keepX hO1 hX7 (.int .i64 x.1) (.int .u32 x.2) (.int .u32 v.d0) (.int .u32 v.d1) (.int .u32 v.d2) (.int .u32 v.d3) (.int .u32 v.d4) (.int .u32 v.d5) (.int .u32 v.d6) (.int .u32 v.d7) (.bool tt2) (.slice A2 n2 c2)
          have hP2 := set12_keepX hO2 hX7 (.int .i64 x.1) (.int .u32 x.2) (.int .u32 v.d0) (.int .u32 v.d1) (.int .u32 v.d2) (.int .u32 v.d3) (.int .u32 v.d4) (.int .u32 v.d5) (.int .u32 v.d6) (.int .u32 v.d7) (.bool tt2) (.slice A2 n2 c2)
          refine wpM_only (i := 9) rfl (by kernel_rfl) hcl (fun K hK => ?_)
          go_simp
          generalize hws : World.setCell _ _ _ = ws2 at hC3 hY6 hY7 hP1 hP2 ⊢
          refine hK.out _ _ hC3 trivial ?_
          clear hK K hws
          clear hcl
          intro hcl
          refine wpM_done (by kernel_rfl) ?_
          clear hcl
          try simp only [List.getElem_toArray, List.getElem_cons_zero, List.getElem_cons_succ, List.setIfInBounds_toArray, List.set_cons_zero, List.set_cons_succ]
          go_wp2_with fail
          go_meet
          exact ⟨g6, g7, A1, n1, c1, qs1, A2, n2, c2, qs2, rfl, rfl, hY6, hY7, hP1, hP2, hq1, hq2, hC3.1⟩
      · go_simp
        obtain ⟨ua7, hua7⟩ : ∃ ua7, ua6.alloc (.cells #[.int .i64 0, .int .u32 0, .int .u32 0, .int .u32 0, .int .u32 0, .int .u32 0, .int .u32 0, .int .u32 0, .int .u32 0, .int .u32 0, .bool false, .slice none 0 0] 36) = ua7 := ⟨_, rfl⟩
        rw [hua7]
        have hB7 : Below ua6.heap.size ua6 ua7 := by rw [← hua7]; exact (Below.refl _ _).alloc (Nat.le_refl _) _
        have hx7 : ua7.heap[ua6.heap.size]? = some (.cells #[.int .i64 0, .int .u32 0, .int .u32 0, .int .u32 0, .int .u32 0, .int .u32 0, .int .u32 0, .int .u32 0, .int .u32 0, .int .u32 0, .bool false, .slice none 0 0] 36 (0, 0)) := by rw [← hua7]; exact heap_at _ _ rfl
        have hC3 : KQ u0.heap.size u0 ua7 := kq (hC.1.trans (hB7.mono hC.1.size))
        have hlt6 := blk_lt hx6
        replace hx6 := blk_below hx6 hB7
        generalize hgs : ua6.heap.size = g7 at hx7 ⊢
        have hge7 : u0.heap.size ≤ g7 := by rw [← hgs]; exact hC.1.size
        have hne : g6 ≠ g7 := by omega
        clear hlt6
        clear hgs hB7 hua7
        refine hK.out _ _ hC3 trivial ?_
        clear hK K
        clear hcl
        intro hcl
        (try simp only [Act.put, List.getElem_toArray, List.getElem_cons_zero, List.getElem_cons_succ, List.setIfInBounds_toArray, List.set_cons_zero, List.set_cons_succ])
        clear hC
        have hC := hC3
        clear hC3
        refine wpM_only (i := 2) rfl (by kernel_rfl) hcl (fun K hK => ?_)
        go_simp
        refine (cO1.out _ hC).mono ?_
        rintro e v1 ⟨A1, n1, c1, qs1, rfl, o1, hq1, hb1⟩
        replace o1 := o1.base hC.1.size
        replace hx6 := blk_below hx6 hb1
        replace hx7 := blk_below hx7 hb1
        have hC' := kq_call hC (Nat.le_refl _) hb1
        refine hK.out _ _ hC' trivial ?_
        clear hK K
        clear hcl
        intro hcl
        (try simp only [Act.put, List.getElem_toArray, List.getElem_cons_zero, List.getElem_cons_succ, List.setIfInBounds_toArray, List.set_cons_zero, List.set_cons_succ])
        clear hC
        have hC := hC'
        clear hC'
        refine wpM_only (i := 5) rfl (by kernel_rfl) hcl (fun K hK => ?_)
        go_simp
        refine (cO2.out _ hC).mono ?_
        rintro e v2 ⟨A2, n2, c2, qs2, rfl, o2, hq2, hb2⟩
        replace o2 := o2.base hC.1.size
        replace o1 := o1.below hb2
        replace hx6 := blk_below hx6 hb2
        replace hx7 := blk_below hx7 hb2
        have hC' := kq_call hC (Nat.le_refl _) hb2
        refine hK.out _ _ hC' trivial ?_
        clear hK K
        clear hcl
        intro hcl
        (try simp only [Act.put, List.getElem_toArray, List.getElem_cons_zero, List.getElem_cons_succ, List.setIfInBounds_toArray, List.set_cons_zero, List.set_cons_succ])
        clear hC
        have hC := hC'
        clear hC'
        have hlx := blk_lt hx6
        have hfx := blk_frozen hx6
        have x0 := blk_cell hx6 0
        have x1 := blk_cell hx6 1
        have x2 := blk_cell hx6 2
        have x3 := blk_cell hx6 3
        have x4 := blk_cell hx6 4
        have x5 := blk_cell hx6 5
        have x6 := blk_cell hx6 6
        have x7 := blk_cell hx6 7
        have x8 := blk_cell hx6 8
        have x9 := blk_cell hx6 9
        have x10 := blk_cell hx6 10
        have x11 := blk_cell hx6 11
        simp at x0 x1 x2 x3 x4 x5 x6 x7 x8 x9 x10 x11
        have hC3 : KQ u0.heap.size u0 _ := kq (set12_keep (g := g6) hC.1 hge6 (.int .i64 x.1) (.int .u32 x.2) (.int .u32 v.d0) (.int .u32 v.d1) (.int .u32 v.d2) (.int .u32 v.d3) (.int .u32 v.d4) (.int .u32 v.d5) (.int .u32 v.d6) (.int .u32 v.d7) (.bool tt1) (.slice A1 n1 c1))
        have hX6 := heap12 hx6 (.int .i64 x.1) (.int .u32 x.2) (.int .u32 v.d0) (.int .u32 v.d1) (.int .u32 v.d2) (.int .u32 v.d3) (.int .u32 v.d4) (.int .u32 v.d5) (.int .u32 v.d6) (.int .u32 v.d7) (.bool tt1) (.slice A1 n1 c1)
        have hX7 := set12_other (g := g6) hne hx7 (.int .i64 x.1) (.int .u32 x.2) (.int .u32 v.d0) (.int .u32 v.d1) (.int .u32 v.d2) (.int .u32 v.d3) (.int .u32 v.d4) (.int .u32 v.d5) (.int .u32 v.d6) (.int .u32 v.d7) (.bool tt1) (.slice A1 n1 c1)
        have hO1 := set12_keepX o1 hx6 (.int .i64 x.1) (.int .u32 x.2) (.int .u32 v.d0) (.int .u32 v.d1) (.int .u32 v.d2) (.int .u32 v.d3) (.int .u32 v.d4) (.int .u32 v.d5) (.int .u32 v.d6) (.int .u32 v.d7) (.bool tt1) (.slice A1 n1 c1)
        have hO2 := set12_keepX o2 hx6 (.int .i64 x.1) (.int .u32 x.2) (.int .u32 v.d0) (.int .u32 v.d1) (.int .u32 v.d2) (.int .u32 v.d3) (.int .u32 v.d4) (.int .u32 v.d5) (.int .u32 v.d6) (.int .u32 v.d7) (.bool tt1) (.slice A1 n1 c1)
        refine wpM_only (i := 8) rfl (by kernel_rfl) hcl (fun K hK => ?_)
        go_simp
        generalize hws : World.setCell _ _ _ = ws at hC3 hX6 hX7 hO1 hO2 ⊢
        refine hK.out _ _ hC3 trivial ?_
        clear hK K hws
        clear hcl
        intro hcl
        (try simp only [Act.put, List.getElem_toArray, List.getElem_cons_zero, List.getElem_cons_succ, List.setIfInBounds_toArray, List.set_cons_zero, List.set_cons_succ])
        clear hC hlx hfx x0 x1 x2 x3 x4 x5 x6 x7 x8 x9 x10 x11 hx6 hx7 o1 o2
        have hC := hC3
        clear hC3
        have hlx := blk_lt hX7
        have hfx := blk_frozen hX7
        have x0 := blk_cell hX7 0
        have x1 := blk_cell hX7 1
        have x2 := blk_cell hX7 2
        have x3 := blk_cell hX7 3
        have x4 := blk_cell hX7 4
        have x5 := blk_cell hX7 5
        have x6 := blk_cell hX7 6
        have x7 := blk_cell hX7 7
        have x8 := blk_cell hX7 8
        have x9 := blk_cell hX7 9
        have x10 := blk_cell hX7 10
        have x11 := blk_cell hX7 11
        simp at x0 x1 x2 x3 x4 x5 x6 x7 x8 x9 x10 x11
        have hC3 : KQ u0.heap.size u0 _ := kq (set12_keep (g := g7) hC.1 hge7 (.int .i64 x.1) (.int .u32 x.2) (.int .u32 v.d0) (.int .u32 v.d1) (.int .u32 v.d2) (.int .u32 v.d3) (.int .u32 v.d4) (.int .u32 v.d5) (.int .u32 v.d6) (.int .u32 v.d7) (.bool tt2) (.slice A2 n2 c2))
        have hY7 := heap12 hX7 (.int .i64 x.1) (.int .u32 x.2) (.int .u32 v.d0) (.int .u32 v.d1) (.int .u32 v.d2) (.int .u32 v.d3) (.int .u32 v.d4) (.int .u32 v.d5) (.int .u32 v.d6) (.int .u32 v.d7) (.bool tt2) (.slice A2 n2 c2)
        have hY6 := set12_other (g := g7) hne.symm hX6 (.int .i64 x.1) (.int .u32 x.2) (.int .u32 v.d0) (.int .u32 v.d1) (.int .u32 v.d2) (.int .u32 v.d3) (.int .u32 v.d4) (.int .u32 v.d5) (.int .u32 v.d6) (.int .u32 v.d7) (.bool tt2) (.slice A2 n2 c2)
        have hP1 := set12_keepX hO1 hX7 (.int .i64 x.1) (.int .u32 x.2) (.int .u32 v.d0) (.int .u32 v.d1) (.int .u32 v.d2) (.int .u32 v.d3) (.int .u32 v.d4) (.int .u32 v.d5) (.int .u32 v.d6) (.int .u32 v.d7) (.bool tt2) (.slice A2 n2 c2)
        have hP2 := set12_keepX hO2 hX7 (.int .i64 x.1) (.int .u32 x.2) (.int .u32 v.d0) (.int .u32 v.d1) (.int .u32 v.d2) (.int .u32 v.d3) (.int .u32 v.d4) (.int .u32 v.d5) (.int .u32 v.d6) (.int .u32 v.d7) (.bool tt2) (.slice A2 n2 c2)
        refine wpM_only (i := 9) rfl (by kernel_rfl) hcl (fun K hK => ?_)
        go_simp
        generalize hws : World.setCell _ _ _ = ws2 at hC3 hY6 hY7 hP1 hP2 ⊢
        refine hK.out _ _ hC3 trivial ?_
        clear hK K hws
        clear hcl
        intro hcl
        refine wpM_done (by kernel_rfl) ?_
        clear hcl
        try simp only [List.getElem_toArray, List.getElem_cons_zero, List.getElem_cons_succ, List.setIfInBounds_toArray, List.set_cons_zero, List.set_cons_succ]
        go_wp2_with fail
        go_meet
        exact ⟨g6, g7, A1, n1, c1, qs1, A2, n2, c2, qs2, rfl, rfl, hY6, hY7, hP1, hP2, hq1, hq2, hC3.1⟩
    · go_simp
      obtain ⟨ua7, hua7⟩ : ∃ ua7, ud.alloc (.cells #[.int .i64 0, .int .u32 0, .int .u32 0, .int .u32 0, .int .u32 0, .int .u32 0, .int .u32 0, .int .u32 0, .int .u32 0, .int .u32 0, .bool false, .slice none 0 0] 36) = ua7 := ⟨_, rfl⟩
      rw [hua7]
      have hB7 : Below ud.heap.size ud ua7 := by rw [← hua7]; exact (Below.refl _ _).alloc (Nat.le_refl _) _
      have hx7 : ua7.heap[ud.heap.size]? = some (.cells #[.int .i64 0, .int .u32 0, .int .u32 0, .int .u32 0, .int .u32 0, .int .u32 0, .int .u32 0, .int .u32 0, .int .u32 0, .int .u32 0, .bool false, .slice none 0 0] 36 (0, 0)) := by rw [← hua7]; exact heap_at _ _ rfl
      have hC3 : KQ u0.heap.size u0 ua7 := kq (hC.1.trans (hB7.mono hC.1.size))
      generalize hgs : ud.heap.size = g7 at hx7 ⊢
      have hge7 : u0.heap.size ≤ g7 := by rw [← hgs]; exact hC.1.size
      clear hgs hB7 hua7
      refine hK.out _ _ hC3 trivial ?_
      clear hK K
      clear hcl
      intro hcl
      (try simp only [Act.put, List.getElem_toArray, List.getElem_cons_zero, List.getElem_cons_succ, List.setIfInBounds_toArray, List.set_cons_zero, List.set_cons_succ])
      clear hC
      have hC := hC3
      clear hC3
      refine wpM_two (i := 2) (j := 6) rfl rfl (by kernel_rfl) hcl (fun K hK => ?_) (fun K hK => ?_)
      · go_simp
        refine (cO1.out _ hC).mono ?_
        rintro e v1 ⟨A1, n1, c1, qs1, rfl, o1, hq1, hb1⟩
        replace o1 := o1.base hC.1.size
        replace hx7 := blk_below hx7 hb1
        have hC' := kq_call hC (Nat.le_refl _) hb1
        refine hK.out _ _ hC' trivial ?_
        clear hK K
        clear hcl
        intro hcl
        (try simp only [Act.put, List.getElem_toArray, List.getElem_cons_zero, List.getElem_cons_succ, List.setIfInBounds_toArray, List.set_cons_zero, List.set_cons_succ])
        clear hC
        have hC := hC'
        clear hC'
        refine wpM_two (i := 5) (j := 6) rfl rfl (by kernel_rfl) hcl (fun K hK => ?_) (fun K hK => ?_)
        · go_simp
          refine (cO2.out _ hC).mono ?_
          rintro e v2 ⟨A2, n2, c2, qs2, rfl, o2, hq2, hb2⟩
          replace o2 := o2.base hC.1.size
          replace o1 := o1.below hb2
          replace hx7 := blk_below hx7 hb2
          have hC' := kq_call hC (Nat.le_refl _) hb2
          refine hK.out _ _ hC' trivial ?_
          clear hK K
          clear hcl
          intro hcl
          (try simp only [Act.put, List.getElem_toArray, List.getElem_cons_zero, List.getElem_cons_succ, List.setIfInBounds_toArray, List.set_cons_zero, List.set_cons_succ])
          clear hC
          have hC := hC'
          clear hC'
          refine wpM_only (i := 6) rfl (by kernel_rfl) hcl (fun K hK => ?_)
          go_simp
          obtain ⟨ua6, hua6⟩ : ∃ ua6, v2.alloc (.cells #[.int .i64 0, .int .u32 0, .int .u32 0, .int .u32 0, .int .u32 0, .int .u32 0, .int .u32 0, .int .u32 0, .int .u32 0, .int .u32 0, .bool false, .slice none 0 0] 36) = ua6 := ⟨_, rfl⟩
          rw [hua6]
          have hB6 : Below v2.heap.size v2 ua6 := by rw [← hua6]; exact (Below.refl _ _).alloc (Nat.le_refl _) _
          have hx6 : ua6.heap[v2.heap.size]? = some (.cells #[.int .i64 0, .int .u32 0, .int .u32 0, .int .u32 0, .int .u32 0, .int .u32 0, .int .u32 0, .int .u32 0, .int .u32 0, .int .u32 0, .bool false, .slice none 0 0] 36 (0, 0)) := by rw [← hua6]; exact heap_at _ _ rfl
          have hC3 : KQ u0.heap.size u0 ua6 := kq (hC.1.trans (hB6.mono hC.1.size))
          replace o1 := o1.below hB6
          replace o2 := o2.below hB6
          have hlt7 := blk_lt hx7
          replace hx7 := blk_below hx7 hB6
          generalize hgs : v2.heap.size = g6 at hx6 ⊢
          have hge6 : u0.heap.size ≤ g6 := by rw [← hgs]; exact hC.1.size
          have hne : g6 ≠ g7 := by omega
          clear hlt7
          clear hgs hB6 hua6
          refine hK.out _ _ hC3 trivial ?_
          clear hK K
          clear hcl
          intro hcl
          (try simp only [Act.put, List.getElem_toArray, List.getElem_cons_zero, List.getElem_cons_succ, List.setIfInBounds_toArray, List.set_cons_zero, List.set_cons_succ])
          clear hC
          have hC := hC3
          clear hC3
          have hlx := blk_lt hx6
          have hfx := blk_frozen hx6
          have x0 := blk_cell hx6 0
          have x1 := blk_cell hx6 1
          have x2 := blk_cell hx6 2
          have x3 := blk_cell hx6 3
          have x4 := blk_cell hx6 4
          have x5 := blk_cell hx6 5
          have x6 := blk_cell hx6 6
          have x7 := blk_cell hx6 7
          have x8 := blk_cell hx6 8
          have x9 := blk_cell hx6 9
          have x10 := blk_cell hx6 10
          have x11 := blk_cell hx6 11
          simp at x0 x1 x2 x3 x4 x5 x6 x7 x8 x9 x10 x11
          have hC3 : KQ u0.heap.size u0 _ := kq (set12_keep (g := g6) hC.1 hge6 (.int .i64 x.1) (.int .u32 x.2) (.int .u32 v.d0) (.int .u32 v.d1) (.int .u32 v.d2) (.int .u32 v.d3) (.int .u32 v.d4) (.int .u32 v.d5) (.int .u32 v.d6) (.int .u32 v.d7) (.bool tt1) (.slice A1 n1 c1))
          have hX6 := heap12 hx6 (.int .i64 x.1) (.int .u32 x.2) (.int .u32 v.d0) (.int .u32 v.d1) (.int .u32 v.d2) (.int .u32 v.d3) (.int .u32 v.d4) (.int .u32 v.d5) (.int .u32 v.d6) (.int .u32 v.d7) (.bool tt1) (.slice A1 n1 c1)
          have hX7 := set12_other (g := g6) hne hx7 (.int .i64 x.1) (.int .u32 x.2) (.int .u32 v.d0) (.int .u32 v.d1) (.int .u32 v.d2) (.int .u32 v.d3) (.int .u32 v.d4) (.int .u32 v.d5) (.int .u32 v.d6) (.int .u32 v.d7) (.bool tt1) (.slice A1 n1 c1)
          have hO1 := set12_keepX o1 hx6 (.int .i64 x.1) (.int .u32 x.2) (.int .u32 v.d0) (.int .u32 v.d1) (.int .u32 v.d2) (.int .u32 v.d3) (.int .u32 v.d4) (.int .u32 v.d5) (.int .u32 v.d6) (.int .u32 v.d7) (.bool tt1) (.slice A1 n1 c1)
          have hO2 := set12_keepX o2 hx6 (.int .i64 x.1) (.int .u32 x.2) (.int .u32 v.d0) (.int .u32 v.d1) (.int .u32 v.d2) (.int .u32 v.d3) (.int .u32 v.d4) (.int .u32 v.d5) (.int .u32 v.d6) (.int .u32 v.d7) (.bool tt1) (.slice A1 n1 c1)
          refine wpM_only (i := 8) rfl (by kernel_rfl) hcl (fun K hK => ?_)
          go_simp
          generalize hws : World.setCell _ _ _ = ws at hC3 hX6 hX7 hO1 hO2 ⊢
          refine hK.out _ _ hC3 trivial ?_
          clear hK K hws
          clear hcl
          intro hcl
          (try simp only [Act.put, List.getElem_toArray, List.getElem_cons_zero, List.getElem_cons_succ, List.setIfInBounds_toArray, List.set_cons_zero, List.set_cons_succ])
          clear hC hlx hfx x0 x1 x2 x3 x4 x5 x6 x7 x8 x9 x10 x11 hx6 hx7 o1 o2
          have hC := hC3
          clear hC3
          have hlx := blk_lt hX7
          have hfx := blk_frozen hX7
          have x0 := blk_cell hX7 0
          have x1 := blk_cell hX7 1
          have x2 := blk_cell hX7 2
          have x3 := blk_cell hX7 3
          have x4 := blk_cell hX7 4
          have x5 := blk_cell hX7 5
          have x6 := blk_cell hX7 6
          have x7 := blk_cell hX7 7
          have x8 := blk_cell hX7 8
          have x9 := blk_cell hX7 9
          have x10 := blk_cell hX7 10
          have x11 := blk_cell hX7 11
          simp at x0 x1 x2 x3 x4 x5 x6 x7 x8 x9 x10 x11
          have hC3 : KQ u0.heap.size u0 _ := kq (set12_keep (g := g7) hC.1 hge7 (.int .i64 x.1) (.int .u32 x.2) (.int .u32 v.d0) (.int .u32 v.d1) (.int .u32 v.d2) (.int .u32 v.d3) (.int .u32 v.d4) (.int .u32 v.d5) (.int .u32 v.d6) (.int .u32 v.d7) (.bool tt2) (.slice A2 n2 c2))
          have hY7 := heap12 hX7 (.int .i64 x.1) (.int .u32 x.2) (.int .u32 v.d0) (.int .u32 v.d1) (.int .u32 v.d2) (.int .u32 v.d3) (.int .u32 v.d4) (.int .u32 v.d5) (.int .u32 v.d6) (.int .u32 v.d7) (.bool tt2) (.slice A2 n2 c2)
          have hY6 := set12_other (g := g7) hne.symm hX6 (.int .i64 x.1) (.int .u32 x.2) (.int .u32 v.d0) (.int .u32 v.d1) (.int .u32 v.d2) (.int .u32 v.d3) (.int .u32 v.d4) (.int .u32 v.d5) (.int .u32 v.d6) (.int .u32 v.d7) (.bool tt2) (.slice A2 n2 c2)
          have hP1 := set12_keepX hO1 hX7 (.int .i64 x.1) (.int .u32 x.2) (.int .u32 v.d0) (.int .u32 v.d1) (.int .u32 v.d2) (.int .u32 v.d3) (.int .u32 v.d4) (.int .u32 v.d5) (.int .u32 v.d6) (.int .u32 v.d7) (.bool tt2) (.slice A2 n2 c2)
          have hP2 := set12_keepX hO2 hX7 (.int .i64 x.1) (.int .u32 x.2) (.int .u32 v.d0) (.int .u32 v.d1) (.int .u32 v.d2) (.int .u32 v.d3) (.int .u32 v.d4) (.int .u32 v.d5) (.int .u32 v.d6) (.int .u32 v.d7) (.bool tt2) (.slice A2 n2 c2)
          refine wpM_only (i := 9) rfl (by kernel_rfl) hcl (fun K hK => ?_)
          go_simp
          generalize hws : World.setCell _ _ _ = ws2 at hC3 hY6 hY7 hP1 hP2 ⊢
          refine hK.out _ _ hC3 trivial ?_
          clear hK K hws
          clear hcl
          intro hcl
          refine wpM_done (by kernel_rfl) ?_
          clear hcl
          try simp only [List.getElem_toArray, List.getElem_cons_zero, List.getElem_cons_succ, List.setIfInBounds_toArray, List.set_cons_zero, List.set_cons_succ]
          go_wp2_with fail
          go_meet
          exact ⟨g6, g7, A1, n1, c1, qs1, A2, n2, c2, qs2, rfl, rfl, hY6, hY7, hP1, hP2, hq1, hq2, hC3.1⟩
        · go_simp
          obtain ⟨ua6, hua6⟩ : ∃ ua6, v1.alloc (.cells #[.int .i64 0, .int .u32 0, .int .u32 0, .int .u32 0, .int .u32 0, .int .u32 0, .int .u32 0, .int .u32 0, .int .u32 0, .int .u32 0, .bool false, .slice none 0 0] 36) = ua6 := ⟨_, rfl⟩
          rw [hua6]
          have hB6 : Below v1.heap.size v1 ua6 := by rw [← hua6]; exact (Below.refl _ _).alloc (Nat.le_refl _) _
          have hx6 : ua6.heap[v1.heap.size]? = some (.cells #[.int .i64 0, .int .u32 0, .int .u32 0, .int .u32 0, .int .u32 0, .int .u32 0, .int .u32 0, .int .u32 0, .int .u32 0, .int .u32 0, .bool false, .slice none 0 0] 36 (0, 0)) := by rw [← hua6]; exact heap_at _ _ rfl
          have hC3 : KQ u0.heap.size u0 ua6 := kq (hC.1.trans (hB6.mono hC.1.size))
          replace o1 := o1.below hB6
          have hlt7 := blk_lt hx7
          replace hx7 := blk_below hx7 hB6
          generalize hgs : v1.heap.size = g6 at hx6 ⊢
          have hge6 : u0.heap.size ≤ g6 := by rw [← hgs]; exact hC.1.size
          have hne : g6 ≠ g7 := by omega
          clear hlt7
          clear hgs hB6 hua6
          refine hK.out _ _ hC3 trivial ?_
          clear hK K
          clear hcl
          intro hcl
          (try simp only [Act.put, List.getElem_toArray, List.getElem_cons_zero, List.getElem_cons_succ, List.setIfInBounds_toArray, List.set_cons_zero, List.set_cons_succ])
          clear hC
          have hC := hC3
          clear hC3
          refine wpM_only (i := 5) rfl (by kernel_rfl) hcl (fun K hK => ?_)
          go_simp
          refine (cO2.out _ hC).mono ?_
          rintro e v2 ⟨A2, n2, c2, qs2, rfl, o2, hq2, hb2⟩
          replace o2 := o2.base hC.1.size
          replace o1 := o1.below hb2
          replace hx6 := blk_below hx6 hb2
          replace hx7 := blk_below hx7 hb2
          have hC' := kq_call hC (Nat.le_refl _) hb2
          refine hK.out _ _ hC' trivial ?_
          clear hK K
          clear hcl
          intro hcl
          (try simp only [Act.put, List.getElem_toArray, List.getElem_cons_zero, List.getElem_cons_succ, List.setIfInBounds_toArray, List.set_cons_zero, List.set_cons_succ])
          clear hC
          have hC := hC'
          clear hC'
          have hlx := blk_lt hx6
          have hfx := blk_frozen hx6
          have x0 := blk_cell hx6 0
          have x1 := blk_cell hx6 1
          have x2 := blk_cell hx6 2
          have x3 := blk_cell hx6 3
          have x4 := blk_cell hx6 4
          have x5 := blk_cell hx6 5
          have x6 := blk_cell hx6 6
          have x7 := blk_cell hx6 7
          have x8 := blk_cell hx6 8
          have x9 := blk_cell hx6 9
          have x10 := blk_cell hx6 10
          have x11 := blk_cell hx6 11
          simp at x0 x1 x2 x3 x4 x5 x6 x7 x8 x9 x10 x11
          have hC3 : KQ u0.heap.size u0 _ := kq (set12_keep (g := g6) hC.1 hge6 (.int .i64 x.1) (.int .u32 x.2) (.int .u32 v.d0) (.int .u32 v.d1) (.int .u32 v.d2) (.int .u32 v.d3) (.int .u32 v.d4) (.int .u32 v.d5) (.int .u32 v.d6) (.int .u32 v.d7) (.bool tt1) (.slice A1 n1 c1))
          have hX6 := heap12 hx6 (.int .i64 x.1) (.int .u32 x.2) (.int .u32 v.d0) (.int .u32 v.d1) (.int .u32 v.d2) (.int .u32 v.d3) (.int .u32 v.d4) (.int .u32 v.d5) (.int .u32 v.d6) (.int .u32 v.d7) (.bool tt1) (.slice A1 n1 c1)
          have hX7 := set12_other (g := g6) hne hx7 (.int .i64 x.1) (.int .u32 x.2) (.int .u32 v.d0) (.int .u32 v.d1) (.int .u32 v.d2) (.int .u32 v.d3) (.int .u32 v.d4) (.int .u32 v.d5) (.int .u32 v.d6) (.int .u32 v.d7) (.bool tt1) (.slice A1 n1 c1)
          have hO1 := set12_keepX o1 hx6 (.int .i64 x.1) (.int .u32 x.2) (.int .u32 v.d0) (.int .u32 v.d1) (.int .u32 v.d2) (.int .u32 v.d3) (.int .u32 v.d4) (.int .u32 v.d5) (.int .u32 v.d6) (.int .u32 v.d7) (.bool tt1) (.slice A1 n1 c1)
          have hO2 := set12_keepX o2 hx6 (.int .i64 x.1) (.int .u32 x.2) (.int .u32 v.d0) (.int .u32 v.d1) (.int .u32 v.d2) (.int .u32 v.d3) (.int .u32 v.d4) (.int .u32 v.d5) (.int .u32 v.d6) (.int .u32 v.d7) (.bool tt1) (.slice A1 n1 c1)
          refine wpM_only (i := 8) rfl (by kernel_rfl) hcl (fun K hK => ?_)
          go_simp
          generalize hws : World.setCell _ _ _ = ws at hC3 hX6 hX7 hO1 hO2 ⊢
          refine hK.out _ _ hC3 trivial ?_
          clear hK K hws
          clear hcl
          intro hcl
          (try simp only [Act.put, List.getElem_toArray, List.getElem_cons_zero, List.getElem_cons_succ, List.setIfInBounds_toArray, List.set_cons_zero, List.set_cons_succ])
          clear hC hlx hfx x0 x1 x2 x3 x4 x5 x6 x7 x8 x9 x10 x11 hx6 hx7 o1 o2
          have hC := hC3
          clear hC3
          have hlx := blk_lt hX7
          have hfx := blk_frozen hX7
          have x0 := blk_cell hX7 0
          have x1 := blk_cell hX7 1
          have x2 := blk_cell hX7 2
          have x3 := blk_cell hX7 3
          have x4 := blk_cell hX7 4
          have x5 := blk_cell hX7 5
          have x6 := blk_cell hX7 6
          have x7 := blk_cell hX7 7
          have x8 := blk_cell hX7 8
          have x9 := blk_cell hX7 9
          have x10 := blk_cell hX7 10
          have x11 := blk_cell hX7 11
          simp at x0 x1 x2 x3 x4 x5 x6 x7 x8 x9 x10 x11
          have hC3 : KQ u0.heap.size u0 _ := kq (set12_keep (g := g7) hC.1 hge7 (.int .i64 x.1) (.int .u32 x.2) (.int .u32 v.d0) (.int .u32 v.d1) (.int .u32 v.d2) (.int .u32 v.d3) (.int .u32 v.d4) (.int .u32 v.d5) (.int .u32 v.d6) (.int .u32 v.d7) (.bool tt2) (.slice A2 n2 c2))
          have hY7 := heap12 hX7 (.int .i64 x.1) (.int .u32 x.2) (.int .u32 v.d0) (.int .u32 v.d1) (.int .u32 v.d2) (.int .u32 v.d3) (.int .u32 v.d4) (.int .u32 v.d5) (.int .u32 v.d6) (.int .u32 v.d7) (.bool tt2) (.slice A2 n2 c2)
          have hY6 := set12_other (g := g7) hne.symm hX6 (.int .i64 x.1) (.int .u32 x.2) (.int .u32 v.d0) (.int .u32 v.d1) (.int .u32 v.d2) (.int .u32 v.d3) (.int .u32 v.d4) (.int .u32 v.d5) (.int .u32 v.d6) (.int .u32 v.d7) (.bool tt2) (.slice A2 n2 c2)
          have hP1 := set12_keepX hO1 hX7 (.int .i64 x.1) (.int .u32 x.2) (.int .u32 v.d0) (.int .u32 v.d1) (.int .u32 v.d2) (.int .u32 v.d3) (.int .u32 v.d4) (.int .u32 v.d5) (.int .u32 v.d6) (.int .u32 v.d7) (.bool tt2) (.slice A2 n2 c2)
          have hP2 := set12_keepX hO2 hX7 (.int .i64 x.1) (.int .u32 x.2) (.int .u32 v.d0) (.int .u32 v.d1) (.int .u32 v.d2) (.int .u32 v.d3) (.int .u32 v.d4) (.int .u32 v.d5) (.int .u32 v.d6) (.int .u32 v.d7) (.bool tt2) (.slice A2 n2 c2)
          refine wpM_only (i := 9) rfl (by kernel_rfl) hcl (fun K hK => ?_)
          go_simp
          generalize hws : World.setCell _ _ _ = ws2 at hC3 hY6 hY7 hP1 hP2 ⊢
          refine hK.out _ _ hC3 trivial ?_
          clear hK K hws
          clear hcl
          intro hcl
          refine wpM_done (by kernel_rfl) ?_
          clear hcl
          try simp only [List.getElem_toArray, List.getElem_cons_zero, List.getElem_cons_succ, List.setIfInBounds_toArray, List.set_cons_zero, List.set_cons_succ]
          go_wp2_with fail
          go_meet
          exact ⟨g6, g7, A1, n1, c1, qs1, A2, n2, c2, qs2, rfl, rfl, hY6, hY7, hP1, hP2, hq1, hq2, hC3.1⟩
      · go_simp
        obtain ⟨ua6, hua6⟩ : ∃ ua6, ua7.alloc (.cells #[.int .i64 0, .int .u32 0, .int .u32 0, .int .u32 0, .int .u32 0, .int .u32 0, .int .u32 0, .int .u32 0, .int .u32 0, .int .u32 0, .bool false, .slice none 0 0] 36) = ua6 := ⟨_, rfl⟩
        rw [hua6]
        have hB6 : Below ua7.heap.size ua7 ua6 := by rw [← hua6]; exact (Below.refl _ _).alloc (Nat.le_refl _) _
        have hx6 : ua6.heap[ua7.heap.size]? = some (.cells #[.int .i64 0, .int .u32 0, .int .u32 0, .int .u32 0, .int .u32 0, .int .u32 0, .int .u32 0, .int .u32 0, .int .u32 0, .int .u32 0, .bool false, .slice none 0 0] 36 (0, 0)) := by rw [← hua6]; exact heap_at _ _ rfl
        have hC3 : KQ u0.heap.size u0 ua6 := kq (hC.1.trans (hB6.mono hC.1.size))
        have hlt7 := blk_lt hx7
        replace hx7 := blk_below hx7 hB6
        generalize hgs : ua7.heap.size = g6 at hx6 ⊢
        have hge6 : u0.heap.size ≤ g6 := by rw [← hgs]; exact hC.1.size
        have hne : g6 ≠ g7 := by omega
        clear hlt7
        clear hgs hB6 hua6
        refine hK.out _ _ hC3 trivial ?_
        clear hK K
        clear hcl
        intro hcl
        (try simp only [Act.put, List.getElem_toArray, List.getElem_cons_zero, List.getElem_cons_succ, List.setIfInBounds_toArray, List.set_cons_zero, List.set_cons_succ])
        clear hC
        have hC := hC3
        clear hC3
        refine wpM_only (i := 2) rfl (by kernel_rfl) hcl (fun K hK => ?_)
        go_simp
        refine (cO1.out _ hC).mono ?_
        rintro e v1 ⟨A1, n1, c1, qs1, rfl, o1, hq1, hb1⟩
        replace o1 := o1.base hC.1.size
        replace hx6 := blk_below hx6 hb1
        replace hx7 := blk_below hx7 hb1
        have hC' := kq_call hC (Nat.le_refl _) hb1
        refine hK.out _ _ hC' trivial ?_
        clear hK K
        clear hcl
        intro hcl
        (try simp only [Act.put, List.getElem_toArray, List.getElem_cons_zero, List.getElem_cons_succ, List.setIfInBounds_toArray, List.set_cons_zero, List.set_cons_succ])
        clear hC
        have hC := hC'
        clear hC'
        refine wpM_only (i := 5) rfl (by kernel_rfl) hcl (fun K hK => ?_)
        go_simp
        refine (cO2.out _ hC).mono ?_
        rintro e v2 ⟨A2, n2, c2, qs2, rfl, o2, hq2, hb2⟩
        replace o2 := o2.base hC.1.size
        replace o1 := o1.below hb2
        replace hx6 := blk_below hx6 hb2
        replace hx7 := blk_below hx7 hb2
        have hC' := kq_call hC (Nat.le_refl _) hb2
        refine hK.out _ _ hC' trivial ?_
        clear hK K
        clear hcl
        intro hcl
        (try simp only [Act.put, List.getElem_toArray, List.getElem_cons_zero, List.getElem_cons_succ, List.setIfInBounds_toArray, List.set_cons_zero, List.set_cons_succ])
        clear hC
        have hC := hC'
        clear hC'
        have hlx := blk_lt hx6
        have hfx := blk_frozen hx6
        have x0 := blk_cell hx6 0
        have x1 := blk_cell hx6 1
        have x2 := blk_cell hx6 2
        have x3 := blk_cell hx6 3
        have x4 := blk_cell hx6 4
        have x5 := blk_cell hx6 5
        have x6 := blk_cell hx6 6
        have x7 := blk_cell hx6 7
        have x8 := blk_cell hx6 8
        have x9 := blk_cell hx6 9
        have x10 := blk_cell hx6 10
        have x11 := blk_cell hx6 11
        simp at x0 x1 x2 x3 x4 x5 x6 x7 x8 x9 x10 x11
        have hC3 : KQ u0.heap.size u0 _ := kq (set12_keep (g := g6) hC.1 hge6 (.int .i64 x.1) (.int .u32 x.2) (.int .u32 v.d0) (.int .u32 v.d1) (.int .u32 v.d2) (.int .u32 v.d3) (.int .u32 v.d4) (.int .u32 v.d5) (.int .u32 v.d6) (.int .u32 v.d7) (.bool tt1) (.slice A1 n1 c1))
        have hX6 := heap12 hx6 (.int .i64 x.1) (.int .u32 x.2) (.int .u32 v.d0) (.int .u32 v.d1) (.int .u32 v.d2) (.int .u32 v.d3) (.int .u32 v.d4) (.int .u32 v.d5) (.int .u32 v.d6) (.int .u32 v.d7) (.bool tt1) (.slice A1 n1 c1)
        have hX7 := set12_other (g := g6) hne hx7 (.int .i64 x.1) (.int .u32 x.2) (.int .u32 v.d0) (.int .u32 v.d1) (.int .u32 v.d2) (.int .u32 v.d3) (.int .u32 v.d4) (.int .u32 v.d5) (.int .u32 v.d6) (.int .u32 v.d7) (.bool tt1) (.slice A1 n1 c1)
        have hO1 := set12_keepX o1 hx6 (.int .i64 x.1) (.int .u32 x.2) (.int .u32 v.d0) (.int .u32 v.d1) (.int .u32 v.d2) (.int .u32 v.d3) (.int .u32 v.d4) (.int .u32 v.d5) (.int .u32 v.d6) (.int .u32 v.d7) (.bool tt1) (.slice A1 n1 c1)
        have hO2 := set12_keepX o2 hx6 (.int .i64 x.1) (.int .u32 x.2) (.int .u32 v.d0) (.int .u32 v.d1) (.int .u32 v.d2) (.int .u32 v.d3) (.int .u32 v.d4) (.int .u32 v.d5) (.int .u32 v.d6) (.int .u32 v.d7) (.bool tt1) (.slice A1 n1 c1)
        refine wpM_only (i := 8) rfl (by kernel_rfl) hcl (fun K hK => ?_)
        go_simp
        generalize hws : World.setCell _ _ _ = ws at hC3 hX6 hX7 hO1 hO2 ⊢
        refine hK.out _ _ hC3 trivial ?_
        clear hK K hws
        clear hcl
        intro hcl
        (try simp only [Act.put, List.getElem_toArray, List.getElem_cons_zero, List.getElem_cons_succ, List.setIfInBounds_toArray, List.set_cons_zero, List.set_cons_succ])
        clear hC hlx hfx x0 x1 x2 x3 x4 x5 x6 x7 x8 x9 x10 x11 hx6 hx7 o1 o2
        have hC := hC3
        clear hC3
        have hlx := blk_lt hX7
        have hfx := blk_frozen hX7
        have x0 := blk_cell hX7 0
        have x1 := blk_cell hX7 1
        have x2 := blk_cell hX7 2
        have x3 := blk_cell hX7 3
        have x4 := blk_cell hX7 4
        have x5 := blk_cell hX7 5
        have x6 := blk_cell hX7 6
        have x7 := blk_cell hX7 7
        have x8 := blk_cell hX7 8
        have x9 := blk_cell hX7 9
        have x10 := blk_cell hX7 10
        have x11 := blk_cell hX7 11
        simp at x0 x1 x2 x3 x4 x5 x6 x7 x8 x9 x10 x11
        have hC3 : KQ u0.heap.size u0 _ := kq (set12_keep (g := g7) hC.1 hge7 (.int .i64 x.1) (.int .u32 x.2) (.int .u32 v.d0) (.int .u32 v.d1) (.int .u32 v.d2) (.int .u32 v.d3) (.int .u32 v.d4) (.int .u32 v.d5) (.int .u32 v.d6) (.int .u32 v.d7) (.bool tt2) (.slice A2 n2 c2))
        have hY7 := heap12 hX7 (.int .i64 x.1) (.int .u32 x.2) (.int .u32 v.d0) (.int .u32 v.d1) (.int .u32 v.d2) (.int .u32 v.d3) (.int .u32 v.d4) (.int .u32 v.d5) (.int .u32 v.d6) (.int .u32 v.d7) (.bool tt2) (.slice A2 n2 c2)
        have hY6 := set12_other (g := g7) hne.symm hX6 (.int .i64 x.1) (.int .u32 x.2) (.int .u32 v.d0) (.int .u32 v.d1) (.int .u32 v.d2) (.int .u32 v.d3) (.int .u32 v.d4) (.int .u32 v.d5) (.int .u32 v.d6) (.int .u32 v.d7) (.bool tt2) (.slice A2 n2 c2)
        have hP1 := set12_keepX hO1 hX7 (.int .i64 x.1) (.int .u32 x.2) (.int .u32 v.d0) (.int .u32 v.d1) (.int .u32 v.d2) (.int .u32 v.d3) (.int .u32 v.d4) (.int .u32 v.d5) (.int .u32 v.d6) (.int .u32 v.d7) (.bool tt2) (.slice A2 n2 c2)
        have hP2 := set12_keepX hO2 hX7 (.int .i64 x.1) (.int .u32 x.2) (.int .u32 v.d0) (.int .u32 v.d1) (.int .u32 v.d2) (.int .u32 v.d3) (.int .u32 v.d4) (.int .u32 v.d5) (.int .u32 v.d6) (.int .u32 v.d7) (.bool tt2) (.slice A2 n2 c2)
        refine wpM_only (i := 9) rfl (by kernel_rfl) hcl (fun K hK => ?_)
        go_simp
        generalize hws : World.setCell _ _ _ = ws2 at hC3 hY6 hY7 hP1 hP2 ⊢
        refine hK.out _ _ hC3 trivial ?_
        clear hK K hws
        clear hcl
        intro hcl
        refine wpM_done (by kernel_rfl) ?_
        clear hcl
        try simp only [List.getElem_toArray, List.getElem_cons_zero, List.getElem_cons_succ, List.setIfInBounds_toArray, List.set_cons_zero, List.set_cons_succ]
        go_wp2_with fail
        go_meet
        exact ⟨g6, g7, A1, n1, c1, qs1, A2, n2, c2, qs2, rfl, rfl, hY6, hY7, hP1, hP2, hq1, hq2, hC3.1⟩
  case rest =>
  obtain ⟨g6, g7, A1, n1, c1, qs1, A2, n2, c2, qs2, rfl, rfl, h6, h7, o1, o2, hq1, hq2, hbu1⟩ := hcut
  obtain ⟨u1, hu1⟩ : ∃ u1, u1 = wc := ⟨_, rfl⟩
  obtain rfl := hu1
  have hzu0 := hbu0.size
  have hW1 : Below W.heap.size W u1 := hWu.trans (hbu1.mono hWu.size)
  have hb1u : Below w.heap.size w u1 := hbu0.trans (hbu1.mono hzu0)
  have hl1 : n1 = (leavePs (ps.map Pe.core) xs true).length := by rw [← hq1, List.length_map]; exact o1.len.symm
  have hl2' : n2 = (leavePs (ps.map Pe.core) xs false).length := by rw [← hq2, List.length_map]; exact o2.len.symm
  have hnl : n = (ps.map Pe.core).length := by rw [List.length_map]; exact ((hTr.out w (Below.refl _ _)).len).symm
  have hn16 : n ≤ 16 := by rw [hnl]; exact (txErr_zero hteH.out).1
  have hsum : n1 + n2 = n := by rw [hl1, hl2', hnl]; exact leave_add _ _
  have hmem1 : ∀ q ∈ qs1, q.core ∈ ps.map Pe.core := fun q hq => leavePs_sub _ _ _ _ (by rw [← hq1]; exact List.mem_map.2 ⟨q, hq, rfl⟩)
  have hmem2 : ∀ q ∈ qs2, q.core ∈ ps.map Pe.core := fun q hq => leavePs_sub _ _ _ _ (by rw [← hq2]; exact List.mem_map.2 ⟨q, hq, rfl⟩)
  have hfit : ∀ (qs : List Pe), (∀ q ∈ qs, q.core ∈ ps.map Pe.core) → ∀ w' A' n', RdE w' w'.heap.size A' n' qs → ∀ q ∈ qs, q.Fit w' := fun qs hc w' A' n' hr q hq => by
    obtain ⟨p, hpm, he⟩ := List.mem_map.1 (hc q hq)
    obtain ⟨a1, a2, a3, -⟩ := hpwH.out p hpm
    have e1 : q.key = p.key := (congrArg Prod.fst he).symm
    have e2 : q.e = p.e := (congrArg Prod.snd he).symm
    exact ⟨hr.2 q hq, e2 ▸ a1, e1 ▸ a2, e2 ▸ a3, Nat.le_trans (okPs.le (show okPs 500 100 (qs.map Pe.core) from hokH.out.sub (fun c hc' => by obtain ⟨q', hq', rfl⟩ := List.mem_map.1 hc'; exact hc q' hq')) hr q hq) (by omega)⟩
  obtain ⟨tb, htb⟩ : ∃ tb, (tt1 && tt2) = tb := ⟨_, rfl⟩
  have hM1 : mergeT ⟨x, v, tt1, qs1.map Pe.core⟩ ⟨x, v, tt2, qs2.map Pe.core⟩ = (⟨x, v, tb, ps.map Pe.core⟩, 0) := by rw [hq1, hq2, ← htb]; exact merge_leave xs true tt1 tt2 hteH.out
  have hM2 : mergeT ⟨x, v, tt2, qs2.map Pe.core⟩ ⟨x, v, tt1, qs1.map Pe.core⟩ = (⟨x, v, tb, ps.map Pe.core⟩, 0) := by rw [hq1, hq2, ← htb, Bool.and_comm tt1 tt2]; exact merge_leave xs false tt2 tt1 hteH.out
  have cM1 := Lib.hid (fun w' (h : Below u1.heap.size u1 w') => txmerge_any x v tt1 A1 n1 c1 qs1 x v tt2 A2 n2 c2 qs2 w' (o1.below h).rd (by unfold maxLen; omega) (hfit qs1 hmem1 w' A1 n1 (o1.below h).rd) hx hvw (o2.below h).rd (by unfold maxLen; omega) (hfit qs2 hmem2 w' A2 n2 (o2.below h).rd) hx hvw (hvr.out w' (hb1u.trans (h.mono hb1u.size))) _ hM1)
  have cM2 := Lib.hid (fun w' (h : Below u1.heap.size u1 w') => txmerge_any x v tt2 A2 n2 c2 qs2 x v tt1 A1 n1 c1 qs1 w' (o2.below h).rd (by unfold maxLen; omega) (hfit qs2 hmem2 w' A2 n2 (o2.below h).rd) hx hvw (o1.below h).rd (by unfold maxLen; omega) (hfit qs1 hmem1 w' A1 n1 (o1.below h).rd) hx hvw (hvr.out w' (hb1u.trans (h.mono hb1u.size))) _ hM2)
  have cC1 := Lib.hid (fun w' (h : Below u1.heap.size u1 w') => by
    have h1 := txcheck_any x v tt1 A1 n1 c1 qs1 w' (o1.below h).rd (by unfold maxLen; omega) (hfit qs1 hmem1 w' A1 n1 (o1.below h).rd) hx hvw (hvr.out w' (hb1u.trans (h.mono hb1u.size)))
    rw [hq1, leave_txErr xs true hteH.out] at h1
    exact h1)
  have cC2 := Lib.hid (fun w' (h : Below u1.heap.size u1 w') => by
    have h1 := txcheck_any x v tt2 A2 n2 c2 qs2 w' (o2.below h).rd (by unfold maxLen; omega) (hfit qs2 hmem2 w' A2 n2 (o2.below h).rd) hx hvw (hvr.out w' (hb1u.trans (h.mono hb1u.size)))
    rw [hq2, leave_txErr xs false hteH.out] at h1
    exact h1)
  have hg6u := blk_lt h6
  have hg7u := blk_lt h7
  have hb67 := Lib.hid (fun w' (h : Below u1.heap.size u1 w') => (⟨blk_below h6 h, blk_below h7 h⟩ : _ ∧ _))
  have ht1 : tt1 = (t || decide (0 < n2)) := by rw [← htt1.out, leaveT_len, hl2']; rfl
  have ht2 : tt2 = (t || decide (0 < n1)) := by rw [← htt2.out, leaveT_len, hl1]; rfl
  replace ht1 := Lib.hid ht1
  replace ht2 := Lib.hid ht2
  have hsumH := Lib.hid hsum
  clear htb y0 y1 y2 y3 y4 y5 y6 y7 y8 y9 y10 y11 hlt5 h5 o4u o4 hq4 cO cO1 cO2 hM1 hM2 hl1 hl2' hnl hsum hmem1 hmem2 hfit hq1 hq2 hW4 hb4
  have yl := blk_lt h6
  have y0 := blk_cell h6 0
  have y1 := blk_cell h6 1
  have y2 := blk_cell h6 2
  have y3 := blk_cell h6 3
  have y4 := blk_cell h6 4
  have y5 := blk_cell h6 5
  have y6 := blk_cell h6 6
  have y7 := blk_cell h6 7
  have y8 := blk_cell h6 8
  have y9 := blk_cell h6 9
  have y10 := blk_cell h6 10
  have y11 := blk_cell h6 11
  simp at y0 y1 y2 y3 y4 y5 y6 y7 y8 y9 y10 y11
  have zl := blk_lt h7
  have z0 := blk_cell h7 0
  have z1 := blk_cell h7 1
  have z2 := blk_cell h7 2
  have z3 := blk_cell h7 3
  have z4 := blk_cell h7 4
  have z5 := blk_cell h7 5
  have z6 := blk_cell h7 6
  have z7 := blk_cell h7 7
  have z8 := blk_cell h7 8
  have z9 := blk_cell h7 9
  have z10 := blk_cell h7 10
  have z11 := blk_cell h7 11
  simp at z0 z1 z2 z3 z4 z5 z6 z7 z8 z9 z10 z11
  go_wp2_with fail
  refine (cM1.out u1 (Below.refl _ _)).mono ?_
  rintro e v1 ⟨A8, n8, c8, rs8, rfl, o8, hr8, hv1⟩
  clear yl y0 y1 y2 y3 y4 y5 y6 y7 y8 y9 y10 y11 zl z0 z1 z2 z3 z4 z5 z6 z7 z8 z9 z10 z11 h6 h7 cM1
  obtain ⟨v2, hv2e⟩ : ∃ v2, v1.alloc (.cells #[.int .i64 x.1, .int .u32 x.2, .int .u32 v.d0, .int .u32 v.d1, .int .u32 v.d2, .int .u32 v.d3, .int .u32 v.d4, .int .u32 v.d5, .int .u32 v.d6, .int .u32 v.d7, .bool tb, .slice A8 n8 c8] 36) = v2 := ⟨_, rfl⟩
  have hv12 : Below v1.heap.size v1 v2 := by rw [← hv2e]; exact (Below.refl _ v1).alloc (Nat.le_refl _) _
  have h8 : v2.heap[v1.heap.size]? = some (.cells #[.int .i64 x.1, .int .u32 x.2, .int .u32 v.d0, .int .u32 v.d1, .int .u32 v.d2, .int .u32 v.d3, .int .u32 v.d4, .int .u32 v.d5, .int .u32 v.d6, .int .u32 v.d7, .bool tb, .slice A8 n8 c8] 36 (0, 0)) := by rw [← hv2e]; exact heap_at _ _ rfl
  have hbv2 : Below u1.heap.size u1 v2 := hv1.trans (hv12.mono hv1.size)
  obtain ⟨h6, h7⟩ := hb67.out v2 hbv2
  have yl := blk_lt h6
  have y0 := blk_cell h6 0
  have y1 := blk_cell h6 1
  have y2 := blk_cell h6 2
  have y3 := blk_cell h6 3
  have y4 := blk_cell h6 4
  have y5 := blk_cell h6 5
  have y6 := blk_cell h6 6
  have y7 := blk_cell h6 7
  have y8 := blk_cell h6 8
  have y9 := blk_cell h6 9
  have y10 := blk_cell h6 10
  have y11 := blk_cell h6 11
  simp at y0 y1 y2 y3 y4 y5 y6 y7 y8 y9 y10 y11
  have zl := blk_lt h7
  have z0 := blk_cell h7 0
  have z1 := blk_cell h7 1
  have z2 := blk_cell h7 2
  have z3 := blk_cell h7 3
  have z4 := blk_cell h7 4
  have z5 := blk_cell h7 5
  have z6 := blk_cell h7 6
  have z7 := blk_cell h7 7
  have z8 := blk_cell h7 8
  have z9 := blk_cell h7 9
  have z10 := blk_cell h7 10
  have z11 := blk_cell h7 11
  simp at z0 z1 z2 z3 z4 z5 z6 z7 z8 z9 z10 z11
  go_upto_region 8 with (fail)
  go_wp2_with fail
  refine (cM2.out v2 hbv2).mono ?_
  rintro e v3 ⟨A9, n9, c9, rs9, rfl, o9, hr9, hv3⟩
  have h83 := blk_below h8 hv3
  have o83 := (o8.below hv12).below hv3
  have hbv3 : Below u1.heap.size u1 v3 := hbv2.trans (hv3.mono hbv2.size)
  clear yl y0 y1 y2 y3 y4 y5 y6 y7 y8 y9 y10 y11 zl z0 z1 z2 z3 z4 z5 z6 z7 z8 z9 z10 z11 h6 h7 cM2 h8 hv2e
  obtain ⟨v4, hv4e⟩ : ∃ v4, v3.alloc (.cells #[.int .i64 x.1, .int .u32 x.2, .int .u32 v.d0, .int .u32 v.d1, .int .u32 v.d2, .int .u32 v.d3, .int .u32 v.d4, .int .u32 v.d5, .int .u32 v.d6, .int .u32 v.d7, .bool tb, .slice A9 n9 c9] 36) = v4 := ⟨_, rfl⟩
  have hv34 : Below v3.heap.size v3 v4 := by rw [← hv4e]; exact (Below.refl _ v3).alloc (Nat.le_refl _) _
  have h10 : v4.heap[v3.heap.size]? = some (.cells #[.int .i64 x.1, .int .u32 x.2, .int .u32 v.d0, .int .u32 v.d1, .int .u32 v.d2, .int .u32 v.d3, .int .u32 v.d4, .int .u32 v.d5, .int .u32 v.d6, .int .u32 v.d7, .bool tb, .slice A9 n9 c9] 36 (0, 0)) := by rw [← hv4e]; exact heap_at _ _ rfl
  have h84 := blk_below h83 hv34
  have o84 := o83.below hv34
  have o94 := o9.below hv34
  have hbv4 : Below u1.heap.size u1 v4 := hbv3.trans (hv34.mono hbv3.size)
  have hn8 : n8 = n := by
    have e1 := congrArg List.length hr8
    have e2 := o8.len
    have e3 := (hTr.out w (Below.refl _ _)).len
    rw [List.length_map, List.length_map] at e1
    omega
  have hn9 : n9 = n := by
    have e1 := congrArg List.length hr9
    have e2 := o9.len
    have e3 := (hTr.out w (Below.refl _ _)).len
    rw [List.length_map, List.length_map] at e1
    omega
  subst hn8
  subst hn9
  have hb1v4 := hb1u.trans (hbv4.mono hb1u.size)
  have hWv4 := hW1.trans (hbv4.mono hW1.size)
  have cF : ∀ (tb : Bool) (A : Option Addr) (c base : Nat) (qs : List Pe), OwE 101 v4 base A n9 c qs → Hid (∀ w', KQ v4.heap.size v4 w' → Calls Tryz.prog 13 #[.agg #[.int .i64 x.1, .int .u32 x.2, .int .u32 v.d0, .int .u32 v.d1, .int .u32 v.d2, .int .u32 v.d3, .int .u32 v.d4, .int .u32 v.d5, .int .u32 v.d6, .int .u32 v.d7, .bool tb, .slice A n9 c]] w' fun e w'' => ∃ A' c', e = .returned (.agg #[.int .i64 x.1, .int .u32 x.2, .int .u32 v.d0, .int .u32 v.d1, .int .u32 v.d2, .int .u32 v.d3, .int .u32 v.d4, .int .u32 v.d5, .int .u32 v.d6, .int .u32 v.d7, .bool tb, .slice A' n9 c']) ∧ RdE w'' w''.heap.size A' n9 qs ∧ Below w'.heap.size w' w'') := fun tb A c base qs ho => Lib.hid (fun w' h =>
    (txfrom_any x v tb A n9 c qs w' (ho.below h.1).rd (by omega)).mono (fun e w'' ⟨A', c', he, ho', hb⟩ => ⟨A', c', he, ⟨ho'.rd.1, ((ho.below h.1).below hb).rd.2⟩, hb⟩))
  have cF8 := cF tb A8 c8 _ rs8 o84
  have cF9 := cF tb A9 c9 _ rs9 o94
  have hl8 : ∀ q ∈ rs8, q.l ≤ maxLen := fun q hq => Nat.le_trans (o8.2 q hq).rd.2.2.1 (o8.2 q hq).rd.2.2.2
  have hl9 : ∀ q ∈ rs9, q.l ≤ maxLen := fun q hq => Nat.le_trans (o9.2 q hq).rd.2.2.1 (o9.2 q hq).rd.2.2.2
  have cS := Lib.hid (fun A' c' B' d' w' (h : KQ v4.heap.size v4 w') (hr : RdE w' w'.heap.size A' n9 rs8) (hr' : RdE w' w'.heap.size B' n9 rs9) => (by
    have h1 := txsame_any x v tb A' n9 c' rs8 x v tb B' n9 d' rs9 w' hr hr' (by unfold maxLen; omega) (by unfold maxLen; omega) hl8 hl9
    rw [show sameTv ⟨x, v, tb, rs8.map Pe.core⟩ ⟨x, v, tb, rs9.map Pe.core⟩ = true from sameTv_iff.2 (by rw [hr8, hr9])] at h1
    exact h1 : Calls Tryz.prog 12 #[.agg #[.int .i64 x.1, .int .u32 x.2, .int .u32 v.d0, .int .u32 v.d1, .int .u32 v.d2, .int .u32 v.d3, .int .u32 v.d4, .int .u32 v.d5, .int .u32 v.d6, .int .u32 v.d7, .bool tb, .slice A' n9 c'], .agg #[.int .i64 x.1, .int .u32 x.2, .int .u32 v.d0, .int .u32 v.d1, .int .u32 v.d2, .int .u32 v.d3, .int .u32 v.d4, .int .u32 v.d5, .int .u32 v.d6, .int .u32 v.d7, .bool tb, .slice B' n9 d']] w' fun e w'' => e = .returned (.bool true) ∧ Below w'.heap.size w' w''))
  obtain ⟨h6, h7⟩ := hb67.out v4 hbv4
  have hbt4 := hcells.out v4 hWv4
  have yl := blk_lt h6
  have y0 := blk_cell h6 0
  have y1 := blk_cell h6 1
  have y2 := blk_cell h6 2
  have y3 := blk_cell h6 3
  have y4 := blk_cell h6 4
  have y5 := blk_cell h6 5
  have y6 := blk_cell h6 6
  have y7 := blk_cell h6 7
  have y8 := blk_cell h6 8
  have y9 := blk_cell h6 9
  have y10 := blk_cell h6 10
  have y11 := blk_cell h6 11
  simp at y0 y1 y2 y3 y4 y5 y6 y7 y8 y9 y10 y11
  have zl := blk_lt h7
  have z0 := blk_cell h7 0
  have z1 := blk_cell h7 1
  have z2 := blk_cell h7 2
  have z3 := blk_cell h7 3
  have z4 := blk_cell h7 4
  have z5 := blk_cell h7 5
  have z6 := blk_cell h7 6
  have z7 := blk_cell h7 7
  have z8 := blk_cell h7 8
  have z9 := blk_cell h7 9
  have z10 := blk_cell h7 10
  have z11 := blk_cell h7 11
  simp at z0 z1 z2 z3 z4 z5 z6 z7 z8 z9 z10 z11
  have al := blk_lt h84
  have a0 := blk_cell h84 0
  have a1 := blk_cell h84 1
  have a2 := blk_cell h84 2
  have a3 := blk_cell h84 3
  have a4 := blk_cell h84 4
  have a5 := blk_cell h84 5
  have a6 := blk_cell h84 6
  have a7 := blk_cell h84 7
  have a8 := blk_cell h84 8
  have a9 := blk_cell h84 9
  have a10 := blk_cell h84 10
  have a11 := blk_cell h84 11
  simp at a0 a1 a2 a3 a4 a5 a6 a7 a8 a9 a10 a11
  have bl := blk_lt h10
  have b0 := blk_cell h10 0
  have b1 := blk_cell h10 1
  have b2 := blk_cell h10 2
  have b3 := blk_cell h10 3
  have b4 := blk_cell h10 4
  have b5 := blk_cell h10 5
  have b6 := blk_cell h10 6
  have b7 := blk_cell h10 7
  have b8 := blk_cell h10 8
  have b9 := blk_cell h10 9
  have b10 := blk_cell h10 10
  have b11 := blk_cell h10 11
  simp at b0 b1 b2 b3 b4 b5 b6 b7 b8 b9 b10 b11
  have ql := blk_lt hbt4
  have q0 := blk_cell hbt4 0
  have q1 := blk_cell hbt4 1
  have q2 := blk_cell hbt4 2
  have q3 := blk_cell hbt4 3
  have q4 := blk_cell hbt4 4
  have q5 := blk_cell hbt4 5
  have q6 := blk_cell hbt4 6
  have q7 := blk_cell hbt4 7
  have q8 := blk_cell hbt4 8
  have q9 := blk_cell hbt4 9
  have q10 := blk_cell hbt4 10
  have q11 := blk_cell hbt4 11
  simp at q0 q1 q2 q3 q4 q5 q6 q7 q8 q9 q10 q11
  have hwr : IntKind.i64.wrap ((n1 : Int) + (n2 : Int)) = (n9 : Int) := by rw [IntWalk.i64_in _ (by have := hsumH.out; omega)]; have := hsumH.out; omega
  have hbb : ((n9 : Int) != (n9 : Int)) = false := by simp
  go_upto_region 9 with (fail)
  go_cut [72] (fun s72 wx => s72 = .bool false ∧ Below v4.heap.size v4 wx)
  case first =>
    refine wp_region_M (fun w' => KQ v4.heap.size v4 w') (fun _ => True) 99 (by kernel_rfl) (kq (Below.refl _ _).drew) trivial ?_
    intro hcl
    have hC : KQ v4.heap.size v4 v4.drew := kq (Below.refl _ _).drew
    have hE := trivial
    (refine wpM_take (i := 0) (v := ?_) rfl (by kernel_rfl) (by kernel_rfl) (by kernel_rfl) (by decide) (fun _ _ _ h => h) hcl hC (fun _ => hE) (Or.inl ⟨by rfl, ?_⟩) ?_; rotate_left; (· (intro w hSw; (try dsimp only at hSw); go_simp; (try with_reducible rfl))); clear hcl; intro hcl; (try simp only [Act.put, List.getElem_toArray, List.getElem_cons_zero, List.setIfInBounds_toArray, List.set_cons_zero, List.set_cons_succ]))
    (refine wpM_take (i := 1) (v := ?_) rfl (by kernel_rfl) (by kernel_rfl) (by kernel_rfl) (by decide) (fun _ _ _ h => h) hcl hC (fun _ => hE) (Or.inl ⟨by rfl, ?_⟩) ?_; rotate_left; (· (intro w hSw; (try dsimp only at hSw); go_simp; (try with_reducible rfl))); clear hcl; intro hcl; (try simp only [Act.put, List.getElem_toArray, List.getElem_cons_zero, List.getElem_cons_succ, List.setIfInBounds_toArray, List.set_cons_zero, List.set_cons_succ]))
    (refine wpM_take (i := 2) (v := ?_) rfl (by kernel_rfl) (by kernel_rfl) (by kernel_rfl) (by decide) (fun _ _ _ h => h) hcl hC (fun _ => hE) (Or.inl ⟨by rfl, ?_⟩) ?_; rotate_left; (· (intro w hSw; (try dsimp only at hSw); go_simp; (try with_reducible rfl))); clear hcl; intro hcl; (try simp only [Act.put, List.getElem_toArray, List.getElem_cons_zero, List.getElem_cons_succ, List.setIfInBounds_toArray, List.set_cons_zero, List.set_cons_succ]))
    (refine wpM_take (i := 3) (v := ?_) rfl (by kernel_rfl) (by kernel_rfl) (by kernel_rfl) (by decide) (fun _ _ _ h => h) hcl hC (fun _ => hE) (Or.inl ⟨by rfl, ?_⟩) ?_; rotate_left; (· (intro w hSw; (try dsimp only at hSw); go_simp; (try with_reducible rfl))); clear hcl; intro hcl; (try simp only [Act.put, List.getElem_toArray, List.getElem_cons_zero, List.getElem_cons_succ, List.setIfInBounds_toArray, List.set_cons_zero, List.set_cons_succ]))
    (refine wpM_take (i := 4) (v := ?_) rfl (by kernel_rfl) (by kernel_rfl) (by kernel_rfl) (by decide) (fun _ _ _ h => h) hcl hC (fun _ => hE) (Or.inl ⟨by rfl, ?_⟩) ?_; rotate_left; (· (intro w hSw; (try dsimp only at hSw); go_simp; (try with_reducible rfl))); clear hcl; intro hcl; (try simp only [Act.put, List.getElem_toArray, List.getElem_cons_zero, List.getElem_cons_succ, List.setIfInBounds_toArray, List.set_cons_zero, List.set_cons_succ]))
    (refine wpM_take (i := 5) (v := ?_) rfl (by kernel_rfl) (by kernel_rfl) (by kernel_rfl) (by decide) (fun _ _ _ h => h) hcl hC (fun _ => hE) (Or.inl ⟨by rfl, ?_⟩) ?_; rotate_left; (· (intro w hSw; (try dsimp only at hSw); go_simp; (try with_reducible rfl))); clear hcl; intro hcl; (try simp only [Act.put, List.getElem_toArray, List.getElem_cons_zero, List.getElem_cons_succ, List.setIfInBounds_toArray, List.set_cons_zero, List.set_cons_succ]))
    (refine wpM_take (i := 6) (v := ?_) rfl (by kernel_rfl) (by kernel_rfl) (by kernel_rfl) (by decide) (fun _ _ _ h => h) hcl hC (fun _ => hE) (Or.inl ⟨by rfl, ?_⟩) ?_; rotate_left; (· (intro w hSw; (try dsimp only at hSw); go_simp; (try with_reducible rfl))); clear hcl; intro hcl; (try simp only [Act.put, List.getElem_toArray, List.getElem_cons_zero, List.getElem_cons_succ, List.setIfInBounds_toArray, List.set_cons_zero, List.set_cons_succ]))
    (refine wpM_take (i := 7) (v := ?_) rfl (by kernel_rfl) (by kernel_rfl) (by kernel_rfl) (by decide) (fun _ _ _ h => h) hcl hC (fun _ => hE) (Or.inl ⟨by rfl, ?_⟩) ?_; rotate_left; (· (intro w hSw; (try dsimp only at hSw); go_simp; (try with_reducible rfl))); clear hcl; intro hcl; (try simp only [Act.put, List.getElem_toArray, List.getElem_cons_zero, List.getElem_cons_succ, List.setIfInBounds_toArray, List.set_cons_zero, List.set_cons_succ]))
    (refine wpM_take (i := 9) (v := ?_) rfl (by kernel_rfl) (by kernel_rfl) (by kernel_rfl) (by decide) (fun _ _ _ h => h) hcl hC (fun _ => hE) (Or.inl ⟨by rfl, ?_⟩) ?_; rotate_left; (· (intro w hSw; (try dsimp only at hSw); go_simp; (try with_reducible rfl))); clear hcl; intro hcl; (try simp only [Act.put, List.getElem_toArray, List.getElem_cons_zero, List.getElem_cons_succ, List.setIfInBounds_toArray, List.set_cons_zero, List.set_cons_succ]))
    refine wpM_only (i := 8) rfl (by kernel_rfl) hcl (fun K hK => ?_)
    go_simp
    refine (cF8.out _ hC).mono ?_
    rintro e v5 ⟨A10, c10, rfl, r10, hv5⟩
    have hC' := kq_call hC (Nat.le_refl _) hv5
    refine hK.out _ _ hC' trivial ?_
    clear hK K
    clear hcl
    intro hcl
    (try simp only [Act.put, List.getElem_toArray, List.getElem_cons_zero, List.getElem_cons_succ, List.setIfInBounds_toArray, List.set_cons_zero, List.set_cons_succ])
    clear hC
    have hC := hC'
    clear hC'
    refine wpM_only (i := 10) rfl (by kernel_rfl) hcl (fun K hK => ?_)
    go_simp
    refine (cF9.out _ hC).mono ?_
    rintro e v6 ⟨A11, c11, rfl, r11, hv6⟩
    have r10' : RdE v6 v6.heap.size A10 n9 rs8 := (r10.below hv6).more hv6.size
    have hC' := kq_call hC (Nat.le_refl _) hv6
    refine hK.out _ _ hC' trivial ?_
    clear hK K
    clear hcl
    intro hcl
    (try simp only [Act.put, List.getElem_toArray, List.getElem_cons_zero, List.getElem_cons_succ, List.setIfInBounds_toArray, List.set_cons_zero, List.set_cons_succ])
    clear hC
    have hC := hC'
    clear hC'
    refine wpM_only (i := 11) rfl (by kernel_rfl) hcl (fun K hK => ?_)
    go_simp
    refine (cS.out A10 c10 A11 c11 _ hC r10' r11).mono ?_
    rintro e v7 ⟨rfl, hv7⟩
    have hC' := kq_call hC (Nat.le_refl _) hv7
    refine hK.out _ _ hC' trivial ?_
    clear hK K
    clear hcl
    intro hcl
    (try simp only [Act.put, List.getElem_toArray, List.getElem_cons_zero, List.getElem_cons_succ, List.setIfInBounds_toArray, List.set_cons_zero, List.set_cons_succ])
    clear hC
    have hC := hC'
    clear hC'
    (refine wpM_take (i := 12) (v := ?_) rfl (by kernel_rfl) (by kernel_rfl) (by kernel_rfl) (by decide) (fun _ _ _ h => h) hcl hC (fun _ => hE) (Or.inl ⟨by rfl, ?_⟩) ?_; rotate_left; (· (intro w hSw; (try dsimp only at hSw); go_simp; (try with_reducible rfl))); clear hcl; intro hcl; (try simp only [Act.put, List.getElem_toArray, List.getElem_cons_zero, List.getElem_cons_succ, List.setIfInBounds_toArray, List.set_cons_zero, List.set_cons_succ]))
    (refine wpM_take (i := 13) (v := ?_) rfl (by kernel_rfl) (by kernel_rfl) (by kernel_rfl) (by decide) (fun _ _ _ h => h) hcl hC (fun _ => hE) (Or.inl ⟨by rfl, ?_⟩) ?_; rotate_left; (· (intro w hSw; (try dsimp only at hSw); go_simp; (try with_reducible rfl))); clear hcl; intro hcl; (try simp only [Act.put, List.getElem_toArray, List.getElem_cons_zero, List.getElem_cons_succ, List.setIfInBounds_toArray, List.set_cons_zero, List.set_cons_succ]))
    (refine wpM_take (i := 14) (v := ?_) rfl (by kernel_rfl) (by kernel_rfl) (by kernel_rfl) (by decide) (fun _ _ _ h => h) hcl hC (fun _ => hE) (Or.inl ⟨by rfl, ?_⟩) ?_; rotate_left; (· (intro w hSw; (try dsimp only at hSw); go_simp; (try with_reducible rfl))); clear hcl; intro hcl; (try simp only [Act.put, List.getElem_toArray, List.getElem_cons_zero, List.getElem_cons_succ, List.setIfInBounds_toArray, List.set_cons_zero, List.set_cons_succ]))
    (refine wpM_take (i := 15) (v := ?_) rfl (by kernel_rfl) (by kernel_rfl) (by kernel_rfl) (by decide) (fun _ _ _ h => h) hcl hC (fun _ => hE) (Or.inl ⟨by rfl, ?_⟩) ?_; rotate_left; (· (intro w hSw; (try dsimp only at hSw); go_simp; (try with_reducible rfl))); clear hcl; intro hcl; (try simp only [Act.put, List.getElem_toArray, List.getElem_cons_zero, List.getElem_cons_succ, List.setIfInBounds_toArray, List.set_cons_zero, List.set_cons_succ]))
    (refine wpM_take (i := 16) (v := ?_) rfl (by kernel_rfl) (by kernel_rfl) (by kernel_rfl) (by decide) (fun _ _ _ h => h) hcl hC (fun _ => hE) (Or.inl ⟨by rfl, ?_⟩) ?_; rotate_left; (· (intro w hSw; (try dsimp only at hSw); go_simp; (try with_reducible rfl))); clear hcl; intro hcl; (try simp only [Act.put, List.getElem_toArray, List.getElem_cons_zero, List.getElem_cons_succ, List.setIfInBounds_toArray, List.set_cons_zero, List.set_cons_succ]))
    (refine wpM_take (i := 17) (v := ?_) rfl (by kernel_rfl) (by kernel_rfl) (by kernel_rfl) (by decide) (fun _ _ _ h => h) hcl hC (fun _ => hE) (Or.inl ⟨by rfl, ?_⟩) ?_; rotate_left; (· (intro w hSw; (try dsimp only at hSw); go_simp; (try with_reducible rfl))); clear hcl; intro hcl; (try simp only [Act.put, List.getElem_toArray, List.getElem_cons_zero, List.getElem_cons_succ, List.setIfInBounds_toArray, List.set_cons_zero, List.set_cons_succ]))
    (refine wpM_take (i := 18) (v := ?_) rfl (by kernel_rfl) (by kernel_rfl) (by kernel_rfl) (by decide) (fun _ _ _ h => h) hcl hC (fun _ => hE) (Or.inl ⟨by rfl, ?_⟩) ?_; rotate_left; (· (intro w hSw; (try dsimp only at hSw); go_simp; (try with_reducible rfl))); clear hcl; intro hcl; (try simp only [Act.put, List.getElem_toArray, List.getElem_cons_zero, List.getElem_cons_succ, List.setIfInBounds_toArray, List.set_cons_zero, List.set_cons_succ]))
    (refine wpM_take (i := 19) (v := ?_) rfl (by kernel_rfl) (by kernel_rfl) (by kernel_rfl) (by decide) (fun _ _ _ h => h) hcl hC (fun _ => hE) (Or.inl ⟨by rfl, ?_⟩) ?_; rotate_left; (· (intro w hSw; (try dsimp only at hSw); go_simp; (try with_reducible rfl))); clear hcl; intro hcl; (try simp only [Act.put, List.getElem_toArray, List.getElem_cons_zero, List.getElem_cons_succ, List.setIfInBounds_toArray, List.set_cons_zero, List.set_cons_succ]))
    (refine wpM_take (i := 20) (v := ?_) rfl (by kernel_rfl) (by kernel_rfl) (by kernel_rfl) (by decide) (fun _ _ _ h => h) hcl hC (fun _ => hE) (Or.inl ⟨by rfl, ?_⟩) ?_; rotate_left; (· (intro w hSw; (try dsimp only at hSw); go_simp; (try with_reducible rfl))); clear hcl; intro hcl; (try simp only [Act.put, List.getElem_toArray, List.getElem_cons_zero, List.getElem_cons_succ, List.setIfInBounds_toArray, List.set_cons_zero, List.set_cons_succ]))
    (refine wpM_take (i := 21) (v := ?_) rfl (by kernel_rfl) (by kernel_rfl) (by kernel_rfl) (by decide) (fun _ _ _ h => h) hcl hC (fun _ => hE) (Or.inl ⟨by rfl, ?_⟩) ?_; rotate_left; (· (intro w hSw; (try dsimp only at hSw); go_simp; (try with_reducible rfl))); clear hcl; intro hcl; (try simp only [Act.put, List.getElem_toArray, List.getElem_cons_zero, List.getElem_cons_succ, List.setIfInBounds_toArray, List.set_cons_zero, List.set_cons_succ]))
    (refine wpM_take (i := 22) (v := ?_) rfl (by kernel_rfl) (by kernel_rfl) (by kernel_rfl) (by decide) (fun _ _ _ h => h) hcl hC (fun _ => hE) (Or.inl ⟨by rfl, ?_⟩) ?_; rotate_left; (· (intro w hSw; (try dsimp only at hSw); go_simp; (try with_reducible rfl))); clear hcl; intro hcl; (try simp only [Act.put, List.getElem_toArray, List.getElem_cons_zero, List.getElem_cons_succ, List.setIfInBounds_toArray, List.set_cons_zero, List.set_cons_succ]))
    (refine wpM_take (i := 23) (v := ?_) rfl (by kernel_rfl) (by kernel_rfl) (by kernel_rfl) (by decide) (fun _ _ _ h => h) hcl hC (fun _ => hE) (Or.inl ⟨by rfl, ?_⟩) ?_; rotate_left; (· (intro w hSw; (try dsimp only at hSw); go_simp; (try with_reducible rfl))); clear hcl; intro hcl; (try simp only [Act.put, List.getElem_toArray, List.getElem_cons_zero, List.getElem_cons_succ, List.setIfInBounds_toArray, List.set_cons_zero, List.set_cons_succ]))
    (refine wpM_take (i := 24) (v := ?_) rfl (by kernel_rfl) (by kernel_rfl) (by kernel_rfl) (by decide) (fun _ _ _ h => h) hcl hC (fun _ => hE) (Or.inl ⟨by rfl, ?_⟩) ?_; rotate_left; (· (intro w hSw; (try dsimp only at hSw); go_simp; (try with_reducible rfl))); clear hcl; intro hcl; (try simp only [Act.put, List.getElem_toArray, List.getElem_cons_zero, List.getElem_cons_succ, List.setIfInBounds_toArray, List.set_cons_zero, List.set_cons_succ]))
    (refine wpM_take (i := 25) (v := ?_) rfl (by kernel_rfl) (by kernel_rfl) (by kernel_rfl) (by decide) (fun _ _ _ h => h) hcl hC (fun _ => hE) (Or.inl ⟨by rfl, ?_⟩) ?_; rotate_left; (· (intro w hSw; (try dsimp only at hSw); go_simp; (try with_reducible rfl))); clear hcl; intro hcl; (try simp only [Act.put, List.getElem_toArray, List.getElem_cons_zero, List.getElem_cons_succ, List.setIfInBounds_toArray, List.set_cons_zero, List.set_cons_succ]))
    (refine wpM_take (i := 26) (v := ?_) rfl (by kernel_rfl) (by kernel_rfl) (by kernel_rfl) (by decide) (fun _ _ _ h => h) hcl hC (fun _ => hE) (Or.inl ⟨by rfl, ?_⟩) ?_; rotate_left; (· (intro w hSw; (try dsimp only at hSw); go_simp; (try with_reducible rfl))); clear hcl; intro hcl; (try simp only [Act.put, List.getElem_toArray, List.getElem_cons_zero, List.getElem_cons_succ, List.setIfInBounds_toArray, List.set_cons_zero, List.set_cons_succ]))
    refine wpM_done (by kernel_rfl) ?_
    clear hcl
    try simp only [List.getElem_toArray, List.getElem_cons_zero, List.getElem_cons_succ, List.setIfInBounds_toArray, List.set_cons_zero, List.set_cons_succ]
    go_wp2_with fail
    go_meet
    exact ⟨rfl, hC.1⟩
  case rest =>
  obtain ⟨rfl, hb9⟩ := hcut
  obtain ⟨u2, hu2⟩ : ∃ u2, u2 = wc := ⟨_, rfl⟩
  obtain rfl := hu2
  have hbu2 : Below u1.heap.size u1 u2 := hbv4.trans (hb9.mono hbv4.size)
  have hWu2 := hWv4.trans (hb9.mono hWv4.size)
  have hb1u2 := hb1v4.trans (hb9.mono hb1v4.size)
  have h85 := blk_below h84 hb9
  have o85 := o84.below hb9
  clear yl y0 y1 y2 y3 y4 y5 y6 y7 y8 y9 y10 y11 zl z0 z1 z2 z3 z4 z5 z6 z7 z8 z9 z10 z11 al a0 a1 a2 a3 a4 a5 a6 a7 a8 a9 a10 a11 bl b0 b1 b2 b3 b4 b5 b6 b7 b8 b9 b10 b11 ql q0 q1 q2 q3 q4 q5 q6 q7 q8 q9 q10 q11 h6 h7 hbt4 hwr cF8 cF9 cS cF
  obtain ⟨h6, h7⟩ := hb67.out u2 hbu2
  have hbt5 := hcells.out u2 hWu2
  have yl := blk_lt h6
  have y0 := blk_cell h6 0
  have y1 := blk_cell h6 1
  have y2 := blk_cell h6 2
  have y3 := blk_cell h6 3
  have y4 := blk_cell h6 4
  have y5 := blk_cell h6 5
  have y6 := blk_cell h6 6
  have y7 := blk_cell h6 7
  have y8 := blk_cell h6 8
  have y9 := blk_cell h6 9
  have y10 := blk_cell h6 10
  have y11 := blk_cell h6 11
  simp at y0 y1 y2 y3 y4 y5 y6 y7 y8 y9 y10 y11
  have zl := blk_lt h7
  have z0 := blk_cell h7 0
  have z1 := blk_cell h7 1
  have z2 := blk_cell h7 2
  have z3 := blk_cell h7 3
  have z4 := blk_cell h7 4
  have z5 := blk_cell h7 5
  have z6 := blk_cell h7 6
  have z7 := blk_cell h7 7
  have z8 := blk_cell h7 8
  have z9 := blk_cell h7 9
  have z10 := blk_cell h7 10
  have z11 := blk_cell h7 11
  simp at z0 z1 z2 z3 z4 z5 z6 z7 z8 z9 z10 z11
  have ql := blk_lt hbt5
  have q0 := blk_cell hbt5 0
  have q1 := blk_cell hbt5 1
  have q2 := blk_cell hbt5 2
  have q3 := blk_cell hbt5 3
  have q4 := blk_cell hbt5 4
  have q5 := blk_cell hbt5 5
  have q6 := blk_cell hbt5 6
  have q7 := blk_cell hbt5 7
  have q8 := blk_cell hbt5 8
  have q9 := blk_cell hbt5 9
  have q10 := blk_cell hbt5 10
  have q11 := blk_cell hbt5 11
  simp at q0 q1 q2 q3 q4 q5 q6 q7 q8 q9 q10 q11
  go_upto_region 11 with (fail)
  go_cut [96] (fun s96 wx => s96 = .bool false ∧ u2 = wx)
  case first =>
    cases t with
    | true =>
      obtain rfl : tt1 = true := by rw [ht1.out]; rfl
      obtain rfl : tt2 = true := by rw [ht2.out]; rfl
      go_wp2_with fail
      go_meet
      exact ⟨rfl, rfl⟩
    | false =>
      by_cases e2 : 0 < n2
      · obtain rfl : tt1 = true := by rw [ht1.out, decide_eq_true e2]; rfl
        have e2i : (0 : Int) < (n2 : Int) := by omega
        by_cases e1 : 0 < n1
        · obtain rfl : tt2 = true := by rw [ht2.out, decide_eq_true e1]; rfl
          have e1i : (0 : Int) < (n1 : Int) := by omega
          go_wp2_with fail
          go_meet
          exact ⟨rfl, rfl⟩
        · obtain rfl : tt2 = false := by rw [ht2.out, decide_eq_false e1]; rfl
          have e1i : ¬ (0 : Int) < (n1 : Int) := by omega
          go_wp2_with fail
          go_meet
          exact ⟨rfl, rfl⟩
      · obtain rfl : tt1 = false := by rw [ht1.out, decide_eq_false e2]; rfl
        have e2i : ¬ (0 : Int) < (n2 : Int) := by omega
        by_cases e1 : 0 < n1
        · obtain rfl : tt2 = true := by rw [ht2.out, decide_eq_true e1]; rfl
          have e1i : (0 : Int) < (n1 : Int) := by omega
          go_wp2_with fail
          go_meet
          exact ⟨rfl, rfl⟩
        · obtain rfl : tt2 = false := by rw [ht2.out, decide_eq_false e1]; rfl
          have e1i : ¬ (0 : Int) < (n1 : Int) := by omega
          go_wp2_with fail
          go_meet
          exact ⟨rfl, rfl⟩
  case rest =>
  obtain ⟨rfl, hh⟩ := hcut
  obtain rfl := hh
  have hf8b := blk_frozen h85 10
  have hl8b := blk_lt h85
  have a10 := blk_cell h85 10
  simp at a10
  have hg6v : g6 < v1.heap.size := by have h1 := hv1.size; omega
  have hg7v : g7 < v1.heap.size := by have h1 := hv1.size; omega
  have hgtv : w.heap.size < v1.heap.size := by have h1 := hv1.size; have h2 := blk_lt (hcells.out u1 hW1); omega
  obtain ⟨u3, hu3⟩ : ∃ u3, u2.setCell ⟨v1.heap.size, 10, none⟩ (.bool t) = u3 := ⟨_, rfl⟩
  have h8c : u3.heap[v1.heap.size]? = some (.cells #[.int .i64 x.1, .int .u32 x.2, .int .u32 v.d0, .int .u32 v.d1, .int .u32 v.d2, .int .u32 v.d3, .int .u32 v.d4, .int .u32 v.d5, .int .u32 v.d6, .int .u32 v.d7, .bool t, .slice A8 n9 c8] 36 (0, 0)) := by rw [← hu3, blk_set h85 10]; simp
  have h6c : u3.heap[g6]? = u2.heap[g6]? := by rw [← hu3]; exact heap_set_ne (by show v1.heap.size ≠ g6; omega) rfl
  have h7c : u3.heap[g7]? = u2.heap[g7]? := by rw [← hu3]; exact heap_set_ne (by show v1.heap.size ≠ g7; omega) rfl
  have htc : u3.heap[w.heap.size]? = u2.heap[w.heap.size]? := by rw [← hu3]; exact heap_set_ne (by show v1.heap.size ≠ w.heap.size; omega) rfl
  have h6d := h6c.trans h6
  have h7d := h7c.trans h7
  have htd := htc.trans hbt5
  have o8c : OwE 101 u3 u1.heap.size A8 n9 c8 rs8 := by rw [← hu3]; exact (keepX ⟨o85, _, h85⟩ 10 _).1
  have hbu3 : Below u1.heap.size u1 u3 := by rw [← hu3]; exact hbu2.setCell (by have h1 := hv1.size; exact h1) _
  have hb1u3 : Below w.heap.size w u3 := hb1u.trans (hbu3.mono hb1u.size)
  clear h6c h7c htc
  go_upto_region 14 with (fail)
  clear yl y0 y1 y2 y3 y4 y5 y6 y7 y8 y9 y10 y11 zl z0 z1 z2 z3 z4 z5 z6 z7 z8 z9 z10 z11 ql q0 q1 q2 q3 q4 q5 q6 q7 q8 q9 q10 q11 h6 h7 hbt5 a10 hf8b hl8b h85 o85 hu3
  have cFt : Hid (∀ w', KQ u3.heap.size u3 w' → Calls Tryz.prog 13 #[.agg #[.int .i64 x.1, .int .u32 x.2, .int .u32 v.d0, .int .u32 v.d1, .int .u32 v.d2, .int .u32 v.d3, .int .u32 v.d4, .int .u32 v.d5, .int .u32 v.d6, .int .u32 v.d7, .bool t, .slice A8 n9 c8]] w' fun e w'' => ∃ A' c', e = .returned (.agg #[.int .i64 x.1, .int .u32 x.2, .int .u32 v.d0, .int .u32 v.d1, .int .u32 v.d2, .int .u32 v.d3, .int .u32 v.d4, .int .u32 v.d5, .int .u32 v.d6, .int .u32 v.d7, .bool t, .slice A' n9 c']) ∧ RdE w'' w''.heap.size A' n9 rs8 ∧ Below w'.heap.size w' w'') := Lib.hid (fun w' h =>
    (txfrom_any x v t A8 n9 c8 rs8 w' (o8c.below h.1).rd (by omega)).mono (fun e w'' ⟨A', c', he, ho', hb⟩ => ⟨A', c', he, ⟨ho'.rd.1, ((o8c.below h.1).below hb).rd.2⟩, hb⟩))
  have cSt := Lib.hid (fun A' c' w' (h : KQ u3.heap.size u3 w') (hr : RdE w' w'.heap.size A' n9 rs8) => (by
    have h1 := txsame_any x v t A' n9 c' rs8 x v t T n9 k0 ps w' hr (hTr.out w' (hb1u3.trans (h.1.mono hb1u3.size))) (by unfold maxLen; omega) (by unfold maxLen; omega) hl8 (fun p hp => hokl.out p hp)
    rw [show sameTv ⟨x, v, t, rs8.map Pe.core⟩ ⟨x, v, t, ps.map Pe.core⟩ = true from sameTv_iff.2 (by rw [hr8])] at h1
    exact h1 : Calls Tryz.prog 12 #[.agg #[.int .i64 x.1, .int .u32 x.2, .int .u32 v.d0, .int .u32 v.d1, .int .u32 v.d2, .int .u32 v.d3, .int .u32 v.d4, .int .u32 v.d5, .int .u32 v.d6, .int .u32 v.d7, .bool t, .slice A' n9 c'], .agg #[.int .i64 x.1, .int .u32 x.2, .int .u32 v.d0, .int .u32 v.d1, .int .u32 v.d2, .int .u32 v.d3, .int .u32 v.d4, .int .u32 v.d5, .int .u32 v.d6, .int .u32 v.d7, .bool t, .slice T n9 k0]] w' fun e w'' => e = .returned (.bool true) ∧ Below w'.heap.size w' w''))
  have yl := blk_lt h6d
  have y0 := blk_cell h6d 0
  have y1 := blk_cell h6d 1
  have y2 := blk_cell h6d 2
  have y3 := blk_cell h6d 3
  have y4 := blk_cell h6d 4
  have y5 := blk_cell h6d 5
  have y6 := blk_cell h6d 6
  have y7 := blk_cell h6d 7
  have y8 := blk_cell h6d 8
  have y9 := blk_cell h6d 9
  have y10 := blk_cell h6d 10
  have y11 := blk_cell h6d 11
  simp at y0 y1 y2 y3 y4 y5 y6 y7 y8 y9 y10 y11
  have zl := blk_lt h7d
  have z0 := blk_cell h7d 0
  have z1 := blk_cell h7d 1
  have z2 := blk_cell h7d 2
  have z3 := blk_cell h7d 3
  have z4 := blk_cell h7d 4
  have z5 := blk_cell h7d 5
  have z6 := blk_cell h7d 6
  have z7 := blk_cell h7d 7
  have z8 := blk_cell h7d 8
  have z9 := blk_cell h7d 9
  have z10 := blk_cell h7d 10
  have z11 := blk_cell h7d 11
  simp at z0 z1 z2 z3 z4 z5 z6 z7 z8 z9 z10 z11
  have al := blk_lt h8c
  have a0 := blk_cell h8c 0
  have a1 := blk_cell h8c 1
  have a2 := blk_cell h8c 2
  have a3 := blk_cell h8c 3
  have a4 := blk_cell h8c 4
  have a5 := blk_cell h8c 5
  have a6 := blk_cell h8c 6
  have a7 := blk_cell h8c 7
  have a8 := blk_cell h8c 8
  have a9 := blk_cell h8c 9
  have a10 := blk_cell h8c 10
  have a11 := blk_cell h8c 11
  simp at a0 a1 a2 a3 a4 a5 a6 a7 a8 a9 a10 a11
  have ql := blk_lt htd
  have q0 := blk_cell htd 0
  have q1 := blk_cell htd 1
  have q2 := blk_cell htd 2
  have q3 := blk_cell htd 3
  have q4 := blk_cell htd 4
  have q5 := blk_cell htd 5
  have q6 := blk_cell htd 6
  have q7 := blk_cell htd 7
  have q8 := blk_cell htd 8
  have q9 := blk_cell htd 9
  have q10 := blk_cell htd 10
  have q11 := blk_cell htd 11
  simp at q0 q1 q2 q3 q4 q5 q6 q7 q8 q9 q10 q11
  refine wp_region_M (fun w' => KQ u3.heap.size u3 w') (fun _ => True) 99 (by kernel_rfl) (kq (Below.refl _ _).drew) trivial ?_
  intro hcl
  have hC : KQ u3.heap.size u3 u3.drew := kq (Below.refl _ _).drew
  have hE := trivial
  (refine wpM_take (i := 0) (v := ?_) rfl (by kernel_rfl) (by kernel_rfl) (by kernel_rfl) (by decide) (fun _ _ _ h => h) hcl hC (fun _ => hE) (Or.inl ⟨by rfl, ?_⟩) ?_; rotate_left; (· (intro w hSw; (try dsimp only at hSw); go_simp; (try with_reducible rfl))); clear hcl; intro hcl; (try simp only [Act.put, List.getElem_toArray, List.getElem_cons_zero, List.setIfInBounds_toArray, List.set_cons_zero, List.set_cons_succ]))
  (refine wpM_take (i := 2) (v := ?_) rfl (by kernel_rfl) (by kernel_rfl) (by kernel_rfl) (by decide) (fun _ _ _ h => h) hcl hC (fun _ => hE) (Or.inl ⟨by rfl, ?_⟩) ?_; rotate_left; (· (intro w hSw; (try dsimp only at hSw); go_simp; (try with_reducible rfl))); clear hcl; intro hcl; (try simp only [Act.put, List.getElem_toArray, List.getElem_cons_zero, List.getElem_cons_succ, List.setIfInBounds_toArray, List.set_cons_zero, List.set_cons_succ]))
  refine wpM_only (i := 1) rfl (by kernel_rfl) hcl (fun K hK => ?_)
  go_simp
  refine (cFt.out _ hC).mono ?_
  rintro e v5 ⟨A10, c10, rfl, r10, hv5⟩
  have hC' := kq_call hC (Nat.le_refl _) hv5
  refine hK.out _ _ hC' trivial ?_
  clear hK K
  clear hcl
  intro hcl
  (try simp only [Act.put, List.getElem_toArray, List.getElem_cons_zero, List.getElem_cons_succ, List.setIfInBounds_toArray, List.set_cons_zero, List.set_cons_succ])
  clear hC
  have hC := hC'
  clear hC'
  refine wpM_only (i := 3) rfl (by kernel_rfl) hcl (fun K hK => ?_)
  go_simp
  refine (cSt.out A10 c10 _ hC r10).mono ?_
  rintro e v6 ⟨rfl, hv6⟩
  have hC' := kq_call hC (Nat.le_refl _) hv6
  refine hK.out _ _ hC' trivial ?_
  clear hK K
  clear hcl
  intro hcl
  (try simp only [Act.put, List.getElem_toArray, List.getElem_cons_zero, List.getElem_cons_succ, List.setIfInBounds_toArray, List.set_cons_zero, List.set_cons_succ])
  clear hC
  have hC := hC'
  clear hC'
  (refine wpM_take (i := 4) (v := ?_) rfl (by kernel_rfl) (by kernel_rfl) (by kernel_rfl) (by decide) (fun _ _ _ h => h) hcl hC (fun _ => hE) (Or.inl ⟨by rfl, ?_⟩) ?_; rotate_left; (· (intro w hSw; (try dsimp only at hSw); go_simp; (try with_reducible rfl))); clear hcl; intro hcl; (try simp only [Act.put, List.getElem_toArray, List.getElem_cons_zero, List.getElem_cons_succ, List.setIfInBounds_toArray, List.set_cons_zero, List.set_cons_succ]))
  (refine wpM_take (i := 5) (v := ?_) rfl (by kernel_rfl) (by kernel_rfl) (by kernel_rfl) (by decide) (fun _ _ _ h => h) hcl hC (fun _ => hE) (Or.inl ⟨by rfl, ?_⟩) ?_; rotate_left; (· (intro w hSw; (try dsimp only at hSw); go_simp; (try with_reducible rfl))); clear hcl; intro hcl; (try simp only [Act.put, List.getElem_toArray, List.getElem_cons_zero, List.getElem_cons_succ, List.setIfInBounds_toArray, List.set_cons_zero, List.set_cons_succ]))
  refine wpM_only (i := 6) rfl (by kernel_rfl) hcl (fun K hK => ?_)
  go_simp
  refine (cC1.out _ (hbu3.trans (hC.1.mono hbu3.size))).mono ?_
  rintro e v7 ⟨rfl, hv7⟩
  have hC' := kq_call hC (Nat.le_refl _) hv7
  refine hK.out _ _ hC' trivial ?_
  clear hK K
  clear hcl
  intro hcl
  (try simp only [Act.put, List.getElem_toArray, List.getElem_cons_zero, List.getElem_cons_succ, List.setIfInBounds_toArray, List.set_cons_zero, List.set_cons_succ])
  clear hC
  have hC := hC'
  clear hC'
  (refine wpM_take (i := 7) (v := ?_) rfl (by kernel_rfl) (by kernel_rfl) (by kernel_rfl) (by decide) (fun _ _ _ h => h) hcl hC (fun _ => hE) (Or.inl ⟨by rfl, ?_⟩) ?_; rotate_left; (· (intro w hSw; (try dsimp only at hSw); go_simp; (try with_reducible rfl))); clear hcl; intro hcl; (try simp only [Act.put, List.getElem_toArray, List.getElem_cons_zero, List.getElem_cons_succ, List.setIfInBounds_toArray, List.set_cons_zero, List.set_cons_succ]))
  (refine wpM_take (i := 8) (v := ?_) rfl (by kernel_rfl) (by kernel_rfl) (by kernel_rfl) (by decide) (fun _ _ _ h => h) hcl hC (fun _ => hE) (Or.inl ⟨by rfl, ?_⟩) ?_; rotate_left; (· (intro w hSw; (try dsimp only at hSw); go_simp; (try with_reducible rfl))); clear hcl; intro hcl; (try simp only [Act.put, List.getElem_toArray, List.getElem_cons_zero, List.getElem_cons_succ, List.setIfInBounds_toArray, List.set_cons_zero, List.set_cons_succ]))
  (refine wpM_take (i := 9) (v := ?_) rfl (by kernel_rfl) (by kernel_rfl) (by kernel_rfl) (by decide) (fun _ _ _ h => h) hcl hC (fun _ => hE) (Or.inl ⟨by rfl, ?_⟩) ?_; rotate_left; (· (intro w hSw; (try dsimp only at hSw); go_simp; (try with_reducible rfl))); clear hcl; intro hcl; (try simp only [Act.put, List.getElem_toArray, List.getElem_cons_zero, List.getElem_cons_succ, List.setIfInBounds_toArray, List.set_cons_zero, List.set_cons_succ]))
  (refine wpM_take (i := 10) (v := ?_) rfl (by kernel_rfl) (by kernel_rfl) (by kernel_rfl) (by decide) (fun _ _ _ h => h) hcl hC (fun _ => hE) (Or.inl ⟨by rfl, ?_⟩) ?_; rotate_left; (· (intro w hSw; (try dsimp only at hSw); go_simp; (try with_reducible rfl))); clear hcl; intro hcl; (try simp only [Act.put, List.getElem_toArray, List.getElem_cons_zero, List.getElem_cons_succ, List.setIfInBounds_toArray, List.set_cons_zero, List.set_cons_succ]))
  refine wpM_only (i := 11) rfl (by kernel_rfl) hcl (fun K hK => ?_)
  go_simp
  refine (cC2.out _ (hbu3.trans (hC.1.mono hbu3.size))).mono ?_
  rintro e v8 ⟨rfl, hv8⟩
  have hC' := kq_call hC (Nat.le_refl _) hv8
  refine hK.out _ _ hC' trivial ?_
  clear hK K
  clear hcl
  intro hcl
  (try simp only [Act.put, List.getElem_toArray, List.getElem_cons_zero, List.getElem_cons_succ, List.setIfInBounds_toArray, List.set_cons_zero, List.set_cons_succ])
  clear hC
  have hC := hC'
  clear hC'
  (refine wpM_take (i := 12) (v := ?_) rfl (by kernel_rfl) (by kernel_rfl) (by kernel_rfl) (by decide) (fun _ _ _ h => h) hcl hC (fun _ => hE) (Or.inl ⟨by rfl, ?_⟩) ?_; rotate_left; (· (intro w hSw; (try dsimp only at hSw); go_simp; (try with_reducible rfl))); clear hcl; intro hcl; (try simp only [Act.put, List.getElem_toArray, List.getElem_cons_zero, List.getElem_cons_succ, List.setIfInBounds_toArray, List.set_cons_zero, List.set_cons_succ]))
  (refine wpM_take (i := 13) (v := ?_) rfl (by kernel_rfl) (by kernel_rfl) (by kernel_rfl) (by decide) (fun _ _ _ h => h) hcl hC (fun _ => hE) (Or.inl ⟨by rfl, ?_⟩) ?_; rotate_left; (· (intro w hSw; (try dsimp only at hSw); go_simp; (try with_reducible rfl))); clear hcl; intro hcl; (try simp only [Act.put, List.getElem_toArray, List.getElem_cons_zero, List.getElem_cons_succ, List.setIfInBounds_toArray, List.set_cons_zero, List.set_cons_succ]))
  (refine wpM_take (i := 14) (v := ?_) rfl (by kernel_rfl) (by kernel_rfl) (by kernel_rfl) (by decide) (fun _ _ _ h => h) hcl hC (fun _ => hE) (Or.inl ⟨by rfl, ?_⟩) ?_; rotate_left; (· (intro w hSw; (try dsimp only at hSw); go_simp; (try with_reducible rfl))); clear hcl; intro hcl; (try simp only [Act.put, List.getElem_toArray, List.getElem_cons_zero, List.getElem_cons_succ, List.setIfInBounds_toArray, List.set_cons_zero, List.set_cons_succ]))
  refine wpM_done (by kernel_rfl) ?_
  clear hcl
  try simp only [List.getElem_toArray, List.getElem_cons_zero, List.getElem_cons_succ, List.setIfInBounds_toArray, List.set_cons_zero, List.set_cons_succ]
  have hG := hb1u3.trans (hC.1.mono hb1u3.size)
  go_wp2
  go_ret
  exact ⟨rfl, hG⟩
end Go.Proofs.YtpolplmniaoikaaGreatDoor
