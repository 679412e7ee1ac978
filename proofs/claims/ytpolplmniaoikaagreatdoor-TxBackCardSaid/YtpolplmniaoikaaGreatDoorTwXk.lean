/- The statement TxBack, walked. -/
import Derived.Test.YtpolplmniaoikaaGreatDoorN39
import Derived.Test.YtpolplmniaoikaaGreatDoorM41
import Derived.Test.YtpolplmniaoikaaGreatDoorFz
import Derived.Test.YtpolplmniaoikaaGreatDoorJe
import Derived.Test.YtpolplmniaoikaaGreatDoorN43
namespace Go.Proofs.YtpolplmniaoikaaGreatDoor
open Go.RowKit

set_option maxRecDepth 100000 in
set_option maxHeartbeats 8000000 in
theorem txback_any (x : Im) (v : Vm) (t : Bool) (T : Option Addr) (n k0 : Nat) (ps : List Pe) (l : List UInt8) (w : World)
    (hT : RdE w w.heap.size T n ps) (hn : n ≤ maxLen) (hx : x.wf) (hvw : v.wf) (hpw : ∀ p ∈ ps, p.e.wf ∧ p.key.length ≤ maxLen ∧ p.e.name.length ≤ maxLen ∧ p.l ≤ maxLen) (hv : VarM w) :
    Calls Tryz.prog 6 #[.agg #[.int .i64 x.1, .int .u32 x.2, .int .u32 v.d0, .int .u32 v.d1, .int .u32 v.d2, .int .u32 v.d3, .int .u32 v.d4, .int .u32 v.d5, .int .u32 v.d6, .int .u32 v.d7, .bool t, .slice T n k0], .string (bs l)] w fun e w' => e = .returned (.bool true) ∧ Below w.heap.size w w' := by
  have hb0 : Below w.heap.size w (w.alloc (.cells #[.int .i64 x.1, .int .u32 x.2, .int .u32 v.d0, .int .u32 v.d1, .int .u32 v.d2, .int .u32 v.d3, .int .u32 v.d4, .int .u32 v.d5, .int .u32 v.d6, .int .u32 v.d7, .bool t, .slice T n k0] 29)) := (Below.refl _ w).alloc (Nat.le_refl _) _
  have hbt : (w.alloc (.cells #[.int .i64 x.1, .int .u32 x.2, .int .u32 v.d0, .int .u32 v.d1, .int .u32 v.d2, .int .u32 v.d3, .int .u32 v.d4, .int .u32 v.d5, .int .u32 v.d6, .int .u32 v.d7, .bool t, .slice T n k0] 29)).heap[w.heap.size]? = some (.cells #[.int .i64 x.1, .int .u32 x.2, .int .u32 v.d0, .int .u32 v.d1, .int .u32 v.d2, .int .u32 v.d3, .int .u32 v.d4, .int .u32 v.d5, .int .u32 v.d6, .int .u32 v.d7, .bool t, .slice T n k0] 29 (0, 0)) := heap_at _ _ rfl
  generalize hWe : (w.alloc (.cells #[.int .i64 x.1, .int .u32 x.2, .int .u32 v.d0, .int .u32 v.d1, .int .u32 v.d2, .int .u32 v.d3, .int .u32 v.d4, .int .u32 v.d5, .int .u32 v.d6, .int .u32 v.d7, .bool t, .slice T n k0] 29)) = W at hb0 hbt
  have hz0 := hb0.size
  have hcells := Lib.hid (fun w' (h : Below W.heap.size W w') => blk_below hbt h)
  have hvr := Lib.hid (fun w' (h : Below w.heap.size w w') => hv.below h hv.lt)
  have cW := Lib.hid (worksX_any W (hvr.out W hb0))
  have c1 := Lib.hid (fun w' (h : Below w.heap.size w w') => fgreat15_any (.int .i64 x.1) (.int .u32 x.2) (.int .u32 v.d0) (.int .u32 v.d1) (.int .u32 v.d2) (.int .u32 v.d3) (.int .u32 v.d4) (.int .u32 v.d5) (.int .u32 v.d6) (.int .u32 v.d7) (.bool t) T n k0 ps w' ((hT.below h).more h.size).1 hn)
  cases hg : fgr15 ps with
  | true =>
    rw [hg] at c1
    clear hg hbt hT hpw
    go_enter Tryz.func6, Tryz.ntmps6
    go_wp2_with fail
    refine cW.out.mono ?_
    rintro e w1 ⟨rfl, hv1⟩
    have hb1 := hb0.trans (hv1.mono hz0)
    have hbt1 := hcells.out w1 hv1
    have q0 := blk_cell hbt1 0
    have q1 := blk_cell hbt1 1
    have q2 := blk_cell hbt1 2
    have q3 := blk_cell hbt1 3
    have q4 := blk_cell hbt1 4
    have q5 := blk_cell hbt1 5
    have q6 := blk_cell hbt1 6
    have q7 := blk_cell hbt1 7
    have q8 := blk_cell hbt1 8
    have q9 := blk_cell hbt1 9
    have q10 := blk_cell hbt1 10
    have q11 := blk_cell hbt1 11
    simp at q0 q1 q2 q3 q4 q5 q6 q7 q8 q9 q10 q11
    have hltt := blk_lt hbt1
    clear hbt1
    go_wp2_with fail
    refine (c1.out w1 hb1).mono ?_
    rintro e w2 ⟨rfl, hv2⟩
    have hb2 := hb1.trans (hv2.mono hb1.size)
    have hW2 := hv1.trans (hv2.mono hv1.size)
    clear hltt q0 q1 q2 q3 q4 q5 q6 q7 q8 q9 q10 q11 hv1 hv2 c1 cW
    have hbt2 := hcells.out w2 hW2
    have q0 := blk_cell hbt2 0
    have q1 := blk_cell hbt2 1
    have q2 := blk_cell hbt2 2
    have q3 := blk_cell hbt2 3
    have q4 := blk_cell hbt2 4
    have q5 := blk_cell hbt2 5
    have q6 := blk_cell hbt2 6
    have q7 := blk_cell hbt2 7
    have q8 := blk_cell hbt2 8
    have q9 := blk_cell hbt2 9
    have q10 := blk_cell hbt2 10
    have q11 := blk_cell hbt2 11
    simp at q0 q1 q2 q3 q4 q5 q6 q7 q8 q9 q10 q11
    have hltt := blk_lt hbt2
    clear hbt2
    go_wp2_with fail
    go_ret
    exact ⟨rfl, hb2⟩
  | false =>
  rw [hg] at c1
  obtain ⟨hl30, hok⟩ := fgr15_no hT hg
  by_cases hl2 : 1000 < l.length
  · have hd : decide ((1000 : Int) < (((bs l).size : Nat) : Int)) = true := decide_eq_true (by rw [bs_size]; omega)
    clear hl2 hg hbt hT hpw
    go_enter Tryz.func6, Tryz.ntmps6
    go_wp2_with fail
    refine cW.out.mono ?_
    rintro e w1 ⟨rfl, hv1⟩
    have hb1 := hb0.trans (hv1.mono hz0)
    have hbt1 := hcells.out w1 hv1
    have q0 := blk_cell hbt1 0
    have q1 := blk_cell hbt1 1
    have q2 := blk_cell hbt1 2
    have q3 := blk_cell hbt1 3
    have q4 := blk_cell hbt1 4
    have q5 := blk_cell hbt1 5
    have q6 := blk_cell hbt1 6
    have q7 := blk_cell hbt1 7
    have q8 := blk_cell hbt1 8
    have q9 := blk_cell hbt1 9
    have q10 := blk_cell hbt1 10
    have q11 := blk_cell hbt1 11
    simp at q0 q1 q2 q3 q4 q5 q6 q7 q8 q9 q10 q11
    have hltt := blk_lt hbt1
    clear hbt1
    go_wp2_with fail
    refine (c1.out w1 hb1).mono ?_
    rintro e w2 ⟨rfl, hv2⟩
    have hb2 := hb1.trans (hv2.mono hb1.size)
    have hW2 := hv1.trans (hv2.mono hv1.size)
    clear hltt q0 q1 q2 q3 q4 q5 q6 q7 q8 q9 q10 q11 hv1 hv2 c1 cW
    have hbt2 := hcells.out w2 hW2
    have q0 := blk_cell hbt2 0
    have q1 := blk_cell hbt2 1
    have q2 := blk_cell hbt2 2
    have q3 := blk_cell hbt2 3
    have q4 := blk_cell hbt2 4
    have q5 := blk_cell hbt2 5
    have q6 := blk_cell hbt2 6
    have q7 := blk_cell hbt2 7
    have q8 := blk_cell hbt2 8
    have q9 := blk_cell hbt2 9
    have q10 := blk_cell hbt2 10
    have q11 := blk_cell hbt2 11
    simp at q0 q1 q2 q3 q4 q5 q6 q7 q8 q9 q10 q11
    have hltt := blk_lt hbt2
    clear hbt2
    go_wp2_with fail
    go_ret
    exact ⟨rfl, hb2⟩
  have hd : decide ((1000 : Int) < (((bs l).size : Nat) : Int)) = false := decide_eq_false (by rw [bs_size]; omega)
  have hTr := Lib.hid (fun w' (h : Below w.heap.size w w') => (hT.below h).more h.size)
  have cD := Lib.hid (fun w' (h : Below w.heap.size w w') => rtxcheck_any x v t T n k0 ps w' (hTr.out w' h) hn (fit_of (hTr.out w' h) rfl hpw hok (by omega)) hx hvw)
  by_cases hte : txErr x v (ps.map Pe.core) = 0
  case neg =>
    have hted : (txErr x v (ps.map Pe.core) != 0) = true := by simpa using hte
    generalize txErr x v (ps.map Pe.core) = te at *
    clear hl2 hg hbt hT hpw hte
    go_enter Tryz.func6, Tryz.ntmps6
    go_wp2_with fail
    refine cW.out.mono ?_
    rintro e w1 ⟨rfl, hv1⟩
    have hb1 := hb0.trans (hv1.mono hz0)
    have hbt1 := hcells.out w1 hv1
    have q0 := blk_cell hbt1 0
    have q1 := blk_cell hbt1 1
    have q2 := blk_cell hbt1 2
    have q3 := blk_cell hbt1 3
    have q4 := blk_cell hbt1 4
    have q5 := blk_cell hbt1 5
    have q6 := blk_cell hbt1 6
    have q7 := blk_cell hbt1 7
    have q8 := blk_cell hbt1 8
    have q9 := blk_cell hbt1 9
    have q10 := blk_cell hbt1 10
    have q11 := blk_cell hbt1 11
    simp at q0 q1 q2 q3 q4 q5 q6 q7 q8 q9 q10 q11
    have hltt := blk_lt hbt1
    clear hbt1
    go_wp2_with fail
    refine (c1.out w1 hb1).mono ?_
    rintro e w2 ⟨rfl, hv2⟩
    have hb2 := hb1.trans (hv2.mono hb1.size)
    have hW2 := hv1.trans (hv2.mono hv1.size)
    clear hltt q0 q1 q2 q3 q4 q5 q6 q7 q8 q9 q10 q11 hv1 hv2 c1 cW
    have hbt2 := hcells.out w2 hW2
    have q0 := blk_cell hbt2 0
    have q1 := blk_cell hbt2 1
    have q2 := blk_cell hbt2 2
    have q3 := blk_cell hbt2 3
    have q4 := blk_cell hbt2 4
    have q5 := blk_cell hbt2 5
    have q6 := blk_cell hbt2 6
    have q7 := blk_cell hbt2 7
    have q8 := blk_cell hbt2 8
    have q9 := blk_cell hbt2 9
    have q10 := blk_cell hbt2 10
    have q11 := blk_cell hbt2 11
    simp at q0 q1 q2 q3 q4 q5 q6 q7 q8 q9 q10 q11
    have hltt := blk_lt hbt2
    clear hbt2
    go_wp2_with fail
    refine (cD.out w2 hb2).mono ?_
    rintro e w3 ⟨rfl, hv3⟩
    have hb3 := hb2.trans (hv3.mono hb2.size)
    clear hltt q0 q1 q2 q3 q4 q5 q6 q7 q8 q9 q10 q11
    go_wp2
    go_ret
    exact ⟨rfl, hb3⟩
  have hted : (txErr x v (ps.map Pe.core) != 0) = false := by simpa using hte
  have cTo := Lib.hid (fun w' (h : Below w.heap.size w w') => txto_any x v t T n k0 ps w' (hTr.out w' h) (by omega) (fun p hp => Nat.le_trans (hok.le hT p hp) (by omega)))
  have hkl : ∀ p ∈ ps, p.key.length ≤ 1000 := fun p hp => Nat.le_trans (hok.pe p hp).1 (by decide)
  have hft := Lib.hid (fun w' A' n' qs (hr : RdE w' w'.heap.size A' n' qs) (hc : qs.map Pe.core = ps.map Pe.core) => (fit_of hr hc hpw hok (by omega) : ∀ q ∈ qs, q.Fit w'))
  have cWr := Lib.hid (fun w' A' c' qs (hb : Below w.heap.size w w') (hr : RdE w' w'.heap.size A' n qs) (hc : qs.map Pe.core = ps.map Pe.core) => by
    have h := xwrite_any x v t A' n c' qs w' hr (by omega) (fit_of hr hc hpw hok (by omega)) (fun p hp => Nat.le_trans (okPs.pe (by rw [hc]; exact hok) p hp).1 (by decide)) hx hvw (hvr.out w' hb)
    rw [hc] at h
    exact (h : Calls Tryz.prog 8 #[.agg #[.int .i64 x.1, .int .u32 x.2, .int .u32 v.d0, .int .u32 v.d1, .int .u32 v.d2, .int .u32 v.d3, .int .u32 v.d4, .int .u32 v.d5, .int .u32 v.d6, .int .u32 v.d7, .bool t, .slice A' n c']] w' fun r w'' => r = .returned (.tuple #[.string (bs (writeX x v t (ps.map Pe.core))), .int .i64 (txErr x v (ps.map Pe.core))]) ∧ Below w'.heap.size w' w''))
  have hwl : (writeX x v t (ps.map Pe.core)).length ≤ 3000000 := by
    unfold writeX
    split
    · exact Nat.zero_le _
    · rename_i h
      have h1 := (txErr_zero (Classical.not_not.1 h)).1
      have h2 := headX_len x hvw t _ h1
      have h3 := partX_len (headX x v t (ps.map Pe.core).length) (ps.map Pe.core) (ps.map Pe.core).length h1 (fun q hq => Nat.le_trans (hok q hq).1 (by decide)) (fun q hq => by obtain ⟨p, hp, rfl⟩ := List.mem_map.1 hq; exact (hpw p hp).1)
      omega
  have hrd := readX_back (t := t) hte hvw (fun q hq => by obtain ⟨p, hp, rfl⟩ := List.mem_map.1 hq; exact (hpw p hp).1) [] l
  have hmm : mergeT ⟨x, v, t, ps.map Pe.core⟩ ⟨x, v, t, ps.map Pe.core⟩ = (⟨x, v, t, ps.map Pe.core⟩, 0) := by
    have h1 := (txErr_zero hte).1
    unfold mergeT
    dsimp only
    rw [hte, if_neg (by decide), if_neg (by decide), if_neg (by simp [eqV_iff.2 (rfl : v = v)]), mrg_self]
    dsimp only
    rw [if_neg (by omega), Bool.and_self]
  rw [hte] at cWr cD
  have hn16 : n ≤ 16 := by have h1 := (txErr_zero hte).1; rw [List.length_map, hT.len] at h1; exact h1
  have hokl := Lib.hid (fun q hq => Nat.le_trans (hok.le hT q hq) (show 100 ≤ maxLen by decide))
  generalize hwc : writeX x v t (ps.map Pe.core) = wc at *
  obtain ⟨LL, hLL⟩ : ∃ LL, wc ++ l = LL := ⟨_, rfl⟩
  have hLl : LL.length ≤ 4000000 := by rw [← hLL, List.length_append]; omega
  have hcat : bs wc ++ bs l = bs LL := by rw [bs_append, hLL]
  have hsz : ¬ 9223372036854775807 < (bs wc).size + (bs l).size := by rw [bs_size, bs_size]; omega
  rw [hLL] at hrd
  have hS0 : stR [] LL = ⟨LL, 0, 0, 0⟩ := rfl
  rw [hS0] at hrd
  have hrdH := Lib.hid hrd
  have hmmH := Lib.hid hmm
  have hlen2 : Hid ((stR ([] ++ wc) l).l.length - (stR ([] ++ wc) l).a = l.length) := Lib.hid (by simp [stR])
  have hl0 : (⟨LL, 0, 0, 0⟩ : Rs).wf := ⟨Nat.zero_le _, by show LL.length ≤ _; omega, by show (0 : Int) ≤ 0; decide, by show (0 : Int) ≤ _; decide, fun _ => rfl⟩
  have hl2w : Hid ((stR ([] ++ wc) l).wf) := Lib.hid (stR_wf (by rw [List.nil_append, hLL]; omega))
  have hl0H := Lib.hid hl0
  have hhl := Lib.hid (show ((bs l).size : Int) = (l.length : Int) by rw [bs_size])
  clear hl2 hg hbt hT hpw hte hrd hmm hwc hkl hok hl0 hS0 hLL hwl
  go_enter Tryz.func6, Tryz.ntmps6
  go_wp2_with fail
  refine cW.out.mono ?_
  rintro e w1 ⟨rfl, hv1⟩
  have hb1 := hb0.trans (hv1.mono hz0)
  have hbt1 := hcells.out w1 hv1
  have q0 := blk_cell hbt1 0
  have q1 := blk_cell hbt1 1
  have q2 := blk_cell hbt1 2
  have q3 := blk_cell hbt1 3
  have q4 := blk_cell hbt1 4
  have q5 := blk_cell hbt1 5
  have q6 := blk_cell hbt1 6
  have q7 := blk_cell hbt1 7
  have q8 := blk_cell hbt1 8
  have q9 := blk_cell hbt1 9
  have q10 := blk_cell hbt1 10
  have q11 := blk_cell hbt1 11
  simp at q0 q1 q2 q3 q4 q5 q6 q7 q8 q9 q10 q11
  have hltt := blk_lt hbt1
  clear hbt1
  go_wp2_with fail
  refine (c1.out w1 hb1).mono ?_
  rintro e w2 ⟨rfl, hv2⟩
  have hb2 := hb1.trans (hv2.mono hb1.size)
  have hW2 := hv1.trans (hv2.mono hv1.size)
  clear hltt q0 q1 q2 q3 q4 q5 q6 q7 q8 q9 q10 q11 hv1 hv2 c1 cW
  have hbt2 := hcells.out w2 hW2
  have q0 := blk_cell hbt2 0
  have q1 := blk_cell hbt2 1
  have q2 := blk_cell hbt2 2
  have q3 := blk_cell hbt2 3
  have q4 := blk_cell hbt2 4
  have q5 := blk_cell hbt2 5
  have q6 := blk_cell hbt2 6
  have q7 := blk_cell hbt2 7
  have q8 := blk_cell hbt2 8
  have q9 := blk_cell hbt2 9
  have q10 := blk_cell hbt2 10
  have q11 := blk_cell hbt2 11
  simp at q0 q1 q2 q3 q4 q5 q6 q7 q8 q9 q10 q11
  have hltt := blk_lt hbt2
  clear hbt2
  go_wp2_with fail
  refine (cD.out w2 hb2).mono ?_
  rintro e w3 ⟨rfl, hv3⟩
  have hb3 := hb2.trans (hv3.mono hb2.size)
  have hW3 := hW2.trans (hv3.mono hW2.size)
  clear hltt q0 q1 q2 q3 q4 q5 q6 q7 q8 q9 q10 q11 cD hv3 hb2 hW2
  have hbt3 := hcells.out w3 hW3
  have q0 := blk_cell hbt3 0
  have q1 := blk_cell hbt3 1
  have q2 := blk_cell hbt3 2
  have q3 := blk_cell hbt3 3
  have q4 := blk_cell hbt3 4
  have q5 := blk_cell hbt3 5
  have q6 := blk_cell hbt3 6
  have q7 := blk_cell hbt3 7
  have q8 := blk_cell hbt3 8
  have q9 := blk_cell hbt3 9
  have q10 := blk_cell hbt3 10
  have q11 := blk_cell hbt3 11
  simp at q0 q1 q2 q3 q4 q5 q6 q7 q8 q9 q10 q11
  have hltt := blk_lt hbt3
  clear hbt3
  go_wp2_with fail
  refine (cTo.out w3 hb3).mono ?_
  rintro e w4 ⟨A3, c3, qs, rfl, o3, hq3, hv4⟩
  have hb4 := hb3.trans (hv4.mono hb3.size)
  have hW4 := hW3.trans (hv4.mono hW3.size)
  clear hltt q0 q1 q2 q3 q4 q5 q6 q7 q8 q9 q10 q11 hv4 hb3 hW3
  go_wp2_with fail
  refine (cWr.out w4 A3 c3 qs hb4 o3.rd hq3).mono ?_
  rintro e wA ⟨rfl, hv5⟩
  have hwA := hb4.trans (hv5.mono hb4.size)
  have hWA := hW4.trans (hv5.mono hW4.size)
  have hzA := hwA.size
  have hzWA := hWA.size
  clear o3 hq3 cWr hv5 hb4 hW4
  go_wp2_with fail
  refine (pnew_any _ _).mono ?_
  rintro e wB ⟨rfl, hwBe⟩
  have hbB : Below wA.heap.size wA wB := by rw [hwBe]; exact (Below.refl _ wA).alloc (Nat.le_refl _) _
  have hPB : RdrP wB wA.heap.size ⟨LL, 0, 0, 0⟩ := by rw [hwBe]; exact ⟨_, heap_at _ _ rfl, .inl ⟨rfl, rfl⟩⟩
  clear hwBe
  have hzB := hbB.size
  have hwB := hwA.trans (hbB.mono hzA)
  have hWB := hWA.trans (hbB.mono hzWA)
  have hpq : wA.heap.size < wB.heap.size := hPB.lt
  have cRd := xread_any wA.heap.size ⟨LL, 0, 0, 0⟩ wB hPB hl0H.out (hvr.out wB hwB)
  rw [hrdH.out] at cRd
  dsimp only at cRd
  have cRd := Lib.hid cRd
  generalize hpe : wA.heap.size = p at *
  go_wp2_with fail
  refine cRd.out.mono ?_
  rintro e w6 ⟨A6, n6, c6, qs6, rfl, o6, hq6, hP6, hg6⟩
  have hz6 := hg6.size
  have hb6 : Below w.heap.size w w6 := hwB.grown hg6 hwB.size (by rintro g e; injection e with e; omega)
  have hW6 : Below W.heap.size W w6 := hWB.grown hg6 hWB.size (by rintro g e; injection e with e; omega)
  clear cRd hPB hg6 hwB hWB hwA hWA hbB hpe
  obtain ⟨u0, hu0⟩ : ∃ u0, w6.alloc (.cells #[.int .i64 x.1, .int .u32 x.2, .int .u32 v.d0, .int .u32 v.d1, .int .u32 v.d2, .int .u32 v.d3, .int .u32 v.d4, .int .u32 v.d5, .int .u32 v.d6, .int .u32 v.d7, .bool t, .slice A6 n6 c6] 36) = u0 := ⟨_, rfl⟩
  have hbu : Below w6.heap.size w6 u0 := by rw [← hu0]; exact (Below.refl _ w6).alloc (Nat.le_refl _) _
  have h8 : u0.heap[w6.heap.size]? = some (.cells #[.int .i64 x.1, .int .u32 x.2, .int .u32 v.d0, .int .u32 v.d1, .int .u32 v.d2, .int .u32 v.d3, .int .u32 v.d4, .int .u32 v.d5, .int .u32 v.d6, .int .u32 v.d7, .bool t, .slice A6 n6 c6] 36 (0, 0)) := by rw [← hu0]; exact heap_at _ _ rfl
  go_upto_region 8 with (fail)
  have hzu := hbu.size
  have hWu : Below W.heap.size W u0 := hW6.trans (hbu.mono hW6.size)
  have hbu0 : Below w.heap.size w u0 := hb6.trans (hbu.mono hb6.size)
  have hbtu := hcells.out u0 hWu
  have q0 := blk_cell hbtu 0
  have q1 := blk_cell hbtu 1
  have q2 := blk_cell hbtu 2
  have q3 := blk_cell hbtu 3
  have q4 := blk_cell hbtu 4
  have q5 := blk_cell hbtu 5
  have q6 := blk_cell hbtu 6
  have q7 := blk_cell hbtu 7
  have q8 := blk_cell hbtu 8
  have q9 := blk_cell hbtu 9
  have q10 := blk_cell hbtu 10
  have q11 := blk_cell hbtu 11
  simp at q0 q1 q2 q3 q4 q5 q6 q7 q8 q9 q10 q11
  have hltt := blk_lt hbtu
  clear hbtu
  have cA := Lib.hid (fun w' (h : KQ u0.heap.size u0 w') => cTo.out w' (hbu0.trans (h.1.mono hbu0.size)))
  have cM := Lib.hid (fun A3 c3 qs3 A4 c4 qs4 w' (h : KQ u0.heap.size u0 w') (h3 : RdE w' w'.heap.size A3 n qs3) (e3 : qs3.map Pe.core = ps.map Pe.core) (h4 : RdE w' w'.heap.size A4 n qs4) (e4 : qs4.map Pe.core = ps.map Pe.core) =>
    txmerge_any x v t A3 n c3 qs3 x v t A4 n c4 qs4 w' h3 (by unfold maxLen; omega) (hft.out w' A3 n qs3 h3 e3) hx hvw h4 (by unfold maxLen; omega) (hft.out w' A4 n qs4 h4 e4) hx hvw (hvr.out w' (hbu0.trans (h.1.mono hbu0.size))) (⟨x, v, t, ps.map Pe.core⟩, 0) (by rw [e3, e4]; exact hmmH.out))
  go_cut [9, 10] (fun s9 s10 wx => ∃ g9 A5 n5 c5 rs5, s9 = .pointer (some ⟨g9, 0, none⟩) ∧ s10 = .int .i64 0 ∧ wx.heap[g9]? = some (.cells #[.int .i64 x.1, .int .u32 x.2, .int .u32 v.d0, .int .u32 v.d1, .int .u32 v.d2, .int .u32 v.d3, .int .u32 v.d4, .int .u32 v.d5, .int .u32 v.d6, .int .u32 v.d7, .bool t, .slice A5 n5 c5] 36 (0, 0)) ∧ OwE 101 wx u0.heap.size A5 n5 c5 rs5 ∧ rs5.map Pe.core = ps.map Pe.core ∧ Below u0.heap.size u0 wx)
  case first =>
    refine wp_region_M (fun w' => KQ u0.heap.size u0 w') (fun _ => True) 99 (by kernel_rfl) (kq (Below.refl _ _).drew) trivial ?_
    intro hcl
    have hC : KQ u0.heap.size u0 u0.drew := kq (Below.refl _ _).drew
    have hE := trivial
    (refine wpM_take (i := 0) (v := ?_) rfl (by kernel_rfl) (by kernel_rfl) (by kernel_rfl) (by decide) (fun _ _ _ h => h) hcl hC (fun _ => hE) (Or.inl ⟨by rfl, ?_⟩) ?_; rotate_left; (· (intro w hSw; (try dsimp only at hSw); go_simp; (try with_reducible rfl))); clear hcl; intro hcl; (try simp only [Act.put, List.getElem_toArray, List.getElem_cons_zero, List.setIfInBounds_toArray, List.set_cons_zero, List.set_cons_succ]))
    (refine wpM_take (i := 2) (v := ?_) rfl (by kernel_rfl) (by kernel_rfl) (by kernel_rfl) (by decide) (fun _ _ _ h => h) hcl hC (fun _ => hE) (Or.inl ⟨by rfl, ?_⟩) ?_; rotate_left; (· (intro w hSw; (try dsimp only at hSw); go_simp; (try with_reducible rfl))); clear hcl; intro hcl; (try simp only [Act.put, List.getElem_toArray, List.getElem_cons_zero, List.getElem_cons_succ, List.setIfInBounds_toArray, List.set_cons_zero, List.set_cons_succ]))
    refine wpM_two (i := 1) (j := 8) rfl rfl (by kernel_rfl) hcl (fun K hK => ?_) (fun K hK => ?_)
    · go_simp
      refine (cA.out _ hC).mono ?_
      rintro e v3 ⟨A3, c3, qs3, rfl, o3, hq3, hb3⟩
      (try replace hx := blk_below hx hb3)
      have hC' := kq_call hC (Nat.le_refl _) hb3
      refine hK.out _ _ hC' trivial ?_
      clear hK K
      clear hcl
      intro hcl
      (try simp only [Act.put, List.getElem_toArray, List.getElem_cons_zero, List.getElem_cons_succ, List.setIfInBounds_toArray, List.set_cons_zero, List.set_cons_succ])
      clear hC
      have hC := hC'
      clear hC'
      refine wpM_two (i := 3) (j := 8) rfl rfl (by kernel_rfl) hcl (fun K hK => ?_) (fun K hK => ?_)
      · go_simp
        refine (cA.out _ hC).mono ?_
        rintro e v4 ⟨A4, c4, qs4, rfl, o4, hq4, hb4⟩
        replace o3 := o3.below hb4
        (try replace hx := blk_below hx hb4)
        have hC' := kq_call hC (Nat.le_refl _) hb4
        refine hK.out _ _ hC' trivial ?_
        clear hK K
        clear hcl
        intro hcl
        (try simp only [Act.put, List.getElem_toArray, List.getElem_cons_zero, List.getElem_cons_succ, List.setIfInBounds_toArray, List.set_cons_zero, List.set_cons_succ])
        clear hC
        have hC := hC'
        clear hC'
        have hzv4 := hC.1.size
        refine wpM_two (i := 4) (j := 8) rfl rfl (by kernel_rfl) hcl (fun K hK => ?_) (fun K hK => ?_)
        · go_simp
          refine (cM.out _ _ _ _ _ _ _ hC o3.rd hq3 o4.rd hq4).mono ?_
          rintro e v5 ⟨A5, n5, c5, rs5, rfl, o5, hr5, hb5⟩
          (try have hgo := blk_lt hx)
          (try replace hx := blk_below hx hb5)
          have hC' := kq_call hC (Nat.le_refl _) hb5
          refine hK.out _ _ hC' trivial ?_
          clear hK K
          clear hcl
          intro hcl
          (try simp only)
          clear hC
          have hC := hC'
          clear hC'
          (refine wpM_take (i := 5) (v := ?_) rfl (by kernel_rfl) (by kernel_rfl) (by kernel_rfl) (by decide) (fun _ _ _ h => h) hcl hC (fun _ => hE) (Or.inl ⟨by rfl, ?_⟩) ?_; rotate_left; (· (intro w hSw; (try dsimp only at hSw); go_simp; (try with_reducible rfl))); clear hcl; intro hcl; (try simp only [Act.put, List.getElem_toArray, List.getElem_cons_zero, List.getElem_cons_succ, List.setIfInBounds_toArray, List.set_cons_zero, List.set_cons_succ]))
          (refine wpM_take (i := 6) (v := ?_) rfl (by kernel_rfl) (by kernel_rfl) (by kernel_rfl) (by decide) (fun _ _ _ h => h) hcl hC (fun _ => hE) (Or.inl ⟨by rfl, ?_⟩) ?_; rotate_left; (· (intro w hSw; (try dsimp only at hSw); go_simp; (try with_reducible rfl))); clear hcl; intro hcl; (try simp only [Act.put, List.getElem_toArray, List.getElem_cons_zero, List.getElem_cons_succ, List.setIfInBounds_toArray, List.set_cons_zero, List.set_cons_succ]))
          (refine wpM_take (i := 7) (v := ?_) rfl (by kernel_rfl) (by kernel_rfl) (by kernel_rfl) (by decide) (fun _ _ _ h => h) hcl hC (fun _ => hE) (Or.inl ⟨by rfl, ?_⟩) ?_; rotate_left; (· (intro w hSw; (try dsimp only at hSw); go_simp; (try with_reducible rfl))); clear hcl; intro hcl; (try simp only [Act.put, List.getElem_toArray, List.getElem_cons_zero, List.getElem_cons_succ, List.setIfInBounds_toArray, List.set_cons_zero, List.set_cons_succ]))
          have hC5 := hC
          have hCA : KQ u0.heap.size u0 (v5.alloc (.cells #[.int .i64 0, .int .u32 0, .int .u32 0, .int .u32 0, .int .u32 0, .int .u32 0, .int .u32 0, .int .u32 0, .int .u32 0, .int .u32 0, .bool false, .slice none 0 0] 36)) := kq (hC.1.alloc hC.1.size _)
          have hx : (v5.alloc (.cells #[.int .i64 0, .int .u32 0, .int .u32 0, .int .u32 0, .int .u32 0, .int .u32 0, .int .u32 0, .int .u32 0, .int .u32 0, .int .u32 0, .bool false, .slice none 0 0] 36)).heap[v5.heap.size]? = some (.cells #[.int .i64 0, .int .u32 0, .int .u32 0, .int .u32 0, .int .u32 0, .int .u32 0, .int .u32 0, .int .u32 0, .int .u32 0, .int .u32 0, .bool false, .slice none 0 0] 36 (0, 0)) := heap_at _ _ rfl
          refine wpM_only (i := 8) rfl (by kernel_rfl) hcl (fun K hK => ?_)
          go_simp
          refine hK.out _ _ hCA trivial ?_
          clear hK K
          clear hcl
          intro hcl
          (try simp only [Act.put, List.getElem_toArray, List.getElem_cons_zero, List.getElem_cons_succ, List.setIfInBounds_toArray, List.set_cons_zero, List.set_cons_succ])
          clear hC
          have hC := hCA
          clear hCA
          have hlx := blk_lt hx
          have hfx := blk_frozen hx
          have x0 := blk_cell hx 0
          have x1 := blk_cell hx 1
          have x2 := blk_cell hx 2
          have x3 := blk_cell hx 3
          have x4 := blk_cell hx 4
          have x5 := blk_cell hx 5
          have x6 := blk_cell hx 6
          have x7 := blk_cell hx 7
          have x8 := blk_cell hx 8
          have x9 := blk_cell hx 9
          have x10 := blk_cell hx 10
          have x11 := blk_cell hx 11
          simp at x0 x1 x2 x3 x4 x5 x6 x7 x8 x9 x10 x11
          have hC3 : KQ u0.heap.size u0 (v5.alloc (.cells #[.int .i64 x.1, .int .u32 x.2, .int .u32 v.d0, .int .u32 v.d1, .int .u32 v.d2, .int .u32 v.d3, .int .u32 v.d4, .int .u32 v.d5, .int .u32 v.d6, .int .u32 v.d7, .bool t, .slice A5 n5 c5] 36)) := kq (hC5.1.alloc hC5.1.size _)
          refine wpM_only (i := 9) rfl (by kernel_rfl) hcl (fun K hK => ?_)
          go_simp
          refine hK.out _ _ hC3 trivial ?_
          clear hK K
          clear hcl
          intro hcl
          (try simp only [Act.put, List.getElem_toArray, List.getElem_cons_zero, List.getElem_cons_succ, List.setIfInBounds_toArray, List.set_cons_zero, List.set_cons_succ])
          clear hC
          have hC := hC3
          (refine wpM_take (i := 10) (v := ?_) rfl (by kernel_rfl) (by kernel_rfl) (by kernel_rfl) (by decide) (fun _ _ _ h => h) hcl hC (fun _ => hE) (Or.inl ⟨by rfl, ?_⟩) ?_; rotate_left; (· (intro w hSw; (try dsimp only at hSw); go_simp; (try with_reducible rfl))); clear hcl; intro hcl; (try simp only [Act.put, List.getElem_toArray, List.getElem_cons_zero, List.getElem_cons_succ, List.setIfInBounds_toArray, List.set_cons_zero, List.set_cons_succ]))
          refine wpM_done (by kernel_rfl) ?_
          clear hcl
          try simp only [List.getElem_toArray, List.getElem_cons_zero, List.getElem_cons_succ, List.setIfInBounds_toArray, List.set_cons_zero, List.set_cons_succ]
          go_wp2_with fail
          go_meet
          have hO3 := o5.below ((Below.refl v5.heap.size v5).alloc (Nat.le_refl _) (.cells #[.int .i64 x.1, .int .u32 x.2, .int .u32 v.d0, .int .u32 v.d1, .int .u32 v.d2, .int .u32 v.d3, .int .u32 v.d4, .int .u32 v.d5, .int .u32 v.d6, .int .u32 v.d7, .bool t, .slice A5 n5 c5] 36))
          exact ⟨_, A5, n5, c5, rs5, rfl, rfl, heap_at _ _ rfl, ⟨hO3.1.base (by have := hC5.1.size; omega), fun q hq => (hO3.2 q hq).base (by omega)⟩, hr5, hC3.1⟩
        · go_simp
          have hC3 : KQ u0.heap.size u0 (v4.alloc (.cells #[.int .i64 0, .int .u32 0, .int .u32 0, .int .u32 0, .int .u32 0, .int .u32 0, .int .u32 0, .int .u32 0, .int .u32 0, .int .u32 0, .bool false, .slice none 0 0] 36)) := kq ((Below.refl _ _).trans (by first | exact (hC.1.alloc hC.1.size _) | exact ((Below.refl _ _).alloc (Nat.le_refl _) _).drew))
          have hx : (v4.alloc (.cells #[.int .i64 0, .int .u32 0, .int .u32 0, .int .u32 0, .int .u32 0, .int .u32 0, .int .u32 0, .int .u32 0, .int .u32 0, .int .u32 0, .bool false, .slice none 0 0] 36)).heap[v4.heap.size]? = some (.cells #[.int .i64 0, .int .u32 0, .int .u32 0, .int .u32 0, .int .u32 0, .int .u32 0, .int .u32 0, .int .u32 0, .int .u32 0, .int .u32 0, .bool false, .slice none 0 0] 36 (0, 0)) := (by first | exact heap_at _ _ rfl | exact heap_drew (heap_at _ _ rfl))
          have hbA : Below v4.heap.size v4 (v4.alloc (.cells #[.int .i64 0, .int .u32 0, .int .u32 0, .int .u32 0, .int .u32 0, .int .u32 0, .int .u32 0, .int .u32 0, .int .u32 0, .int .u32 0, .bool false, .slice none 0 0] 36)) := (by first | exact (Below.refl _ _).alloc (Nat.le_refl _) _ | exact ((Below.refl _ _).alloc (Nat.le_refl _) _).drew)
          have hzg : u0.heap.size ≤ v4.heap.size := (by first | exact Nat.le_refl _ | exact hC.1.size)
          (try replace o3 := o3.below hbA)
          (try replace o4 := o4.below hbA)
          refine hK.out _ _ hC3 trivial ?_
          clear hK K
          clear hcl
          intro hcl
          (try simp only [Act.put, List.getElem_toArray, List.getElem_cons_zero, List.getElem_cons_succ, List.setIfInBounds_toArray, List.set_cons_zero, List.set_cons_succ])
          clear hC
          have hC := hC3
          clear hC3
          refine wpM_only (i := 4) rfl (by kernel_rfl) hcl (fun K hK => ?_)
          go_simp
          refine (cM.out _ _ _ _ _ _ _ hC o3.rd hq3 o4.rd hq4).mono ?_
          rintro e v5 ⟨A5, n5, c5, rs5, rfl, o5, hr5, hb5⟩
          (try have hgo := blk_lt hx)
          (try replace hx := blk_below hx hb5)
          have hC' := kq_call hC (Nat.le_refl _) hb5
          refine hK.out _ _ hC' trivial ?_
          clear hK K
          clear hcl
          intro hcl
          (try simp only)
          clear hC
          have hC := hC'
          clear hC'
          (refine wpM_take (i := 5) (v := ?_) rfl (by kernel_rfl) (by kernel_rfl) (by kernel_rfl) (by decide) (fun _ _ _ h => h) hcl hC (fun _ => hE) (Or.inl ⟨by rfl, ?_⟩) ?_; rotate_left; (· (intro w hSw; (try dsimp only at hSw); go_simp; (try with_reducible rfl))); clear hcl; intro hcl; (try simp only [Act.put, List.getElem_toArray, List.getElem_cons_zero, List.getElem_cons_succ, List.setIfInBounds_toArray, List.set_cons_zero, List.set_cons_succ]))
          (refine wpM_take (i := 6) (v := ?_) rfl (by kernel_rfl) (by kernel_rfl) (by kernel_rfl) (by decide) (fun _ _ _ h => h) hcl hC (fun _ => hE) (Or.inl ⟨by rfl, ?_⟩) ?_; rotate_left; (· (intro w hSw; (try dsimp only at hSw); go_simp; (try with_reducible rfl))); clear hcl; intro hcl; (try simp only [Act.put, List.getElem_toArray, List.getElem_cons_zero, List.getElem_cons_succ, List.setIfInBounds_toArray, List.set_cons_zero, List.set_cons_succ]))
          (refine wpM_take (i := 7) (v := ?_) rfl (by kernel_rfl) (by kernel_rfl) (by kernel_rfl) (by decide) (fun _ _ _ h => h) hcl hC (fun _ => hE) (Or.inl ⟨by rfl, ?_⟩) ?_; rotate_left; (· (intro w hSw; (try dsimp only at hSw); go_simp; (try with_reducible rfl))); clear hcl; intro hcl; (try simp only [Act.put, List.getElem_toArray, List.getElem_cons_zero, List.getElem_cons_succ, List.setIfInBounds_toArray, List.set_cons_zero, List.set_cons_succ]))
          have hlx := blk_lt hx
          have hfx := blk_frozen hx
          have hzC := hC.1.size
          have x0 := blk_cell hx 0
          have x1 := blk_cell hx 1
          have x2 := blk_cell hx 2
          have x3 := blk_cell hx 3
          have x4 := blk_cell hx 4
          have x5 := blk_cell hx 5
          have x6 := blk_cell hx 6
          have x7 := blk_cell hx 7
          have x8 := blk_cell hx 8
          have x9 := blk_cell hx 9
          have x10 := blk_cell hx 10
          have x11 := blk_cell hx 11
          simp at x0 x1 x2 x3 x4 x5 x6 x7 x8 x9 x10 x11
          have hgu : u0.heap.size ≤ v4.heap.size := (by first | exact Nat.le_refl _ | exact hzg)
          have hC3 : KQ u0.heap.size u0 _ := kq (set12_keep (g := v4.heap.size) hC.1 hgu (.int .i64 x.1) (.int .u32 x.2) (.int .u32 v.d0) (.int .u32 v.d1) (.int .u32 v.d2) (.int .u32 v.d3) (.int .u32 v.d4) (.int .u32 v.d5) (.int .u32 v.d6) (.int .u32 v.d7) (.bool t) (.slice A5 n5 c5))
          have hS3 := heap12 hx (.int .i64 x.1) (.int .u32 x.2) (.int .u32 v.d0) (.int .u32 v.d1) (.int .u32 v.d2) (.int .u32 v.d3) (.int .u32 v.d4) (.int .u32 v.d5) (.int .u32 v.d6) (.int .u32 v.d7) (.bool t) (.slice A5 n5 c5)
          have hO3 := set12_own (g := v4.heap.size) o5 (by first | exact hgo | exact blk_lt hx0) (.int .i64 x.1) (.int .u32 x.2) (.int .u32 v.d0) (.int .u32 v.d1) (.int .u32 v.d2) (.int .u32 v.d3) (.int .u32 v.d4) (.int .u32 v.d5) (.int .u32 v.d6) (.int .u32 v.d7) (.bool t) (.slice A5 n5 c5)
          refine wpM_only (i := 9) rfl (by kernel_rfl) hcl (fun K hK => ?_)
          go_simp
          refine hK.out _ _ hC3 trivial ?_
          clear hK K
          clear hcl
          intro hcl
          (try simp only [Act.put, List.getElem_toArray, List.getElem_cons_zero, List.getElem_cons_succ, List.setIfInBounds_toArray, List.set_cons_zero, List.set_cons_succ])
          clear hC
          have hC := hC3
          (refine wpM_take (i := 10) (v := ?_) rfl (by kernel_rfl) (by kernel_rfl) (by kernel_rfl) (by decide) (fun _ _ _ h => h) hcl hC (fun _ => hE) (Or.inl ⟨by rfl, ?_⟩) ?_; rotate_left; (· (intro w hSw; (try dsimp only at hSw); go_simp; (try with_reducible rfl))); clear hcl; intro hcl; (try simp only [Act.put, List.getElem_toArray, List.getElem_cons_zero, List.getElem_cons_succ, List.setIfInBounds_toArray, List.set_cons_zero, List.set_cons_succ]))
          refine wpM_done (by kernel_rfl) ?_
          clear hcl
          try simp only [List.getElem_toArray, List.getElem_cons_zero, List.getElem_cons_succ, List.setIfInBounds_toArray, List.set_cons_zero, List.set_cons_succ]
          go_wp2_with fail
          go_meet
          exact ⟨_, A5, n5, c5, rs5, rfl, rfl, hS3, ⟨hO3.1.base (by have := hC.1.size; omega), fun q hq => (hO3.2 q hq).base (by omega)⟩, hr5, hC3.1⟩
      · go_simp
        have hC3 : KQ u0.heap.size u0 (v3.alloc (.cells #[.int .i64 0, .int .u32 0, .int .u32 0, .int .u32 0, .int .u32 0, .int .u32 0, .int .u32 0, .int .u32 0, .int .u32 0, .int .u32 0, .bool false, .slice none 0 0] 36)) := kq ((Below.refl _ _).trans (by first | exact (hC.1.alloc hC.1.size _) | exact ((Below.refl _ _).alloc (Nat.le_refl _) _).drew))
        have hx : (v3.alloc (.cells #[.int .i64 0, .int .u32 0, .int .u32 0, .int .u32 0, .int .u32 0, .int .u32 0, .int .u32 0, .int .u32 0, .int .u32 0, .int .u32 0, .bool false, .slice none 0 0] 36)).heap[v3.heap.size]? = some (.cells #[.int .i64 0, .int .u32 0, .int .u32 0, .int .u32 0, .int .u32 0, .int .u32 0, .int .u32 0, .int .u32 0, .int .u32 0, .int .u32 0, .bool false, .slice none 0 0] 36 (0, 0)) := (by first | exact heap_at _ _ rfl | exact heap_drew (heap_at _ _ rfl))
        have hbA : Below v3.heap.size v3 (v3.alloc (.cells #[.int .i64 0, .int .u32 0, .int .u32 0, .int .u32 0, .int .u32 0, .int .u32 0, .int .u32 0, .int .u32 0, .int .u32 0, .int .u32 0, .bool false, .slice none 0 0] 36)) := (by first | exact (Below.refl _ _).alloc (Nat.le_refl _) _ | exact ((Below.refl _ _).alloc (Nat.le_refl _) _).drew)
        have hzg : u0.heap.size ≤ v3.heap.size := (by first | exact Nat.le_refl _ | exact hC.1.size)
        (try replace o3 := o3.below hbA)
        (try replace o4 := o4.below hbA)
        refine hK.out _ _ hC3 trivial ?_
        clear hK K
        clear hcl
        intro hcl
        (try simp only [Act.put, List.getElem_toArray, List.getElem_cons_zero, List.getElem_cons_succ, List.setIfInBounds_toArray, List.set_cons_zero, List.set_cons_succ])
        clear hC
        have hC := hC3
        clear hC3
        refine wpM_only (i := 3) rfl (by kernel_rfl) hcl (fun K hK => ?_)
        go_simp
        refine (cA.out _ hC).mono ?_
        rintro e v4 ⟨A4, c4, qs4, rfl, o4, hq4, hb4⟩
        replace o3 := o3.below hb4
        (try replace hx := blk_below hx hb4)
        have hC' := kq_call hC (Nat.le_refl _) hb4
        refine hK.out _ _ hC' trivial ?_
        clear hK K
        clear hcl
        intro hcl
        (try simp only [Act.put, List.getElem_toArray, List.getElem_cons_zero, List.getElem_cons_succ, List.setIfInBounds_toArray, List.set_cons_zero, List.set_cons_succ])
        clear hC
        have hC := hC'
        clear hC'
        have hzv4 := hC.1.size
        refine wpM_only (i := 4) rfl (by kernel_rfl) hcl (fun K hK => ?_)
        go_simp
        refine (cM.out _ _ _ _ _ _ _ hC o3.rd hq3 o4.rd hq4).mono ?_
        rintro e v5 ⟨A5, n5, c5, rs5, rfl, o5, hr5, hb5⟩
        (try have hgo := blk_lt hx)
        (try replace hx := blk_below hx hb5)
        have hC' := kq_call hC (Nat.le_refl _) hb5
        refine hK.out _ _ hC' trivial ?_
        clear hK K
        clear hcl
        intro hcl
        (try simp only)
        clear hC
        have hC := hC'
        clear hC'
        (refine wpM_take (i := 5) (v := ?_) rfl (by kernel_rfl) (by kernel_rfl) (by kernel_rfl) (by decide) (fun _ _ _ h => h) hcl hC (fun _ => hE) (Or.inl ⟨by rfl, ?_⟩) ?_; rotate_left; (· (intro w hSw; (try dsimp only at hSw); go_simp; (try with_reducible rfl))); clear hcl; intro hcl; (try simp only [Act.put, List.getElem_toArray, List.getElem_cons_zero, List.getElem_cons_succ, List.setIfInBounds_toArray, List.set_cons_zero, List.set_cons_succ]))
        (refine wpM_take (i := 6) (v := ?_) rfl (by kernel_rfl) (by kernel_rfl) (by kernel_rfl) (by decide) (fun _ _ _ h => h) hcl hC (fun _ => hE) (Or.inl ⟨by rfl, ?_⟩) ?_; rotate_left; (· (intro w hSw; (try dsimp only at hSw); go_simp; (try with_reducible rfl))); clear hcl; intro hcl; (try simp only [Act.put, List.getElem_toArray, List.getElem_cons_zero, List.getElem_cons_succ, List.setIfInBounds_toArray, List.set_cons_zero, List.set_cons_succ]))
        (refine wpM_take (i := 7) (v := ?_) rfl (by kernel_rfl) (by kernel_rfl) (by kernel_rfl) (by decide) (fun _ _ _ h => h) hcl hC (fun _ => hE) (Or.inl ⟨by rfl, ?_⟩) ?_; rotate_left; (· (intro w hSw; (try dsimp only at hSw); go_simp; (try with_reducible rfl))); clear hcl; intro hcl; (try simp only [Act.put, List.getElem_toArray, List.getElem_cons_zero, List.getElem_cons_succ, List.setIfInBounds_toArray, List.set_cons_zero, List.set_cons_succ]))
        have hlx := blk_lt hx
        have hfx := blk_frozen hx
        have hzC := hC.1.size
        have x0 := blk_cell hx 0
        have x1 := blk_cell hx 1
        have x2 := blk_cell hx 2
        have x3 := blk_cell hx 3
        have x4 := blk_cell hx 4
        have x5 := blk_cell hx 5
        have x6 := blk_cell hx 6
        have x7 := blk_cell hx 7
        have x8 := blk_cell hx 8
        have x9 := blk_cell hx 9
        have x10 := blk_cell hx 10
        have x11 := blk_cell hx 11
        simp at x0 x1 x2 x3 x4 x5 x6 x7 x8 x9 x10 x11
        have hgu : u0.heap.size ≤ v3.heap.size := (by first | exact Nat.le_refl _ | exact hzg)
        have hC3 : KQ u0.heap.size u0 _ := kq (set12_keep (g := v3.heap.size) hC.1 hgu (.int .i64 x.1) (.int .u32 x.2) (.int .u32 v.d0) (.int .u32 v.d1) (.int .u32 v.d2) (.int .u32 v.d3) (.int .u32 v.d4) (.int .u32 v.d5) (.int .u32 v.d6) (.int .u32 v.d7) (.bool t) (.slice A5 n5 c5))
        have hS3 := heap12 hx (.int .i64 x.1) (.int .u32 x.2) (.int .u32 v.d0) (.int .u32 v.d1) (.int .u32 v.d2) (.int .u32 v.d3) (.int .u32 v.d4) (.int .u32 v.d5) (.int .u32 v.d6) (.int .u32 v.d7) (.bool t) (.slice A5 n5 c5)
        have hO3 := set12_own (g := v3.heap.size) o5 (by first | exact hgo | exact blk_lt hx0) (.int .i64 x.1) (.int .u32 x.2) (.int .u32 v.d0) (.int .u32 v.d1) (.int .u32 v.d2) (.int .u32 v.d3) (.int .u32 v.d4) (.int .u32 v.d5) (.int .u32 v.d6) (.int .u32 v.d7) (.bool t) (.slice A5 n5 c5)
        refine wpM_only (i := 9) rfl (by kernel_rfl) hcl (fun K hK => ?_)
        go_simp
        refine hK.out _ _ hC3 trivial ?_
        clear hK K
        clear hcl
        intro hcl
        (try simp only [Act.put, List.getElem_toArray, List.getElem_cons_zero, List.getElem_cons_succ, List.setIfInBounds_toArray, List.set_cons_zero, List.set_cons_succ])
        clear hC
        have hC := hC3
        (refine wpM_take (i := 10) (v := ?_) rfl (by kernel_rfl) (by kernel_rfl) (by kernel_rfl) (by decide) (fun _ _ _ h => h) hcl hC (fun _ => hE) (Or.inl ⟨by rfl, ?_⟩) ?_; rotate_left; (· (intro w hSw; (try dsimp only at hSw); go_simp; (try with_reducible rfl))); clear hcl; intro hcl; (try simp only [Act.put, List.getElem_toArray, List.getElem_cons_zero, List.getElem_cons_succ, List.setIfInBounds_toArray, List.set_cons_zero, List.set_cons_succ]))
        refine wpM_done (by kernel_rfl) ?_
        clear hcl
        try simp only [List.getElem_toArray, List.getElem_cons_zero, List.getElem_cons_succ, List.setIfInBounds_toArray, List.set_cons_zero, List.set_cons_succ]
        go_wp2_with fail
        go_meet
        exact ⟨_, A5, n5, c5, rs5, rfl, rfl, hS3, ⟨hO3.1.base (by have := hC.1.size; omega), fun q hq => (hO3.2 q hq).base (by omega)⟩, hr5, hC3.1⟩
    · go_simp
      have hC3 : KQ u0.heap.size u0 (u0.alloc (.cells #[.int .i64 0, .int .u32 0, .int .u32 0, .int .u32 0, .int .u32 0, .int .u32 0, .int .u32 0, .int .u32 0, .int .u32 0, .int .u32 0, .bool false, .slice none 0 0] 36)).drew := kq ((Below.refl _ _).trans (by first | exact (hC.1.alloc hC.1.size _) | exact ((Below.refl _ _).alloc (Nat.le_refl _) _).drew))
      have hx : (u0.alloc (.cells #[.int .i64 0, .int .u32 0, .int .u32 0, .int .u32 0, .int .u32 0, .int .u32 0, .int .u32 0, .int .u32 0, .int .u32 0, .int .u32 0, .bool false, .slice none 0 0] 36)).drew.heap[u0.heap.size]? = some (.cells #[.int .i64 0, .int .u32 0, .int .u32 0, .int .u32 0, .int .u32 0, .int .u32 0, .int .u32 0, .int .u32 0, .int .u32 0, .int .u32 0, .bool false, .slice none 0 0] 36 (0, 0)) := (by first | exact heap_at _ _ rfl | exact heap_drew (heap_at _ _ rfl))
      have hbA : Below u0.heap.size u0 (u0.alloc (.cells #[.int .i64 0, .int .u32 0, .int .u32 0, .int .u32 0, .int .u32 0, .int .u32 0, .int .u32 0, .int .u32 0, .int .u32 0, .int .u32 0, .bool false, .slice none 0 0] 36)).drew := (by first | exact (Below.refl _ _).alloc (Nat.le_refl _) _ | exact ((Below.refl _ _).alloc (Nat.le_refl _) _).drew)
      have hzg : u0.heap.size ≤ u0.heap.size := (by first | exact Nat.le_refl _ | exact hC.1.size)
      (try replace o3 := o3.below hbA)
      (try replace o4 := o4.below hbA)
      refine hK.out _ _ hC3 trivial ?_
      clear hK K
      clear hcl
      intro hcl
      (try simp only [Act.put, List.getElem_toArray, List.getElem_cons_zero, List.getElem_cons_succ, List.setIfInBounds_toArray, List.set_cons_zero, List.set_cons_succ])
      clear hC
      have hC := hC3
      clear hC3
      refine wpM_only (i := 1) rfl (by kernel_rfl) hcl (fun K hK => ?_)
      go_simp
      refine (cA.out _ hC).mono ?_
      rintro e v3 ⟨A3, c3, qs3, rfl, o3, hq3, hb3⟩
      (try replace hx := blk_below hx hb3)
      have hC' := kq_call hC (Nat.le_refl _) hb3
      refine hK.out _ _ hC' trivial ?_
      clear hK K
      clear hcl
      intro hcl
      (try simp only [Act.put, List.getElem_toArray, List.getElem_cons_zero, List.getElem_cons_succ, List.setIfInBounds_toArray, List.set_cons_zero, List.set_cons_succ])
      clear hC
      have hC := hC'
      clear hC'
      refine wpM_only (i := 3) rfl (by kernel_rfl) hcl (fun K hK => ?_)
      go_simp
      refine (cA.out _ hC).mono ?_
      rintro e v4 ⟨A4, c4, qs4, rfl, o4, hq4, hb4⟩
      replace o3 := o3.below hb4
      (try replace hx := blk_below hx hb4)
      have hC' := kq_call hC (Nat.le_refl _) hb4
      refine hK.out _ _ hC' trivial ?_
      clear hK K
      clear hcl
      intro hcl
      (try simp only [Act.put, List.getElem_toArray, List.getElem_cons_zero, List.getElem_cons_succ, List.setIfInBounds_toArray, List.set_cons_zero, List.set_cons_succ])
      clear hC
      have hC := hC'
      clear hC'
      have hzv4 := hC.1.size
      refine wpM_only (i := 4) rfl (by kernel_rfl) hcl (fun K hK => ?_)
      go_simp
      refine (cM.out _ _ _ _ _ _ _ hC o3.rd hq3 o4.rd hq4).mono ?_
      rintro e v5 ⟨A5, n5, c5, rs5, rfl, o5, hr5, hb5⟩
      (try have hgo := blk_lt hx)
      (try replace hx := blk_below hx hb5)
      have hC' := kq_call hC (Nat.le_refl _) hb5
      refine hK.out _ _ hC' trivial ?_
      clear hK K
      clear hcl
      intro hcl
      (try simp only)
      clear hC
      have hC := hC'
      clear hC'
      (refine wpM_take (i := 5) (v := ?_) rfl (by kernel_rfl) (by kernel_rfl) (by kernel_rfl) (by decide) (fun _ _ _ h => h) hcl hC (fun _ => hE) (Or.inl ⟨by rfl, ?_⟩) ?_; rotate_left; (· (intro w hSw; (try dsimp only at hSw); go_simp; (try with_reducible rfl))); clear hcl; intro hcl; (try simp only [Act.put, List.getElem_toArray, List.getElem_cons_zero, List.getElem_cons_succ, List.setIfInBounds_toArray, List.set_cons_zero, List.set_cons_succ]))
      (refine wpM_take (i := 6) (v := ?_) rfl (by kernel_rfl) (by kernel_rfl) (by kernel_rfl) (by decide) (fun _ _ _ h => h) hcl hC (fun _ => hE) (Or.inl ⟨by rfl, ?_⟩) ?_; rotate_left; (· (intro w hSw; (try dsimp only at hSw); go_simp; (try with_reducible rfl))); clear hcl; intro hcl; (try simp only [Act.put, List.getElem_toArray, List.getElem_cons_zero, List.getElem_cons_succ, List.setIfInBounds_toArray, List.set_cons_zero, List.set_cons_succ]))
      (refine wpM_take (i := 7) (v := ?_) rfl (by kernel_rfl) (by kernel_rfl) (by kernel_rfl) (by decide) (fun _ _ _ h => h) hcl hC (fun _ => hE) (Or.inl ⟨by rfl, ?_⟩) ?_; rotate_left; (· (intro w hSw; (try dsimp only at hSw); go_simp; (try with_reducible rfl))); clear hcl; intro hcl; (try simp only [Act.put, List.getElem_toArray, List.getElem_cons_zero, List.getElem_cons_succ, List.setIfInBounds_toArray, List.set_cons_zero, List.set_cons_succ]))
      have hlx := blk_lt hx
      have hfx := blk_frozen hx
      have hzC := hC.1.size
      have x0 := blk_cell hx 0
      have x1 := blk_cell hx 1
      have x2 := blk_cell hx 2
      have x3 := blk_cell hx 3
      have x4 := blk_cell hx 4
      have x5 := blk_cell hx 5
      have x6 := blk_cell hx 6
      have x7 := blk_cell hx 7
      have x8 := blk_cell hx 8
      have x9 := blk_cell hx 9
      have x10 := blk_cell hx 10
      have x11 := blk_cell hx 11
      simp at x0 x1 x2 x3 x4 x5 x6 x7 x8 x9 x10 x11
      have hgu : u0.heap.size ≤ u0.heap.size := (by first | exact Nat.le_refl _ | exact hzg)
      have hC3 : KQ u0.heap.size u0 _ := kq (set12_keep (g := u0.heap.size) hC.1 hgu (.int .i64 x.1) (.int .u32 x.2) (.int .u32 v.d0) (.int .u32 v.d1) (.int .u32 v.d2) (.int .u32 v.d3) (.int .u32 v.d4) (.int .u32 v.d5) (.int .u32 v.d6) (.int .u32 v.d7) (.bool t) (.slice A5 n5 c5))
      have hS3 := heap12 hx (.int .i64 x.1) (.int .u32 x.2) (.int .u32 v.d0) (.int .u32 v.d1) (.int .u32 v.d2) (.int .u32 v.d3) (.int .u32 v.d4) (.int .u32 v.d5) (.int .u32 v.d6) (.int .u32 v.d7) (.bool t) (.slice A5 n5 c5)
      have hO3 := set12_own (g := u0.heap.size) o5 (by first | exact hgo | exact blk_lt hx0) (.int .i64 x.1) (.int .u32 x.2) (.int .u32 v.d0) (.int .u32 v.d1) (.int .u32 v.d2) (.int .u32 v.d3) (.int .u32 v.d4) (.int .u32 v.d5) (.int .u32 v.d6) (.int .u32 v.d7) (.bool t) (.slice A5 n5 c5)
      refine wpM_only (i := 9) rfl (by kernel_rfl) hcl (fun K hK => ?_)
      go_simp
      refine hK.out _ _ hC3 trivial ?_
      clear hK K
      clear hcl
      intro hcl
      (try simp only [Act.put, List.getElem_toArray, List.getElem_cons_zero, List.getElem_cons_succ, List.setIfInBounds_toArray, List.set_cons_zero, List.set_cons_succ])
      clear hC
      have hC := hC3
      (refine wpM_take (i := 10) (v := ?_) rfl (by kernel_rfl) (by kernel_rfl) (by kernel_rfl) (by decide) (fun _ _ _ h => h) hcl hC (fun _ => hE) (Or.inl ⟨by rfl, ?_⟩) ?_; rotate_left; (· (intro w hSw; (try dsimp only at hSw); go_simp; (try with_reducible rfl))); clear hcl; intro hcl; (try simp only [Act.put, List.getElem_toArray, List.getElem_cons_zero, List.getElem_cons_succ, List.setIfInBounds_toArray, List.set_cons_zero, List.set_cons_succ]))
      refine wpM_done (by kernel_rfl) ?_
      clear hcl
      try simp only [List.getElem_toArray, List.getElem_cons_zero, List.getElem_cons_succ, List.setIfInBounds_toArray, List.set_cons_zero, List.set_cons_succ]
      go_wp2_with fail
      go_meet
      exact ⟨_, A5, n5, c5, rs5, rfl, rfl, hS3, ⟨hO3.1.base (by have := hC.1.size; omega), fun q hq => (hO3.2 q hq).base (by omega)⟩, hr5, hC3.1⟩
  case rest =>
  obtain ⟨g9, A5, n5, c5, rs5, rfl, rfl, h9, o5, hr5, hbu1⟩ := hcut
  obtain ⟨u1, hu1⟩ : ∃ u1, u1 = wc := ⟨_, rfl⟩
  obtain rfl := hu1
  have hz1 := hbu1.size
  have hW1 : Below W.heap.size W u1 := hWu.trans (hbu1.mono hWu.size)
  have hb1u : Below w.heap.size w u1 := hbu0.trans (hbu1.mono hbu0.size)
  have hb61 : Below w6.heap.size w6 u1 := hbu.trans (hbu1.mono hzu)
  have h81 := blk_below h8 hbu1
  have hP1 := hP6.below hb61
  have hn6 : n6 = n := by
    have e1 := congrArg List.length hq6
    have e2 := o6.len
    have e3 := (hTr.out w (Below.refl _ _)).len
    rw [List.length_map, List.length_map] at e1
    omega
  have hn5 : n5 = n := by
    have e1 := congrArg List.length hr5
    have e2 := o5.len
    have e3 := (hTr.out w (Below.refl _ _)).len
    rw [List.length_map, List.length_map] at e1
    omega
  subst hn6
  subst hn5
  have cF : ∀ (A : Option Addr) (c base : Nat) (qs : List Pe), OwE 101 u1 base A n5 c qs → Hid (∀ w', KQ u1.heap.size u1 w' → Calls Tryz.prog 13 #[.agg #[.int .i64 x.1, .int .u32 x.2, .int .u32 v.d0, .int .u32 v.d1, .int .u32 v.d2, .int .u32 v.d3, .int .u32 v.d4, .int .u32 v.d5, .int .u32 v.d6, .int .u32 v.d7, .bool t, .slice A n5 c]] w' fun e w'' => ∃ A' c', e = .returned (.agg #[.int .i64 x.1, .int .u32 x.2, .int .u32 v.d0, .int .u32 v.d1, .int .u32 v.d2, .int .u32 v.d3, .int .u32 v.d4, .int .u32 v.d5, .int .u32 v.d6, .int .u32 v.d7, .bool t, .slice A' n5 c']) ∧ RdE w'' w''.heap.size A' n5 qs ∧ Below w'.heap.size w' w'') := fun A c base qs ho => Lib.hid (fun w' h =>
    (txfrom_any x v t A n5 c qs w' (ho.below h.1).rd (by omega)).mono (fun e w'' ⟨A', c', he, ho', hb⟩ => ⟨A', c', he, ⟨ho'.rd.1, ((ho.below h.1).below hb).rd.2⟩, hb⟩))
  have cF8 := cF A6 c6 _ qs6 (o6.below hb61)
  have cF9 := cF A5 c5 _ rs5 o5
  have cSm : ∀ (qs : List Pe), (∀ q ∈ qs, q.l ≤ maxLen) → qs.map Pe.core = ps.map Pe.core → Hid (∀ A' c' w', KQ u1.heap.size u1 w' → RdE w' w'.heap.size A' n5 qs → Calls Tryz.prog 12 #[.agg #[.int .i64 x.1, .int .u32 x.2, .int .u32 v.d0, .int .u32 v.d1, .int .u32 v.d2, .int .u32 v.d3, .int .u32 v.d4, .int .u32 v.d5, .int .u32 v.d6, .int .u32 v.d7, .bool t, .slice A' n5 c'], .agg #[.int .i64 x.1, .int .u32 x.2, .int .u32 v.d0, .int .u32 v.d1, .int .u32 v.d2, .int .u32 v.d3, .int .u32 v.d4, .int .u32 v.d5, .int .u32 v.d6, .int .u32 v.d7, .bool t, .slice T n5 k0]] w' fun e w'' => e = .returned (.bool true) ∧ Below w'.heap.size w' w'') := fun qs hq he => Lib.hid (fun A' c' w' h hr => by
    have h1 := txsame_any x v t A' n5 c' qs x v t T n5 k0 ps w' hr (hTr.out w' (hb1u.trans (h.1.mono hb1u.size))) hn hn hq (fun p hp => hokl.out p hp)
    rw [show sameTv ⟨x, v, t, qs.map Pe.core⟩ ⟨x, v, t, ps.map Pe.core⟩ = true from sameTv_iff.2 (by rw [he])] at h1
    exact h1)
  have cS8 := cSm qs6 (fun q hq => Nat.le_trans (o6.2 q hq).rd.2.2.1 (o6.2 q hq).rd.2.2.2) hq6
  have cS9 := cSm rs5 (fun q hq => Nat.le_trans (o5.2 q hq).rd.2.2.1 (o5.2 q hq).rd.2.2.2) hr5
  have cL := Lib.hid (fun w' (h : KQ u1.heap.size u1 w') => (by have h1 := pleft_any p _ w' (hP1.below h.1) hl2w.out; rw [hlen2.out] at h1; exact h1 : Calls Tryz.prog 32 #[.pointer (some ⟨p, 0, none⟩)] w' fun e w'' => e = .returned (.int .i64 ((l.length : Nat) : Int)) ∧ Below w'.heap.size w' w''))
  have hle : ((l.length : Int) == ((bs l).size : Int)) = true := by rw [bs_size]; simp
  obtain ⟨ev, hbP, hev⟩ := hP1
  rcases hev with ⟨_, rfl⟩ | ⟨hne, _⟩
  case inr => exact absurd rfl hne
  have cE := Lib.hid (fun w' (h : KQ u1.heap.size u1 w') => perr_any p .nilIface w' (blk_lt (blk_below hbP h.1)) (by have h1 := blk_cell (blk_below hbP h.1) 2; simpa using h1))
  have hbt1 := hcells.out u1 hW1
  clear hltt q0 q1 q2 q3 q4 q5 q6 q7 q8 q9 q10 q11
  have q0 := blk_cell hbt1 0
  have q1 := blk_cell hbt1 1
  have q2 := blk_cell hbt1 2
  have q3 := blk_cell hbt1 3
  have q4 := blk_cell hbt1 4
  have q5 := blk_cell hbt1 5
  have q6 := blk_cell hbt1 6
  have q7 := blk_cell hbt1 7
  have q8 := blk_cell hbt1 8
  have q9 := blk_cell hbt1 9
  have q10 := blk_cell hbt1 10
  have q11 := blk_cell hbt1 11
  simp at q0 q1 q2 q3 q4 q5 q6 q7 q8 q9 q10 q11
  have y0 := blk_cell h81 0
  have y1 := blk_cell h81 1
  have y2 := blk_cell h81 2
  have y3 := blk_cell h81 3
  have y4 := blk_cell h81 4
  have y5 := blk_cell h81 5
  have y6 := blk_cell h81 6
  have y7 := blk_cell h81 7
  have y8 := blk_cell h81 8
  have y9 := blk_cell h81 9
  have y10 := blk_cell h81 10
  have y11 := blk_cell h81 11
  simp at y0 y1 y2 y3 y4 y5 y6 y7 y8 y9 y10 y11
  have z0 := blk_cell h9 0
  have z1 := blk_cell h9 1
  have z2 := blk_cell h9 2
  have z3 := blk_cell h9 3
  have z4 := blk_cell h9 4
  have z5 := blk_cell h9 5
  have z6 := blk_cell h9 6
  have z7 := blk_cell h9 7
  have z8 := blk_cell h9 8
  have z9 := blk_cell h9 9
  have z10 := blk_cell h9 10
  have z11 := blk_cell h9 11
  simp at z0 z1 z2 z3 z4 z5 z6 z7 z8 z9 z10 z11
  have hltt := blk_lt hbt1
  have hlt8 := blk_lt h81
  have hlt9 := blk_lt h9
  clear hbt1 h81 h9 h8 hbP o6 o5 hq6 hr5 hP6 cA cM cF cSm
  go_upto_region 9 with (fail)
  refine wp_region_M (fun w' => KQ u1.heap.size u1 w') (fun _ => True) 99 (by kernel_rfl) (kq (Below.refl _ _).drew) trivial ?_
  intro hcl
  have hC : KQ u1.heap.size u1 u1.drew := kq (Below.refl _ _).drew
  have hE := trivial
  (refine wpM_take (i := 0) (v := ?_) rfl (by kernel_rfl) (by kernel_rfl) (by kernel_rfl) (by decide) (fun _ _ _ h => h) hcl hC (fun _ => hE) (Or.inl ⟨by rfl, ?_⟩) ?_; rotate_left; (· (intro w hSw; (try dsimp only at hSw); go_simp; (try with_reducible rfl))); clear hcl; intro hcl; (try simp only [Act.put, List.getElem_toArray, List.getElem_cons_zero, List.setIfInBounds_toArray, List.set_cons_zero, List.set_cons_succ]))
  (refine wpM_take (i := 1) (v := ?_) rfl (by kernel_rfl) (by kernel_rfl) (by kernel_rfl) (by decide) (fun _ _ _ h => h) hcl hC (fun _ => hE) (Or.inl ⟨by rfl, ?_⟩) ?_; rotate_left; (· (intro w hSw; (try dsimp only at hSw); go_simp; (try with_reducible rfl))); clear hcl; intro hcl; (try simp only [Act.put, List.getElem_toArray, List.getElem_cons_zero, List.getElem_cons_succ, List.setIfInBounds_toArray, List.set_cons_zero, List.set_cons_succ]))
  (refine wpM_take (i := 2) (v := ?_) rfl (by kernel_rfl) (by kernel_rfl) (by kernel_rfl) (by decide) (fun _ _ _ h => h) hcl hC (fun _ => hE) (Or.inl ⟨by rfl, ?_⟩) ?_; rotate_left; (· (intro w hSw; (try dsimp only at hSw); go_simp; (try with_reducible rfl))); clear hcl; intro hcl; (try simp only [Act.put, List.getElem_toArray, List.getElem_cons_zero, List.getElem_cons_succ, List.setIfInBounds_toArray, List.set_cons_zero, List.set_cons_succ]))
  (refine wpM_take (i := 3) (v := ?_) rfl (by kernel_rfl) (by kernel_rfl) (by kernel_rfl) (by decide) (fun _ _ _ h => h) hcl hC (fun _ => hE) (Or.inl ⟨by rfl, ?_⟩) ?_; rotate_left; (· (intro w hSw; (try dsimp only at hSw); go_simp; (try with_reducible rfl))); clear hcl; intro hcl; (try simp only [Act.put, List.getElem_toArray, List.getElem_cons_zero, List.getElem_cons_succ, List.setIfInBounds_toArray, List.set_cons_zero, List.set_cons_succ]))
  (refine wpM_take (i := 5) (v := ?_) rfl (by kernel_rfl) (by kernel_rfl) (by kernel_rfl) (by decide) (fun _ _ _ h => h) hcl hC (fun _ => hE) (Or.inl ⟨by rfl, ?_⟩) ?_; rotate_left; (· (intro w hSw; (try dsimp only at hSw); go_simp; (try with_reducible rfl))); clear hcl; intro hcl; (try simp only [Act.put, List.getElem_toArray, List.getElem_cons_zero, List.getElem_cons_succ, List.setIfInBounds_toArray, List.set_cons_zero, List.set_cons_succ]))
  refine wpM_only (i := 4) rfl (by kernel_rfl) hcl (fun K hK => ?_)
  go_simp
  refine (cF8.out _ hC).mono ?_
  rintro e v1 ⟨A7, c7, rfl, r7, hv1⟩
  have hC' := kq_call hC (Nat.le_refl _) hv1
  refine hK.out _ _ hC' trivial ?_
  clear hK K
  clear hcl
  intro hcl
  (try simp only [Act.put, List.getElem_toArray, List.getElem_cons_zero, List.getElem_cons_succ, List.setIfInBounds_toArray, List.set_cons_zero, List.set_cons_succ])
  clear hC
  have hC := hC'
  clear hC'
  refine wpM_only (i := 6) rfl (by kernel_rfl) hcl (fun K hK => ?_)
  go_simp
  refine (cS8.out A7 c7 _ hC r7).mono ?_
  rintro e v2 ⟨rfl, hv2⟩
  have hC' := kq_call hC (Nat.le_refl _) hv2
  refine hK.out _ _ hC' trivial ?_
  clear hK K
  clear hcl
  intro hcl
  (try simp only [Act.put, List.getElem_toArray, List.getElem_cons_zero, List.getElem_cons_succ, List.setIfInBounds_toArray, List.set_cons_zero, List.set_cons_succ])
  clear hC
  have hC := hC'
  clear hC'
  (refine wpM_take (i := 7) (v := ?_) rfl (by kernel_rfl) (by kernel_rfl) (by kernel_rfl) (by decide) (fun _ _ _ h => h) hcl hC (fun _ => hE) (Or.inl ⟨by rfl, ?_⟩) ?_; rotate_left; (· (intro w hSw; (try dsimp only at hSw); go_simp; (try with_reducible rfl))); clear hcl; intro hcl; (try simp only [Act.put, List.getElem_toArray, List.getElem_cons_zero, List.getElem_cons_succ, List.setIfInBounds_toArray, List.set_cons_zero, List.set_cons_succ]))
  (refine wpM_take (i := 8) (v := ?_) rfl (by kernel_rfl) (by kernel_rfl) (by kernel_rfl) (by decide) (fun _ _ _ h => h) hcl hC (fun _ => hE) (Or.inl ⟨by rfl, ?_⟩) ?_; rotate_left; (· (intro w hSw; (try dsimp only at hSw); go_simp; (try with_reducible rfl))); clear hcl; intro hcl; (try simp only [Act.put, List.getElem_toArray, List.getElem_cons_zero, List.getElem_cons_succ, List.setIfInBounds_toArray, List.set_cons_zero, List.set_cons_succ]))
  (refine wpM_take (i := 9) (v := ?_) rfl (by kernel_rfl) (by kernel_rfl) (by kernel_rfl) (by decide) (fun _ _ _ h => h) hcl hC (fun _ => hE) (Or.inl ⟨by rfl, ?_⟩) ?_; rotate_left; (· (intro w hSw; (try dsimp only at hSw); go_simp; (try with_reducible rfl))); clear hcl; intro hcl; (try simp only [Act.put, List.getElem_toArray, List.getElem_cons_zero, List.getElem_cons_succ, List.setIfInBounds_toArray, List.set_cons_zero, List.set_cons_succ]))
  (refine wpM_take (i := 11) (v := ?_) rfl (by kernel_rfl) (by kernel_rfl) (by kernel_rfl) (by decide) (fun _ _ _ h => h) hcl hC (fun _ => hE) (Or.inl ⟨by rfl, ?_⟩) ?_; rotate_left; (· (intro w hSw; (try dsimp only at hSw); go_simp; (try with_reducible rfl))); clear hcl; intro hcl; (try simp only [Act.put, List.getElem_toArray, List.getElem_cons_zero, List.getElem_cons_succ, List.setIfInBounds_toArray, List.set_cons_zero, List.set_cons_succ]))
  (refine wpM_take (i := 12) (v := ?_) rfl (by kernel_rfl) (by kernel_rfl) (by kernel_rfl) (by decide) (fun _ _ _ h => h) hcl hC (fun _ => hE) (Or.inl ⟨by rfl, ?_⟩) ?_; rotate_left; (· (intro w hSw; (try dsimp only at hSw); go_simp; (try with_reducible rfl))); clear hcl; intro hcl; (try simp only [Act.put, List.getElem_toArray, List.getElem_cons_zero, List.getElem_cons_succ, List.setIfInBounds_toArray, List.set_cons_zero, List.set_cons_succ]))
  refine wpM_only (i := 10) rfl (by kernel_rfl) hcl (fun K hK => ?_)
  go_simp
  refine (cL.out _ hC).mono ?_
  rintro e v3 ⟨rfl, hv3⟩
  have hC' := kq_call hC (Nat.le_refl _) hv3
  refine hK.out _ _ hC' trivial ?_
  clear hK K
  clear hcl
  intro hcl
  (try simp only [Act.put, List.getElem_toArray, List.getElem_cons_zero, List.getElem_cons_succ, List.setIfInBounds_toArray, List.set_cons_zero, List.set_cons_succ])
  clear hC
  have hC := hC'
  clear hC'
  (refine wpM_take (i := 13) (v := ?_) rfl (by kernel_rfl) (by kernel_rfl) (by kernel_rfl) (by decide) (fun _ _ _ h => h) hcl hC (fun _ => hE) (Or.inl ⟨by rfl, ?_⟩) ?_; rotate_left; (· (intro w hSw; (try dsimp only at hSw); go_simp; (try with_reducible rfl))); clear hcl; intro hcl; (try simp only [Act.put, List.getElem_toArray, List.getElem_cons_zero, List.getElem_cons_succ, List.setIfInBounds_toArray, List.set_cons_zero, List.set_cons_succ]))
  (refine wpM_take (i := 14) (v := ?_) rfl (by kernel_rfl) (by kernel_rfl) (by kernel_rfl) (by decide) (fun _ _ _ h => h) hcl hC (fun _ => hE) (Or.inl ⟨by rfl, ?_⟩) ?_; rotate_left; (· (intro w hSw; (try dsimp only at hSw); go_simp; (try with_reducible rfl))); clear hcl; intro hcl; (try simp only [Act.put, List.getElem_toArray, List.getElem_cons_zero, List.getElem_cons_succ, List.setIfInBounds_toArray, List.set_cons_zero, List.set_cons_succ]))
  (refine wpM_take (i := 15) (v := ?_) rfl (by kernel_rfl) (by kernel_rfl) (by kernel_rfl) (by decide) (fun _ _ _ h => h) hcl hC (fun _ => hE) (Or.inl ⟨by rfl, ?_⟩) ?_; rotate_left; (· (intro w hSw; (try dsimp only at hSw); go_simp; (try with_reducible rfl))); clear hcl; intro hcl; (try simp only [Act.put, List.getElem_toArray, List.getElem_cons_zero, List.getElem_cons_succ, List.setIfInBounds_toArray, List.set_cons_zero, List.set_cons_succ]))
  (refine wpM_take (i := 16) (v := ?_) rfl (by kernel_rfl) (by kernel_rfl) (by kernel_rfl) (by decide) (fun _ _ _ h => h) hcl hC (fun _ => hE) (Or.inl ⟨by rfl, ?_⟩) ?_; rotate_left; (· (intro w hSw; (try dsimp only at hSw); go_simp; (try with_reducible rfl))); clear hcl; intro hcl; (try simp only [Act.put, List.getElem_toArray, List.getElem_cons_zero, List.getElem_cons_succ, List.setIfInBounds_toArray, List.set_cons_zero, List.set_cons_succ]))
  refine wpM_only (i := 17) rfl (by kernel_rfl) hcl (fun K hK => ?_)
  go_simp
  refine (cE.out _ hC).mono ?_
  rintro e v4 ⟨rfl, rfl⟩
  refine hK.out _ _ hC trivial ?_
  clear hK K
  clear hcl
  intro hcl
  (try simp only [Act.put, List.getElem_toArray, List.getElem_cons_zero, List.getElem_cons_succ, List.setIfInBounds_toArray, List.set_cons_zero, List.set_cons_succ])
  (refine wpM_take (i := 18) (v := ?_) rfl (by kernel_rfl) (by kernel_rfl) (by kernel_rfl) (by decide) (fun _ _ _ h => h) hcl hC (fun _ => hE) (Or.inl ⟨by rfl, ?_⟩) ?_; rotate_left; (· (intro w hSw; (try dsimp only at hSw); go_simp; (try with_reducible rfl))); clear hcl; intro hcl; (try simp only [Act.put, List.getElem_toArray, List.getElem_cons_zero, List.getElem_cons_succ, List.setIfInBounds_toArray, List.set_cons_zero, List.set_cons_succ]))
  (refine wpM_take (i := 19) (v := ?_) rfl (by kernel_rfl) (by kernel_rfl) (by kernel_rfl) (by decide) (fun _ _ _ h => h) hcl hC (fun _ => hE) (Or.inl ⟨by rfl, ?_⟩) ?_; rotate_left; (· (intro w hSw; (try dsimp only at hSw); go_simp; (try with_reducible rfl))); clear hcl; intro hcl; (try simp only [Act.put, List.getElem_toArray, List.getElem_cons_zero, List.getElem_cons_succ, List.setIfInBounds_toArray, List.set_cons_zero, List.set_cons_succ]))
  (refine wpM_take (i := 20) (v := ?_) rfl (by kernel_rfl) (by kernel_rfl) (by kernel_rfl) (by decide) (fun _ _ _ h => h) hcl hC (fun _ => hE) (Or.inl ⟨by rfl, ?_⟩) ?_; rotate_left; (· (intro w hSw; (try dsimp only at hSw); go_simp; (try with_reducible rfl))); clear hcl; intro hcl; (try simp only [Act.put, List.getElem_toArray, List.getElem_cons_zero, List.getElem_cons_succ, List.setIfInBounds_toArray, List.set_cons_zero, List.set_cons_succ]))
  (refine wpM_take (i := 21) (v := ?_) rfl (by kernel_rfl) (by kernel_rfl) (by kernel_rfl) (by decide) (fun _ _ _ h => h) hcl hC (fun _ => hE) (Or.inl ⟨by rfl, ?_⟩) ?_; rotate_left; (· (intro w hSw; (try dsimp only at hSw); go_simp; (try with_reducible rfl))); clear hcl; intro hcl; (try simp only [Act.put, List.getElem_toArray, List.getElem_cons_zero, List.getElem_cons_succ, List.setIfInBounds_toArray, List.set_cons_zero, List.set_cons_succ]))
  (refine wpM_take (i := 22) (v := ?_) rfl (by kernel_rfl) (by kernel_rfl) (by kernel_rfl) (by decide) (fun _ _ _ h => h) hcl hC (fun _ => hE) (Or.inl ⟨by rfl, ?_⟩) ?_; rotate_left; (· (intro w hSw; (try dsimp only at hSw); go_simp; (try with_reducible rfl))); clear hcl; intro hcl; (try simp only [Act.put, List.getElem_toArray, List.getElem_cons_zero, List.getElem_cons_succ, List.setIfInBounds_toArray, List.set_cons_zero, List.set_cons_succ]))
  (refine wpM_take (i := 23) (v := ?_) rfl (by kernel_rfl) (by kernel_rfl) (by kernel_rfl) (by decide) (fun _ _ _ h => h) hcl hC (fun _ => hE) (Or.inl ⟨by rfl, ?_⟩) ?_; rotate_left; (· (intro w hSw; (try dsimp only at hSw); go_simp; (try with_reducible rfl))); clear hcl; intro hcl; (try simp only [Act.put, List.getElem_toArray, List.getElem_cons_zero, List.getElem_cons_succ, List.setIfInBounds_toArray, List.set_cons_zero, List.set_cons_succ]))
  (refine wpM_take (i := 24) (v := ?_) rfl (by kernel_rfl) (by kernel_rfl) (by kernel_rfl) (by decide) (fun _ _ _ h => h) hcl hC (fun _ => hE) (Or.inl ⟨by rfl, ?_⟩) ?_; rotate_left; (· (intro w hSw; (try dsimp only at hSw); go_simp; (try with_reducible rfl))); clear hcl; intro hcl; (try simp only [Act.put, List.getElem_toArray, List.getElem_cons_zero, List.getElem_cons_succ, List.setIfInBounds_toArray, List.set_cons_zero, List.set_cons_succ]))
  (refine wpM_take (i := 25) (v := ?_) rfl (by kernel_rfl) (by kernel_rfl) (by kernel_rfl) (by decide) (fun _ _ _ h => h) hcl hC (fun _ => hE) (Or.inl ⟨by rfl, ?_⟩) ?_; rotate_left; (· (intro w hSw; (try dsimp only at hSw); go_simp; (try with_reducible rfl))); clear hcl; intro hcl; (try simp only [Act.put, List.getElem_toArray, List.getElem_cons_zero, List.getElem_cons_succ, List.setIfInBounds_toArray, List.set_cons_zero, List.set_cons_succ]))
  (refine wpM_take (i := 27) (v := ?_) rfl (by kernel_rfl) (by kernel_rfl) (by kernel_rfl) (by decide) (fun _ _ _ h => h) hcl hC (fun _ => hE) (Or.inl ⟨by rfl, ?_⟩) ?_; rotate_left; (· (intro w hSw; (try dsimp only at hSw); go_simp; (try with_reducible rfl))); clear hcl; intro hcl; (try simp only [Act.put, List.getElem_toArray, List.getElem_cons_zero, List.getElem_cons_succ, List.setIfInBounds_toArray, List.set_cons_zero, List.set_cons_succ]))
  refine wpM_only (i := 26) rfl (by kernel_rfl) hcl (fun K hK => ?_)
  go_simp
  refine (cF9.out _ hC).mono ?_
  rintro e v5 ⟨A8, c8, rfl, r8, hv5⟩
  have hC' := kq_call hC (Nat.le_refl _) hv5
  refine hK.out _ _ hC' trivial ?_
  clear hK K
  clear hcl
  intro hcl
  (try simp only [Act.put, List.getElem_toArray, List.getElem_cons_zero, List.getElem_cons_succ, List.setIfInBounds_toArray, List.set_cons_zero, List.set_cons_succ])
  clear hC
  have hC := hC'
  clear hC'
  refine wpM_only (i := 28) rfl (by kernel_rfl) hcl (fun K hK => ?_)
  go_simp
  refine (cS9.out A8 c8 _ hC r8).mono ?_
  rintro e v6 ⟨rfl, hv6⟩
  have hC' := kq_call hC (Nat.le_refl _) hv6
  refine hK.out _ _ hC' trivial ?_
  clear hK K
  clear hcl
  intro hcl
  (try simp only [Act.put, List.getElem_toArray, List.getElem_cons_zero, List.getElem_cons_succ, List.setIfInBounds_toArray, List.set_cons_zero, List.set_cons_succ])
  clear hC
  have hC := hC'
  clear hC'
  (refine wpM_take (i := 29) (v := ?_) rfl (by kernel_rfl) (by kernel_rfl) (by kernel_rfl) (by decide) (fun _ _ _ h => h) hcl hC (fun _ => hE) (Or.inl ⟨by rfl, ?_⟩) ?_; rotate_left; (· (intro w hSw; (try dsimp only at hSw); go_simp; (try with_reducible rfl))); clear hcl; intro hcl; (try simp only [Act.put, List.getElem_toArray, List.getElem_cons_zero, List.getElem_cons_succ, List.setIfInBounds_toArray, List.set_cons_zero, List.set_cons_succ]))
  (refine wpM_take (i := 30) (v := ?_) rfl (by kernel_rfl) (by kernel_rfl) (by kernel_rfl) (by decide) (fun _ _ _ h => h) hcl hC (fun _ => hE) (Or.inl ⟨by rfl, ?_⟩) ?_; rotate_left; (· (intro w hSw; (try dsimp only at hSw); go_simp; (try with_reducible rfl))); clear hcl; intro hcl; (try simp only [Act.put, List.getElem_toArray, List.getElem_cons_zero, List.getElem_cons_succ, List.setIfInBounds_toArray, List.set_cons_zero, List.set_cons_succ]))
  refine wpM_done (by kernel_rfl) ?_
  clear hcl
  try simp only [List.getElem_toArray, List.getElem_cons_zero, List.getElem_cons_succ, List.setIfInBounds_toArray, List.set_cons_zero, List.set_cons_succ]
  have hG := hb1u.trans (hC.1.mono hb1u.size)
  go_wp2
  go_ret
  exact ⟨rfl, hG⟩
end Go.Proofs.YtpolplmniaoikaaGreatDoor
