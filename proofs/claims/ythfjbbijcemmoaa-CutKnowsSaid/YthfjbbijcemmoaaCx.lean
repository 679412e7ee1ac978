/- The document's Same and Check of cuts. The document's Check of cuts. -/
import Derived.Test.YthfjbbijcemmoaaCtB
import Derived.Test.YthfjbbijcemmoaaDb
import Derived.Test.YthfjbbijcemmoaaPl
namespace Go.Proofs.Ythfjbbijcemmoaa
open Go.RowKit

set_option maxRecDepth 100000 in
set_option maxHeartbeats 1000000 in
theorem rcsame_any (v u : Vm) (A B : Option Addr) (n m c d : Nat) (xs ys : List Im) (w : World) (hA : RdI w w.heap.size A n xs) (hB : RdI w w.heap.size B m ys) (hn : n ≤ maxLen) (hm : m ≤ maxLen) :
    Calls Try.prog 39 #[.agg #[.int .u32 v.d0, .int .u32 v.d1, .int .u32 v.d2, .int .u32 v.d3, .int .u32 v.d4, .int .u32 v.d5, .int .u32 v.d6, .int .u32 v.d7, .slice A n c], .agg #[.int .u32 u.d0, .int .u32 u.d1, .int .u32 u.d2, .int .u32 u.d3, .int .u32 u.d4, .int .u32 u.d5, .int .u32 u.d6, .int .u32 u.d7, .slice B m d]] w fun e w' => e = .returned (.bool (eqV v u && decide (xs = ys))) ∧ Below w.heap.size w w' := by
  have hb0 : Below w.heap.size w ((w.alloc (.cells #[.int .u32 v.d0, .int .u32 v.d1, .int .u32 v.d2, .int .u32 v.d3, .int .u32 v.d4, .int .u32 v.d5, .int .u32 v.d6, .int .u32 v.d7, .slice A n c] 49)).alloc (.cells #[.int .u32 u.d0, .int .u32 u.d1, .int .u32 u.d2, .int .u32 u.d3, .int .u32 u.d4, .int .u32 u.d5, .int .u32 u.d6, .int .u32 u.d7, .slice B m d] 49)) := ((Below.refl _ w).alloc (Nat.le_refl _) _).alloc (by simp) _
  have hbA : ((w.alloc (.cells #[.int .u32 v.d0, .int .u32 v.d1, .int .u32 v.d2, .int .u32 v.d3, .int .u32 v.d4, .int .u32 v.d5, .int .u32 v.d6, .int .u32 v.d7, .slice A n c] 49)).alloc (.cells #[.int .u32 u.d0, .int .u32 u.d1, .int .u32 u.d2, .int .u32 u.d3, .int .u32 u.d4, .int .u32 u.d5, .int .u32 u.d6, .int .u32 u.d7, .slice B m d] 49)).heap[w.heap.size]? = some (.cells #[.int .u32 v.d0, .int .u32 v.d1, .int .u32 v.d2, .int .u32 v.d3, .int .u32 v.d4, .int .u32 v.d5, .int .u32 v.d6, .int .u32 v.d7, .slice A n c] 49 (0, 0)) := heap_old _ (by simp) (heap_at _ _ rfl)
  have hbB : ((w.alloc (.cells #[.int .u32 v.d0, .int .u32 v.d1, .int .u32 v.d2, .int .u32 v.d3, .int .u32 v.d4, .int .u32 v.d5, .int .u32 v.d6, .int .u32 v.d7, .slice A n c] 49)).alloc (.cells #[.int .u32 u.d0, .int .u32 u.d1, .int .u32 u.d2, .int .u32 u.d3, .int .u32 u.d4, .int .u32 u.d5, .int .u32 u.d6, .int .u32 u.d7, .slice B m d] 49)).heap[w.heap.size + 1]? = some (.cells #[.int .u32 u.d0, .int .u32 u.d1, .int .u32 u.d2, .int .u32 u.d3, .int .u32 u.d4, .int .u32 u.d5, .int .u32 u.d6, .int .u32 u.d7, .slice B m d] 49 (0, 0)) := heap_at _ _ (by simp)
  generalize hW : ((w.alloc (.cells #[.int .u32 v.d0, .int .u32 v.d1, .int .u32 v.d2, .int .u32 v.d3, .int .u32 v.d4, .int .u32 v.d5, .int .u32 v.d6, .int .u32 v.d7, .slice A n c] 49)).alloc (.cells #[.int .u32 u.d0, .int .u32 u.d1, .int .u32 u.d2, .int .u32 u.d3, .int .u32 u.d4, .int .u32 u.d5, .int .u32 u.d6, .int .u32 u.d7, .slice B m d] 49)) = W at hb0 hbA hbB
  have hltA := blk_lt hbA
  have hltB := blk_lt hbB
  have hS := Lib.hid (same_any A B n m c d xs ys W ((hA.below hb0).more hb0.size) ((hB.below hb0).more hb0.size) hn hm)
  have he := eqlV2 v u
  have q0 := blk_cell hbA 0
  have q1 := blk_cell hbA 1
  have q2 := blk_cell hbA 2
  have q3 := blk_cell hbA 3
  have q4 := blk_cell hbA 4
  have q5 := blk_cell hbA 5
  have q6 := blk_cell hbA 6
  have q7 := blk_cell hbA 7
  have q8 := blk_cell hbA 8
  simp at q0 q1 q2 q3 q4 q5 q6 q7 q8
  have s0 := blk_cell hbB 0
  have s1 := blk_cell hbB 1
  have s2 := blk_cell hbB 2
  have s3 := blk_cell hbB 3
  have s4 := blk_cell hbB 4
  have s5 := blk_cell hbB 5
  have s6 := blk_cell hbB 6
  have s7 := blk_cell hbB 7
  have s8 := blk_cell hbB 8
  simp at s0 s1 s2 s3 s4 s5 s6 s7 s8
  cases h : eqV v u with
  | false =>
    rw [h] at he
    go_enter Try.func39, Try.ntmps39
    go_wp2_with fail
    go_ret
    exact ⟨rfl, hb0⟩
  | true =>
    rw [h] at he
    go_enter Try.func39, Try.ntmps39
    go_wp2_with fail
    refine hS.out.mono ?_
    rintro e w1 ⟨rfl, hb⟩
    have hG := hb0.trans (hb.mono hb0.size)
    go_wp2
    go_ret
    exact ⟨rfl, hG⟩
end Go.Proofs.Ythfjbbijcemmoaa
namespace Go.Proofs.Ythfjbbijcemmoaa
open Go.RowKit

theorem cutErr_ok {v : Vm} {xs : List Im} (h : cutErr v xs = 0) : vchk v = true ∧ lerr xs = 0 := by
  unfold cutErr at h
  by_cases hf : foldErr v xs = 0
  · unfold foldErr at hf
    cases hv : vchk v with
    | false => rw [hv, if_pos rfl] at hf; omega
    | true => rw [hv, if_neg (by decide)] at hf; exact ⟨rfl, hf⟩
  · rw [if_pos hf] at h
    exact absurd h hf
theorem cutErr_ref (v : Vm) (xs : List Im) (hv : vchk v = true) (hl : lerr xs = 0) : cutErr v xs = if eqV (rcV v xs) v && decide (rcD v xs = xs) then 0 else 3 := by
  obtain ⟨h1, h2, h3⟩ := lerr_zero.1 hl
  have hm : makeI xs = xs := makeI_of h3 (fun _ => Iff.rfl)
  have he : makeErr xs = 0 := makeErr_zero.2 ⟨by omega, h2, by rw [hm]; exact h1⟩
  have hc : rcErr v xs = 0 := by unfold rcErr; rw [hv, if_neg (by decide), he]
  have hf : foldErr v xs = 0 := by unfold foldErr; rw [hv, if_neg (by decide), hl]
  have hV : rcV v xs = foldV v xs := by unfold rcV; rw [hc, if_neg (by decide), hm]
  have hD : rcD v xs = foldRest v xs := by unfold rcD; rw [hc, if_neg (by decide), hm]
  have hR : foldRest v xs = xs.filter fun x => !hasV (foldV v xs) x := by
    unfold foldRest
    rw [hf, if_neg (by decide)]
    unfold beyondI
    rw [hl, if_neg (by decide)]
  have hq : ((foldRest v xs).length == xs.length) = decide (foldRest v xs = xs) := by
    rw [hR, Bool.eq_iff_iff, beq_iff_eq, decide_eq_true_iff, List.length_filter_eq_length_iff, List.filter_eq_self]
  unfold cutErr
  rw [hf, if_neg (by decide), hV, hD, hq]

set_option maxRecDepth 100000 in
set_option maxHeartbeats 1000000 in
theorem rccheck_any (v : Vm) (A : Option Addr) (n c : Nat) (xs : List Im) (w : World) (hA : RdI w w.heap.size A n xs) (hn : n ≤ 1100) (hv : v.wf) (hx : ∀ x ∈ xs, x.wf) :
    Calls Try.prog 42 #[.agg #[.int .u32 v.d0, .int .u32 v.d1, .int .u32 v.d2, .int .u32 v.d3, .int .u32 v.d4, .int .u32 v.d5, .int .u32 v.d6, .int .u32 v.d7, .slice A n c]] w fun e w' => e = .returned (.int .i64 (cutErr v xs)) ∧ Below w.heap.size w w' := by
  have c1 := rvcheck_any v
  have hb0 : Below w.heap.size w (w.alloc (.cells #[.int .u32 v.d0, .int .u32 v.d1, .int .u32 v.d2, .int .u32 v.d3, .int .u32 v.d4, .int .u32 v.d5, .int .u32 v.d6, .int .u32 v.d7, .slice A n c] 49)) := (Below.refl _ w).alloc (Nat.le_refl _) _
  have hbB : (w.alloc (.cells #[.int .u32 v.d0, .int .u32 v.d1, .int .u32 v.d2, .int .u32 v.d3, .int .u32 v.d4, .int .u32 v.d5, .int .u32 v.d6, .int .u32 v.d7, .slice A n c] 49)).heap[w.heap.size]? = some (.cells #[.int .u32 v.d0, .int .u32 v.d1, .int .u32 v.d2, .int .u32 v.d3, .int .u32 v.d4, .int .u32 v.d5, .int .u32 v.d6, .int .u32 v.d7, .slice A n c] 49 (0, 0)) := heap_at _ _ rfl
  generalize hW : w.alloc (.cells #[.int .u32 v.d0, .int .u32 v.d1, .int .u32 v.d2, .int .u32 v.d3, .int .u32 v.d4, .int .u32 v.d5, .int .u32 v.d6, .int .u32 v.d7, .slice A n c] 49) = W at hb0 hbB
  have hlt := blk_lt hbB
  have hWk := Lib.hid hbB
  generalize hr : cutErr v xs = r
  have hfe : foldErr v xs = if vchk v = false then 2 else lerr xs := rfl
  cases h1 : vchk v with
  | false =>
    rw [h1, if_pos rfl] at hfe
    unfold cutErr at hr
    rw [hfe, if_pos (by decide)] at hr
    subst hr
    rw [h1, show errI false = 2 from rfl] at c1
    have c1 := Lib.hid c1
    have q0 := blk_cell hbB 0
    have q1 := blk_cell hbB 1
    have q2 := blk_cell hbB 2
    have q3 := blk_cell hbB 3
    have q4 := blk_cell hbB 4
    have q5 := blk_cell hbB 5
    have q6 := blk_cell hbB 6
    have q7 := blk_cell hbB 7
    have q8 := blk_cell hbB 8
    simp at q0 q1 q2 q3 q4 q5 q6 q7 q8
    go_enter Try.func42, Try.ntmps42
    go_wp2_with fail
    refine (c1.out _).mono ?_
    rintro e w1 ⟨rfl, hb⟩
    have hG := hb0.trans (hb.mono hb0.size)
    go_wp2
    go_ret
    exact ⟨rfl, hG⟩
  | true =>
    rw [h1, if_neg (by simp)] at hfe
    rw [h1, show errI true = 0 from rfl] at c1
    have c1 := Lib.hid c1
    have c2 := fun w1 (hb : Below w.heap.size w w1) => rcheck_any A n c xs w1 ((hA.below hb).more hb.size) (by simp [maxLen]; omega) hx
    by_cases hp : lerr xs = 0
    · have hre := cutErr_ref v xs h1 hp
      rw [hr] at hre
      rw [hp] at c2
      have c2 := Lib.hid c2
      have c3 := Lib.hid fun w1 (hb : Below w.heap.size w w1) => rcmake_any v A n c xs w1 ((hA.below hb).more hb.size) hn hv hx
      have hreH := Lib.hid hre
      clear hfe hr hre h1 hp
      have q0 := blk_cell hbB 0
      have q1 := blk_cell hbB 1
      have q2 := blk_cell hbB 2
      have q3 := blk_cell hbB 3
      have q4 := blk_cell hbB 4
      have q5 := blk_cell hbB 5
      have q6 := blk_cell hbB 6
      have q7 := blk_cell hbB 7
      have q8 := blk_cell hbB 8
      simp at q0 q1 q2 q3 q4 q5 q6 q7 q8
      go_enter Try.func42, Try.ntmps42
      go_wp2_with fail
      refine (c1.out _).mono ?_
      rintro e w1 ⟨rfl, hb⟩
      clear q0 q1 q2 q3 q4 q5 q6 q7 q8
      have hG1 := hb0.trans (hb.mono hb0.size)
      have hbB1 := blk_below hWk.out hb
      have hlt1 := blk_lt hbB1
      have q0 := blk_cell hbB1 0
      have q1 := blk_cell hbB1 1
      have q2 := blk_cell hbB1 2
      have q3 := blk_cell hbB1 3
      have q4 := blk_cell hbB1 4
      have q5 := blk_cell hbB1 5
      have q6 := blk_cell hbB1 6
      have q7 := blk_cell hbB1 7
      have q8 := blk_cell hbB1 8
      simp at q0 q1 q2 q3 q4 q5 q6 q7 q8
      go_wp2_with fail
      refine (c2.out _ hG1).mono ?_
      rintro e w2 ⟨rfl, hb2⟩
      clear q0 q1 q2 q3 q4 q5 q6 q7 q8
      have hG2 := hG1.trans (hb2.mono hG1.size)
      have hbB2 := blk_below hbB1 hb2
      have hlt2 := blk_lt hbB2
      have q0 := blk_cell hbB2 0
      have q1 := blk_cell hbB2 1
      have q2 := blk_cell hbB2 2
      have q3 := blk_cell hbB2 3
      have q4 := blk_cell hbB2 4
      have q5 := blk_cell hbB2 5
      have q6 := blk_cell hbB2 6
      have q7 := blk_cell hbB2 7
      have q8 := blk_cell hbB2 8
      simp at q0 q1 q2 q3 q4 q5 q6 q7 q8
      go_wp2_with fail
      refine (c3.out _ hG2).mono ?_
      rintro e w3 ⟨A3, n3, c3', rfl, o3, hb3⟩
      clear q0 q1 q2 q3 q4 q5 q6 q7 q8
      have hG3 := hG2.trans (hb3.mono hG2.size)
      have hbB3 := blk_below hbB2 hb3
      have hlt3 := blk_lt hbB3
      have q0 := blk_cell hbB3 0
      have q1 := blk_cell hbB3 1
      have q2 := blk_cell hbB3 2
      have q3 := blk_cell hbB3 3
      have q4 := blk_cell hbB3 4
      have q5 := blk_cell hbB3 5
      have q6 := blk_cell hbB3 6
      have q7 := blk_cell hbB3 7
      have q8 := blk_cell hbB3 8
      simp at q0 q1 q2 q3 q4 q5 q6 q7 q8
      generalize rcV v xs = vo at hreH o3 ⊢
      generalize rcD v xs = xo at hreH o3
      generalize hrr : (if (eqV vo v && decide (xo = xs)) = true then (0 : Int) else 3) = rr at hreH
      have hrrH := Lib.hid hrr
      have hRH := Lib.hid hreH.out
      clear hrr hreH
      have hS := Lib.hid fun w4 (hb4 : Below w3.heap.size w3 w4) => rcsame_any vo v A3 A n3 n c3' c xo xs w4 ((o3.rd.1.below hb4).more hb4.size) ((hA.below (hG3.trans (hb4.mono hG3.size))).more (hG3.trans (hb4.mono hG3.size)).size) (Nat.le_trans o3.rd.2.2.1 o3.rd.2.2.2) (by simp [maxLen]; omega)
      clear o3
      go_wp2_with fail
      refine (hS.out _ ((Below.refl _ w3).alloc (Nat.le_refl _) _)).mono ?_
      rintro e w4 ⟨rfl, hb4⟩
      have hG4 := (hG3.alloc hG3.size _).trans (hb4.mono (hG3.alloc hG3.size _).size)
      clear q0 q1 q2 q3 q4 q5 q6 q7 q8
      generalize (eqV vo v && decide (xo = xs)) = bb at hrrH
      cases bb with
      | false =>
        have hT : Hid (3 = r) := Lib.hid (by rw [hRH.out, ← hrrH.out]; simp)
        go_wp2
        go_ret
        exact ⟨ret_int hT.out, hG4⟩
      | true =>
        have hT : Hid (0 = r) := Lib.hid (by rw [hRH.out, ← hrrH.out]; simp)
        go_wp2
        go_ret
        exact ⟨ret_int hT.out, hG4⟩
    · unfold cutErr at hr
      rw [hfe, if_pos hp] at hr
      generalize lerr xs = p at hr c2 hp
      subst hr
      have hpn : (p != 0) = true := by simpa using hp
      have c2 := Lib.hid c2
      clear hfe h1
      have q0 := blk_cell hbB 0
      have q1 := blk_cell hbB 1
      have q2 := blk_cell hbB 2
      have q3 := blk_cell hbB 3
      have q4 := blk_cell hbB 4
      have q5 := blk_cell hbB 5
      have q6 := blk_cell hbB 6
      have q7 := blk_cell hbB 7
      have q8 := blk_cell hbB 8
      simp at q0 q1 q2 q3 q4 q5 q6 q7 q8
      go_enter Try.func42, Try.ntmps42
      go_wp2_with fail
      refine (c1.out _).mono ?_
      rintro e w1 ⟨rfl, hb⟩
      clear q0 q1 q2 q3 q4 q5 q6 q7 q8
      have hG1 := hb0.trans (hb.mono hb0.size)
      have hbB1 := blk_below hWk.out hb
      have hlt1 := blk_lt hbB1
      have q0 := blk_cell hbB1 0
      have q1 := blk_cell hbB1 1
      have q2 := blk_cell hbB1 2
      have q3 := blk_cell hbB1 3
      have q4 := blk_cell hbB1 4
      have q5 := blk_cell hbB1 5
      have q6 := blk_cell hbB1 6
      have q7 := blk_cell hbB1 7
      have q8 := blk_cell hbB1 8
      simp at q0 q1 q2 q3 q4 q5 q6 q7 q8
      go_wp2_with fail
      refine (c2.out _ hG1).mono ?_
      rintro e w2 ⟨rfl, hb2⟩
      have hG2 := hG1.trans (hb2.mono hG1.size)
      go_wp2
      go_ret
      exact ⟨rfl, hG2⟩
end Go.Proofs.Ythfjbbijcemmoaa
