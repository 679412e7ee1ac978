/- The statements' own look whether cut works at all. -/
import Derived.Test.YtpfohpfgfdeecaaCmC
import Derived.Test.YtpfohpfgfdeecaaCmE
import Derived.Test.YtpfohpfgfdeecaaCmH
namespace Go.Proofs.Ytpfohpfgfdeecaa
open Go.RowKit

def w8V : Vm := ⟨0, 2, 0, 0, 0, 0, 0, 0⟩
def w8W : Vm := ⟨0, 4, 0, 0, 0, 0, 0, 0⟩
def w8L : List Im := [(1, 4)]
theorem w8V_wf : w8V.wf := by unfold w8V Vm.wf; decide
theorem w8W_wf : w8W.wf := by unfold w8W Vm.wf; decide
theorem w8L_wf : ∀ x ∈ w8L, x.wf := by
  intro x hx
  obtain rfl := List.mem_singleton.1 hx
  exact ⟨by decide, by decide⟩
theorem w8m : rcErr w8V w8L = 0 ∧ rcV w8V w8L = w8V ∧ rcD w8V w8L = w8L := ⟨by decide, by rfl, by decide⟩
theorem w8a : addErr w8V w8L (1, 3) = 0 ∧ addV w8V w8L (1, 3) = w8W ∧ addD w8V w8L (1, 3) = [] := ⟨by decide, by rfl, by decide⟩
theorem w8j : joinCE w8V w8L w8W [] = 0 ∧ joinCV w8V w8L w8W [] = w8W ∧ joinCD w8V w8L w8W [] = [] := ⟨by decide, by rfl, by decide⟩
theorem w8h : hasC w8V w8L (1, 4) = true ∧ hasC w8V w8L (1, 3) = false := ⟨by decide, by decide⟩
theorem w8le : leC w8V w8L w8W [] := by
  obtain ⟨h1, _, _, h4, h5⟩ := add_law w8a.1
  rw [w8a.2.1, w8a.2.2] at h4 h5
  exact ⟨h1, h4, fun x hx => by rw [h5, hx]; rfl⟩
theorem w8nle : ¬ leC w8W [] w8V w8L := by
  intro h
  have h1 := h.2.2 (1, 3) (by decide)
  rw [w8h.2] at h1
  exact absurd h1 (by decide)
theorem w8s : (eqV w8W w8W && decide (([] : List Im) = [])) = true := by rw [eqV_iff.2 rfl]; simp

set_option maxRecDepth 100000 in
set_option maxHeartbeats 2000000 in
theorem works8_any (w : World) : Calls Try.prog 4 #[] w fun e w' => e = .returned (.bool true) ∧ Below w.heap.size w w' := by
  have hr1 : RdI (w.alloc (.cells #[.int .i64 1, .int .u32 4] 37)) (w.alloc (.cells #[.int .i64 1, .int .u32 4] 37)).heap.size (some ⟨w.heap.size, 0, none⟩) 1 w8L := by
    have h := Rd.one' (w := w) (e := 37) (sz := 2) (g := w.heap.size) [.int .i64 1, .int .u32 4] rfl
    exact h.more (by simp)
  have c1 := cmake_any w8V _ 1 1 w8L _ hr1 (by decide) w8V_wf w8L_wf
  have cA := fun A' c' w' (h1 : RdI w' w'.heap.size A' 1 w8L) (h2 : 1 ≤ c') (h3 : c' ≤ maxLen) => cadd_any w8V A' 1 c' w8L (1, 3) w' h1 (by decide) h2 h3 w8V_wf w8L_wf ⟨by decide, by decide⟩
  have cJ := fun A' B' c' d' w' (h1 : RdI w' w'.heap.size A' 1 w8L) (h2 : RdI w' w'.heap.size B' 0 []) => cjoin_any w8V w8W A' B' 1 0 c' d' w8L [] w' h1 h2 (by decide) (by decide) w8V_wf w8W_wf w8L_wf (by simp)
  have cL := fun A' B' c' d' w' (h1 : RdI w' w'.heap.size A' 1 w8L) (h2 : RdI w' w'.heap.size B' 0 []) => cle_any w8V w8W A' B' 1 0 c' d' w8L [] w' h1 h2 (by decide) (by decide) w8V_wf w8W_wf w8L_wf (by simp)
  have cM := fun A' B' c' d' w' (h1 : RdI w' w'.heap.size A' 0 []) (h2 : RdI w' w'.heap.size B' 1 w8L) => cle_any w8W w8V A' B' 0 1 c' d' [] w8L w' h1 h2 (by decide) (by decide) w8W_wf w8V_wf (by simp) w8L_wf
  have cS := fun A' B' c' d' w' (h1 : RdI w' w'.heap.size A' 0 []) (h2 : RdI w' w'.heap.size B' 0 []) => csame_any w8W w8W A' B' 0 0 c' d' [] [] w' h1 h2 (by decide) (by decide)
  have cH := fun A' c' w' (h1 : RdI w' w'.heap.size A' 1 w8L) => chas_any w8V A' 1 c' w8L (1, 4) w' h1 (by decide) ⟨by decide, by decide⟩
  have cI := fun A' c' w' (h1 : RdI w' w'.heap.size A' 1 w8L) => chas_any w8V A' 1 c' w8L (1, 3) w' h1 (by decide) ⟨by decide, by decide⟩
  rw [w8m.1, w8m.2.1, w8m.2.2] at c1
  simp only [w8a.1, w8a.2.1, w8a.2.2] at cA
  simp only [w8j.1, w8j.2.1, w8j.2.2] at cJ
  simp only [w8s] at cS
  simp only [w8h.1] at cH
  simp only [w8h.2] at cI
  simp only [w8V] at c1
  simp only [w8V, w8W] at cA cJ cL cM cS cH cI
  have hLE := Lib.hid w8le
  have hNL := Lib.hid w8nle
  simp only [w8V, w8W] at hLE hNL
  have cA := Lib.hid cA
  have cJ := Lib.hid cJ
  have cL := Lib.hid cL
  have cM := Lib.hid cM
  have cS := Lib.hid cS
  have cH := Lib.hid cH
  have cI := Lib.hid cI
  have he1 : ∀ w, (binOp .eql 24 (.agg #[.int .u32 0, .int .u32 2, .int .u32 0, .int .u32 0, .int .u32 0, .int .u32 0, .int .u32 0, .int .u32 0]) (.agg #[.int .u32 0, .int .u32 2, .int .u32 0, .int .u32 0, .int .u32 0, .int .u32 0, .int .u32 0, .int .u32 0])).run Try.prog w = .ok (.bool true) w := fun w => by have := eqlV2 w8V w8V w; rw [eqV_iff.2 rfl] at this; exact this
  have he2 : ∀ w, (binOp .eql 24 (.agg #[.int .u32 0, .int .u32 4, .int .u32 0, .int .u32 0, .int .u32 0, .int .u32 0, .int .u32 0, .int .u32 0]) (.agg #[.int .u32 0, .int .u32 4, .int .u32 0, .int .u32 0, .int .u32 0, .int .u32 0, .int .u32 0, .int .u32 0])).run Try.prog w = .ok (.bool true) w := fun w => by have := eqlV2 w8W w8W w; rw [eqV_iff.2 rfl] at this; exact this
  clear hr1
  go_enter Try.func4, Try.ntmps4
  go_wp2_with fail
  refine c1.mono ?_
  rintro e w1 ⟨A1, n1, k1, rfl, o1, hb1⟩
  obtain rfl : n1 = 1 := by simpa [w8L] using o1.rd.2.1.symm
  have hb1' : Below w.heap.size w w1 := ((Below.refl _ w).alloc (Nat.le_refl _) _).trans (hb1.mono (by simp))
  clear c1 hb1
  go_upto_region 2 with (fail)
  obtain ⟨w2, hw2⟩ : ∃ w2, w1.alloc (.cells #[.int .u32 0, .int .u32 2, .int .u32 0, .int .u32 0, .int .u32 0, .int .u32 0, .int .u32 0, .int .u32 0, .slice A1 1 k1] 30) = w2 := ⟨_, rfl⟩
  have hbC : w2.heap[w1.heap.size]? = some (.cells #[.int .u32 0, .int .u32 2, .int .u32 0, .int .u32 0, .int .u32 0, .int .u32 0, .int .u32 0, .int .u32 0, .slice A1 1 k1] 30 (0, 0)) := by rw [← hw2]; exact heap_at _ _ rfl
  have hb2 : Below w1.heap.size w1 w2 := by rw [← hw2]; exact (Below.refl _ w1).alloc (Nat.le_refl _) _
  rw [hw2]
  clear hw2
  have hG2 : Below w.heap.size w w2 := hb1'.trans (hb2.mono hb1'.size)
  have o2 := o1.below hb2
  have hltC := blk_lt hbC
  have q0 := blk_cell hbC 0
  have q1 := blk_cell hbC 1
  have q2 := blk_cell hbC 2
  have q3 := blk_cell hbC 3
  have q4 := blk_cell hbC 4
  have q5 := blk_cell hbC 5
  have q6 := blk_cell hbC 6
  have q7 := blk_cell hbC 7
  have q8 := blk_cell hbC 8
  simp at q0 q1 q2 q3 q4 q5 q6 q7 q8
  clear o1 hb2 hb1'
  go_wp2_with fail
  refine (cA.out A1 k1 w2 o2.rd.1 o2.rd.2.2.1 o2.rd.2.2.2).mono ?_
  rintro e w3 ⟨A3, n3, k3, rfl, o3, hb3⟩
  obtain rfl : n3 = 0 := by simpa using o3.rd.2.1.symm
  clear q0 q1 q2 q3 q4 q5 q6 q7 q8 cA
  go_upto_region 3 with (fail)
  obtain ⟨w4, hw4⟩ : ∃ w4, w3.alloc (.cells #[.int .u32 0, .int .u32 4, .int .u32 0, .int .u32 0, .int .u32 0, .int .u32 0, .int .u32 0, .int .u32 0, .slice A3 0 k3] 30) = w4 := ⟨_, rfl⟩
  have hbD : w4.heap[w3.heap.size]? = some (.cells #[.int .u32 0, .int .u32 4, .int .u32 0, .int .u32 0, .int .u32 0, .int .u32 0, .int .u32 0, .int .u32 0, .slice A3 0 k3] 30 (0, 0)) := by rw [← hw4]; exact heap_at _ _ rfl
  have hb4 : Below w3.heap.size w3 w4 := by rw [← hw4]; exact (Below.refl _ w3).alloc (Nat.le_refl _) _
  rw [hw4]
  clear hw4
  have hb24 : Below w2.heap.size w2 w4 := hb3.trans (hb4.mono hb3.size)
  have hG4 : Below w.heap.size w w4 := hG2.trans (hb24.mono hG2.size)
  have hbC4 := blk_below hbC hb24
  have o24 := o2.below hb24
  have o4 := o3.below hb4
  have hltC4 := blk_lt hbC4
  have hltD4 := blk_lt hbD
  have q0 := blk_cell hbC4 0
  have q1 := blk_cell hbC4 1
  have q2 := blk_cell hbC4 2
  have q3 := blk_cell hbC4 3
  have q4 := blk_cell hbC4 4
  have q5 := blk_cell hbC4 5
  have q6 := blk_cell hbC4 6
  have q7 := blk_cell hbC4 7
  have q8 := blk_cell hbC4 8
  simp at q0 q1 q2 q3 q4 q5 q6 q7 q8
  have s0 := blk_cell hbD 0
  have s1 := blk_cell hbD 1
  have s2 := blk_cell hbD 2
  have s3 := blk_cell hbD 3
  have s4 := blk_cell hbD 4
  have s5 := blk_cell hbD 5
  have s6 := blk_cell hbD 6
  have s7 := blk_cell hbD 7
  have s8 := blk_cell hbD 8
  simp at s0 s1 s2 s3 s4 s5 s6 s7 s8
  clear o2 o3 hb3 hb4 hb24 hG2 hltC hbC
  go_wp2_with fail
  refine (cJ.out A1 A3 k1 k3 w4 o24.rd.1 o4.rd.1).mono ?_
  rintro e w5 ⟨A5, n5, k5, rfl, o5, hb5⟩
  obtain rfl : n5 = 0 := by simpa using o5.rd.2.1.symm
  clear q0 q1 q2 q3 q4 q5 q6 q7 q8 s0 s1 s2 s3 s4 s5 s6 s7 s8 cJ
  go_upto_region 4 with (fail)
  obtain ⟨w6, hw6⟩ : ∃ w6, w5.alloc (.cells #[.int .u32 0, .int .u32 4, .int .u32 0, .int .u32 0, .int .u32 0, .int .u32 0, .int .u32 0, .int .u32 0, .slice A5 0 k5] 30) = w6 := ⟨_, rfl⟩
  have hbJ6 : w6.heap[w5.heap.size]? = some (.cells #[.int .u32 0, .int .u32 4, .int .u32 0, .int .u32 0, .int .u32 0, .int .u32 0, .int .u32 0, .int .u32 0, .slice A5 0 k5] 30 (0, 0)) := by rw [← hw6]; exact heap_at _ _ rfl
  have hb6 : Below w5.heap.size w5 w6 := by rw [← hw6]; exact (Below.refl _ w5).alloc (Nat.le_refl _) _
  rw [hw6]
  clear hw6
  have hb46 : Below w4.heap.size w4 w6 := hb5.trans (hb6.mono hb5.size)
  have hG6 : Below w.heap.size w w6 := hG4.trans (hb46.mono hG4.size)
  have hbC6 := blk_below hbC4 hb46
  have hbD6 := blk_below hbD hb46
  have o26 := o24.below hb46
  have o46 := o4.below hb46
  have o6 := o5.below hb6
  clear o24 o4 o5 hb5 hb6 hb46 hG4 hltC4 hltD4 hbC4 hbD
  have hltC6 := blk_lt hbC6
  have hltD6 := blk_lt hbD6
  have hltJ6 := blk_lt hbJ6
  have q0 := blk_cell hbC6 0
  have q1 := blk_cell hbC6 1
  have q2 := blk_cell hbC6 2
  have q3 := blk_cell hbC6 3
  have q4 := blk_cell hbC6 4
  have q5 := blk_cell hbC6 5
  have q6 := blk_cell hbC6 6
  have q7 := blk_cell hbC6 7
  have q8 := blk_cell hbC6 8
  simp at q0 q1 q2 q3 q4 q5 q6 q7 q8
  have s0 := blk_cell hbD6 0
  have s1 := blk_cell hbD6 1
  have s2 := blk_cell hbD6 2
  have s3 := blk_cell hbD6 3
  have s4 := blk_cell hbD6 4
  have s5 := blk_cell hbD6 5
  have s6 := blk_cell hbD6 6
  have s7 := blk_cell hbD6 7
  have s8 := blk_cell hbD6 8
  simp at s0 s1 s2 s3 s4 s5 s6 s7 s8
  have t0 := blk_cell hbJ6 0
  have t1 := blk_cell hbJ6 1
  have t2 := blk_cell hbJ6 2
  have t3 := blk_cell hbJ6 3
  have t4 := blk_cell hbJ6 4
  have t5 := blk_cell hbJ6 5
  have t6 := blk_cell hbJ6 6
  have t7 := blk_cell hbJ6 7
  have t8 := blk_cell hbJ6 8
  simp at t0 t1 t2 t3 t4 t5 t6 t7 t8
  go_wp2_with fail
  refine (cL.out A1 A3 k1 k3 w6 o26.rd.1 o46.rd.1).mono ?_
  rintro e w7 ⟨r, rfl, hr, hb7⟩
  obtain rfl : r = true := hr.2 hLE.out
  clear q0 q1 q2 q3 q4 q5 q6 q7 q8 s0 s1 s2 s3 s4 s5 s6 s7 s8 t0 t1 t2 t3 t4 t5 t6 t7 t8 hltC6 hltD6 hltJ6
  have hG7 : Below w.heap.size w w7 := hG6.trans (hb7.mono hG6.size)
  have hbC7 := blk_below hbC6 hb7
  have hbD7 := blk_below hbD6 hb7
  have hbJ7 := blk_below hbJ6 hb7
  have o27 := o26.below hb7
  have o47 := o46.below hb7
  have o7 := o6.below hb7
  clear hbC6 hbD6 hbJ6 o26 o46 o6 hb7 hG6
  clear hr
  skip
  have hltC7 := blk_lt hbC7
  have hltD7 := blk_lt hbD7
  have hltJ7 := blk_lt hbJ7
  have q0 := blk_cell hbC7 0
  have q1 := blk_cell hbC7 1
  have q2 := blk_cell hbC7 2
  have q3 := blk_cell hbC7 3
  have q4 := blk_cell hbC7 4
  have q5 := blk_cell hbC7 5
  have q6 := blk_cell hbC7 6
  have q7 := blk_cell hbC7 7
  have q8 := blk_cell hbC7 8
  simp at q0 q1 q2 q3 q4 q5 q6 q7 q8
  have s0 := blk_cell hbD7 0
  have s1 := blk_cell hbD7 1
  have s2 := blk_cell hbD7 2
  have s3 := blk_cell hbD7 3
  have s4 := blk_cell hbD7 4
  have s5 := blk_cell hbD7 5
  have s6 := blk_cell hbD7 6
  have s7 := blk_cell hbD7 7
  have s8 := blk_cell hbD7 8
  simp at s0 s1 s2 s3 s4 s5 s6 s7 s8
  have t0 := blk_cell hbJ7 0
  have t1 := blk_cell hbJ7 1
  have t2 := blk_cell hbJ7 2
  have t3 := blk_cell hbJ7 3
  have t4 := blk_cell hbJ7 4
  have t5 := blk_cell hbJ7 5
  have t6 := blk_cell hbJ7 6
  have t7 := blk_cell hbJ7 7
  have t8 := blk_cell hbJ7 8
  simp at t0 t1 t2 t3 t4 t5 t6 t7 t8
  go_wp2_with fail
  refine (cM.out A3 A1 k3 k1 w7 o47.rd.1 o27.rd.1).mono ?_
  rintro e w8 ⟨r, rfl, hr, hb8⟩
  obtain rfl : r = false := by
    cases r
    · rfl
    · exact absurd (hr.1 rfl) hNL.out
  clear q0 q1 q2 q3 q4 q5 q6 q7 q8 s0 s1 s2 s3 s4 s5 s6 s7 s8 t0 t1 t2 t3 t4 t5 t6 t7 t8 hltC7 hltD7 hltJ7
  have hG8 : Below w.heap.size w w8 := hG7.trans (hb8.mono hG7.size)
  have hbC8 := blk_below hbC7 hb8
  have hbD8 := blk_below hbD7 hb8
  have hbJ8 := blk_below hbJ7 hb8
  have o28 := o27.below hb8
  have o48 := o47.below hb8
  have o8 := o7.below hb8
  clear hbC7 hbD7 hbJ7 o27 o47 o7 hb8 hG7
  clear hr
  skip
  have hltC8 := blk_lt hbC8
  have hltD8 := blk_lt hbD8
  have hltJ8 := blk_lt hbJ8
  have q0 := blk_cell hbC8 0
  have q1 := blk_cell hbC8 1
  have q2 := blk_cell hbC8 2
  have q3 := blk_cell hbC8 3
  have q4 := blk_cell hbC8 4
  have q5 := blk_cell hbC8 5
  have q6 := blk_cell hbC8 6
  have q7 := blk_cell hbC8 7
  have q8 := blk_cell hbC8 8
  simp at q0 q1 q2 q3 q4 q5 q6 q7 q8
  have s0 := blk_cell hbD8 0
  have s1 := blk_cell hbD8 1
  have s2 := blk_cell hbD8 2
  have s3 := blk_cell hbD8 3
  have s4 := blk_cell hbD8 4
  have s5 := blk_cell hbD8 5
  have s6 := blk_cell hbD8 6
  have s7 := blk_cell hbD8 7
  have s8 := blk_cell hbD8 8
  simp at s0 s1 s2 s3 s4 s5 s6 s7 s8
  have t0 := blk_cell hbJ8 0
  have t1 := blk_cell hbJ8 1
  have t2 := blk_cell hbJ8 2
  have t3 := blk_cell hbJ8 3
  have t4 := blk_cell hbJ8 4
  have t5 := blk_cell hbJ8 5
  have t6 := blk_cell hbJ8 6
  have t7 := blk_cell hbJ8 7
  have t8 := blk_cell hbJ8 8
  simp at t0 t1 t2 t3 t4 t5 t6 t7 t8
  go_wp2_with fail
  refine (cS.out A5 A3 k5 k3 w8 o8.rd.1 o48.rd.1).mono ?_
  rintro e w9 ⟨rfl, hb9⟩
  clear q0 q1 q2 q3 q4 q5 q6 q7 q8 s0 s1 s2 s3 s4 s5 s6 s7 s8 t0 t1 t2 t3 t4 t5 t6 t7 t8 hltC8 hltD8 hltJ8
  have hG9 : Below w.heap.size w w9 := hG8.trans (hb9.mono hG8.size)
  have hbC9 := blk_below hbC8 hb9
  have hbD9 := blk_below hbD8 hb9
  have hbJ9 := blk_below hbJ8 hb9
  have o29 := o28.below hb9
  have o49 := o48.below hb9
  have o9 := o8.below hb9
  clear hbC8 hbD8 hbJ8 o28 o48 o8 hb9 hG8
  skip
  have hltC9 := blk_lt hbC9
  have hltD9 := blk_lt hbD9
  have hltJ9 := blk_lt hbJ9
  have q0 := blk_cell hbC9 0
  have q1 := blk_cell hbC9 1
  have q2 := blk_cell hbC9 2
  have q3 := blk_cell hbC9 3
  have q4 := blk_cell hbC9 4
  have q5 := blk_cell hbC9 5
  have q6 := blk_cell hbC9 6
  have q7 := blk_cell hbC9 7
  have q8 := blk_cell hbC9 8
  simp at q0 q1 q2 q3 q4 q5 q6 q7 q8
  have s0 := blk_cell hbD9 0
  have s1 := blk_cell hbD9 1
  have s2 := blk_cell hbD9 2
  have s3 := blk_cell hbD9 3
  have s4 := blk_cell hbD9 4
  have s5 := blk_cell hbD9 5
  have s6 := blk_cell hbD9 6
  have s7 := blk_cell hbD9 7
  have s8 := blk_cell hbD9 8
  simp at s0 s1 s2 s3 s4 s5 s6 s7 s8
  have t0 := blk_cell hbJ9 0
  have t1 := blk_cell hbJ9 1
  have t2 := blk_cell hbJ9 2
  have t3 := blk_cell hbJ9 3
  have t4 := blk_cell hbJ9 4
  have t5 := blk_cell hbJ9 5
  have t6 := blk_cell hbJ9 6
  have t7 := blk_cell hbJ9 7
  have t8 := blk_cell hbJ9 8
  simp at t0 t1 t2 t3 t4 t5 t6 t7 t8
  go_wp2_with fail
  refine (cH.out A1 k1 w9 o29.rd.1).mono ?_
  rintro e w10 ⟨rfl, hb10⟩
  clear q0 q1 q2 q3 q4 q5 q6 q7 q8 s0 s1 s2 s3 s4 s5 s6 s7 s8 t0 t1 t2 t3 t4 t5 t6 t7 t8 hltC9 hltD9 hltJ9
  have hG10 : Below w.heap.size w w10 := hG9.trans (hb10.mono hG9.size)
  have hbC10 := blk_below hbC9 hb10
  have hbD10 := blk_below hbD9 hb10
  have hbJ10 := blk_below hbJ9 hb10
  have o210 := o29.below hb10
  have o410 := o49.below hb10
  have o10 := o9.below hb10
  clear hbC9 hbD9 hbJ9 o29 o49 o9 hb10 hG9
  skip
  have hltC10 := blk_lt hbC10
  have hltD10 := blk_lt hbD10
  have hltJ10 := blk_lt hbJ10
  have q0 := blk_cell hbC10 0
  have q1 := blk_cell hbC10 1
  have q2 := blk_cell hbC10 2
  have q3 := blk_cell hbC10 3
  have q4 := blk_cell hbC10 4
  have q5 := blk_cell hbC10 5
  have q6 := blk_cell hbC10 6
  have q7 := blk_cell hbC10 7
  have q8 := blk_cell hbC10 8
  simp at q0 q1 q2 q3 q4 q5 q6 q7 q8
  have s0 := blk_cell hbD10 0
  have s1 := blk_cell hbD10 1
  have s2 := blk_cell hbD10 2
  have s3 := blk_cell hbD10 3
  have s4 := blk_cell hbD10 4
  have s5 := blk_cell hbD10 5
  have s6 := blk_cell hbD10 6
  have s7 := blk_cell hbD10 7
  have s8 := blk_cell hbD10 8
  simp at s0 s1 s2 s3 s4 s5 s6 s7 s8
  have t0 := blk_cell hbJ10 0
  have t1 := blk_cell hbJ10 1
  have t2 := blk_cell hbJ10 2
  have t3 := blk_cell hbJ10 3
  have t4 := blk_cell hbJ10 4
  have t5 := blk_cell hbJ10 5
  have t6 := blk_cell hbJ10 6
  have t7 := blk_cell hbJ10 7
  have t8 := blk_cell hbJ10 8
  simp at t0 t1 t2 t3 t4 t5 t6 t7 t8
  go_wp2_with fail
  refine (cI.out A1 k1 w10 o210.rd.1).mono ?_
  rintro e w11 ⟨rfl, hb11⟩
  clear q0 q1 q2 q3 q4 q5 q6 q7 q8 s0 s1 s2 s3 s4 s5 s6 s7 s8 t0 t1 t2 t3 t4 t5 t6 t7 t8 hltC10 hltD10 hltJ10
  have hG11 : Below w.heap.size w w11 := hG10.trans (hb11.mono hG10.size)
  have hbC11 := blk_below hbC10 hb11
  have hbD11 := blk_below hbD10 hb11
  have hbJ11 := blk_below hbJ10 hb11
  have o211 := o210.below hb11
  have o411 := o410.below hb11
  have o11 := o10.below hb11
  clear hbC10 hbD10 hbJ10 o210 o410 o10 hb11 hG10
  go_wp2
  go_ret
  exact ⟨rfl, hG11⟩
end Go.Proofs.Ytpfohpfgfdeecaa
