/- The document's CheckCmd. -/
import Derived.Test.YtfhandglpjnonaaGreatDoorQf
import Derived.Deep.QuietTactic
import Derived.BigQuiet
namespace Go.Proofs.YtfhandglpjnonaaGreatDoor
open Go.RowKit
theorem cmdErr_bad {c : Cv} {e : Int} (h : kindE c = e) (he : e ≠ 0) : cmdErr c = e := by unfold cmdErr; rw [h, if_pos he]
theorem cmdErr_good {c : Cv} (h : kindE c = 0) : cmdErr c = if sameCv (keepC c) c = true then 0 else 3 := by unfold cmdErr; rw [h, if_neg (by simp)]
theorem doE_bad {c : Cv} {e : Int} (hk : c.kind = 1) (h : txErr c.t.id c.t.deps c.t.parts = e) (he : e ≠ 0) : kindE c = e := by unfold kindE doE; rw [if_neg (by omega), if_pos hk, h, if_pos he]
theorem doE_thin {c : Cv} (hk : c.kind = 1) (h : txErr c.t.id c.t.deps c.t.parts = 0) (ht : c.t.thin = true) : kindE c = 3 := by unfold kindE doE; rw [if_neg (by omega), if_pos hk, h, if_neg (by simp), if_pos ht]
theorem doE_snap {c : Cv} (hk : c.kind = 1) (h : txErr c.t.id c.t.deps c.t.parts = 0) (ht : c.t.thin = false) : kindE c = snapE c.snap := by unfold kindE doE; rw [if_neg (by omega), if_pos hk, h, if_neg (by simp), if_neg (by simp [ht])]
theorem sealE_of {c : Cv} (hk : c.kind = 3) : kindE c = sealE c := by unfold kindE; rw [if_neg (by omega), if_neg (by omega), if_neg (by omega), if_pos hk]
theorem whoE_of {c : Cv} (hk : c.kind = 2) : kindE c = if membP c.who = true then 0 else 2 := by unfold kindE; rw [if_neg (by omega), if_neg (by omega), if_pos hk]
theorem keptd1 {w : World} {b : Nat} {t : TypeId} {c0 c1 c2 c3 c4 c5 c6 c7 c8 c9 c10 c11 c12 c13 c14 c15 c16 c17 c18 c19 c20 c21 c22 c23 : Value} (h : w.heap[b]? = some (.cells #[c0, c1, c2, c3, c4, c5, c6, c7, c8, c9, c10, c11, c12, c13, c14, c15, c16, c17, c18, c19, c20, c21, c22, c23] t (0, 0))) (v1 v2 v3 v4 v5 v6 v7 v8 v9 v10 v11 v12 v13 : Value) : (((((((((((((w.setCell ⟨b, 1, none⟩ v1).setCell ⟨b, 2, none⟩ v2).setCell ⟨b, 3, none⟩ v3).setCell ⟨b, 4, none⟩ v4).setCell ⟨b, 5, none⟩ v5).setCell ⟨b, 6, none⟩ v6).setCell ⟨b, 7, none⟩ v7).setCell ⟨b, 8, none⟩ v8).setCell ⟨b, 9, none⟩ v9).setCell ⟨b, 10, none⟩ v10).setCell ⟨b, 11, none⟩ v11).setCell ⟨b, 12, none⟩ v12).setCell ⟨b, 13, none⟩ v13).heap[b]? = some (.cells #[c0, v1, v2, v3, v4, v5, v6, v7, v8, v9, v10, v11, v12, v13, c14, c15, c16, c17, c18, c19, c20, c21, c22, c23] t (0, 0)) := by
 have h0 := jO h 1 v1
 rw [show (#[c0, c1, c2, c3, c4, c5, c6, c7, c8, c9, c10, c11, c12, c13, c14, c15, c16, c17, c18, c19, c20, c21, c22, c23] : Array Value).setIfInBounds 1 v1 = #[c0, v1, c2, c3, c4, c5, c6, c7, c8, c9, c10, c11, c12, c13, c14, c15, c16, c17, c18, c19, c20, c21, c22, c23] from by simp] at h0
 have h1 := jO h0 2 v2
 rw [show (#[c0, v1, c2, c3, c4, c5, c6, c7, c8, c9, c10, c11, c12, c13, c14, c15, c16, c17, c18, c19, c20, c21, c22, c23] : Array Value).setIfInBounds 2 v2 = #[c0, v1, v2, c3, c4, c5, c6, c7, c8, c9, c10, c11, c12, c13, c14, c15, c16, c17, c18, c19, c20, c21, c22, c23] from by simp] at h1
 have h2 := jO h1 3 v3
 rw [show (#[c0, v1, v2, c3, c4, c5, c6, c7, c8, c9, c10, c11, c12, c13, c14, c15, c16, c17, c18, c19, c20, c21, c22, c23] : Array Value).setIfInBounds 3 v3 = #[c0, v1, v2, v3, c4, c5, c6, c7, c8, c9, c10, c11, c12, c13, c14, c15, c16, c17, c18, c19, c20, c21, c22, c23] from by simp] at h2
 have h3 := jO h2 4 v4
 rw [show (#[c0, v1, v2, v3, c4, c5, c6, c7, c8, c9, c10, c11, c12, c13, c14, c15, c16, c17, c18, c19, c20, c21, c22, c23] : Array Value).setIfInBounds 4 v4 = #[c0, v1, v2, v3, v4, c5, c6, c7, c8, c9, c10, c11, c12, c13, c14, c15, c16, c17, c18, c19, c20, c21, c22, c23] from by simp] at h3
 have h4 := jO h3 5 v5
 rw [show (#[c0, v1, v2, v3, v4, c5, c6, c7, c8, c9, c10, c11, c12, c13, c14, c15, c16, c17, c18, c19, c20, c21, c22, c23] : Array Value).setIfInBounds 5 v5 = #[c0, v1, v2, v3, v4, v5, c6, c7, c8, c9, c10, c11, c12, c13, c14, c15, c16, c17, c18, c19, c20, c21, c22, c23] from by simp] at h4
 have h5 := jO h4 6 v6
 rw [show (#[c0, v1, v2, v3, v4, v5, c6, c7, c8, c9, c10, c11, c12, c13, c14, c15, c16, c17, c18, c19, c20, c21, c22, c23] : Array Value).setIfInBounds 6 v6 = #[c0, v1, v2, v3, v4, v5, v6, c7, c8, c9, c10, c11, c12, c13, c14, c15, c16, c17, c18, c19, c20, c21, c22, c23] from by simp] at h5
 have h6 := jO h5 7 v7
 rw [show (#[c0, v1, v2, v3, v4, v5, v6, c7, c8, c9, c10, c11, c12, c13, c14, c15, c16, c17, c18, c19, c20, c21, c22, c23] : Array Value).setIfInBounds 7 v7 = #[c0, v1, v2, v3, v4, v5, v6, v7, c8, c9, c10, c11, c12, c13, c14, c15, c16, c17, c18, c19, c20, c21, c22, c23] from by simp] at h6
 have h7 := jO h6 8 v8
 rw [show (#[c0, v1, v2, v3, v4, v5, v6, v7, c8, c9, c10, c11, c12, c13, c14, c15, c16, c17, c18, c19, c20, c21, c22, c23] : Array Value).setIfInBounds 8 v8 = #[c0, v1, v2, v3, v4, v5, v6, v7, v8, c9, c10, c11, c12, c13, c14, c15, c16, c17, c18, c19, c20, c21, c22, c23] from by simp] at h7
 have h8 := jO h7 9 v9
 rw [show (#[c0, v1, v2, v3, v4, v5, v6, v7, v8, c9, c10, c11, c12, c13, c14, c15, c16, c17, c18, c19, c20, c21, c22, c23] : Array Value).setIfInBounds 9 v9 = #[c0, v1, v2, v3, v4, v5, v6, v7, v8, v9, c10, c11, c12, c13, c14, c15, c16, c17, c18, c19, c20, c21, c22, c23] from by simp] at h8
 have h9 := jO h8 10 v10
 rw [show (#[c0, v1, v2, v3, v4, v5, v6, v7, v8, v9, c10, c11, c12, c13, c14, c15, c16, c17, c18, c19, c20, c21, c22, c23] : Array Value).setIfInBounds 10 v10 = #[c0, v1, v2, v3, v4, v5, v6, v7, v8, v9, v10, c11, c12, c13, c14, c15, c16, c17, c18, c19, c20, c21, c22, c23] from by simp] at h9
 have h10 := jO h9 11 v11
 rw [show (#[c0, v1, v2, v3, v4, v5, v6, v7, v8, v9, v10, c11, c12, c13, c14, c15, c16, c17, c18, c19, c20, c21, c22, c23] : Array Value).setIfInBounds 11 v11 = #[c0, v1, v2, v3, v4, v5, v6, v7, v8, v9, v10, v11, c12, c13, c14, c15, c16, c17, c18, c19, c20, c21, c22, c23] from by simp] at h10
 have h11 := jO h10 12 v12
 rw [show (#[c0, v1, v2, v3, v4, v5, v6, v7, v8, v9, v10, v11, c12, c13, c14, c15, c16, c17, c18, c19, c20, c21, c22, c23] : Array Value).setIfInBounds 12 v12 = #[c0, v1, v2, v3, v4, v5, v6, v7, v8, v9, v10, v11, v12, c13, c14, c15, c16, c17, c18, c19, c20, c21, c22, c23] from by simp] at h11
 have h12 := jO h11 13 v13
 rw [show (#[c0, v1, v2, v3, v4, v5, v6, v7, v8, v9, v10, v11, v12, c13, c14, c15, c16, c17, c18, c19, c20, c21, c22, c23] : Array Value).setIfInBounds 13 v13 = #[c0, v1, v2, v3, v4, v5, v6, v7, v8, v9, v10, v11, v12, v13, c14, c15, c16, c17, c18, c19, c20, c21, c22, c23] from by simp] at h12
 exact h12
theorem keptd1_ne {w : World} {b k : Nat} {o : Option Obj} (h : w.heap[k]? = o) (hb : b ≠ k) (v1 v2 v3 v4 v5 v6 v7 v8 v9 v10 v11 v12 v13 : Value) : (((((((((((((w.setCell ⟨b, 1, none⟩ v1).setCell ⟨b, 2, none⟩ v2).setCell ⟨b, 3, none⟩ v3).setCell ⟨b, 4, none⟩ v4).setCell ⟨b, 5, none⟩ v5).setCell ⟨b, 6, none⟩ v6).setCell ⟨b, 7, none⟩ v7).setCell ⟨b, 8, none⟩ v8).setCell ⟨b, 9, none⟩ v9).setCell ⟨b, 10, none⟩ v10).setCell ⟨b, 11, none⟩ v11).setCell ⟨b, 12, none⟩ v12).setCell ⟨b, 13, none⟩ v13).heap[k]? = o := by
 repeat (refine yG hb ?_)
 exact h
theorem keptd1_below {B : Nat} {a w : World} {b : Nat} (h : Below B a w) (hb : B ≤ b) (v1 v2 v3 v4 v5 v6 v7 v8 v9 v10 v11 v12 v13 : Value) : Below B a (((((((((((((w.setCell ⟨b, 1, none⟩ v1).setCell ⟨b, 2, none⟩ v2).setCell ⟨b, 3, none⟩ v3).setCell ⟨b, 4, none⟩ v4).setCell ⟨b, 5, none⟩ v5).setCell ⟨b, 6, none⟩ v6).setCell ⟨b, 7, none⟩ v7).setCell ⟨b, 8, none⟩ v8).setCell ⟨b, 9, none⟩ v9).setCell ⟨b, 10, none⟩ v10).setCell ⟨b, 11, none⟩ v11).setCell ⟨b, 12, none⟩ v12).setCell ⟨b, 13, none⟩ v13) := by
 repeat (refine Below.setCell ?_ hb _)
 exact h
theorem keptd3 {w : World} {b : Nat} {t : TypeId} {c0 c1 c2 c3 c4 c5 c6 c7 c8 c9 c10 c11 c12 c13 c14 c15 c16 c17 c18 c19 c20 c21 c22 c23 : Value} (h : w.heap[b]? = some (.cells #[c0, c1, c2, c3, c4, c5, c6, c7, c8, c9, c10, c11, c12, c13, c14, c15, c16, c17, c18, c19, c20, c21, c22, c23] t (0, 0))) (v15 v16 v17 v18 v19 v20 v21 v22 v23 v13 : Value) : ((((((((((w.setCell ⟨b, 15, none⟩ v15).setCell ⟨b, 16, none⟩ v16).setCell ⟨b, 17, none⟩ v17).setCell ⟨b, 18, none⟩ v18).setCell ⟨b, 19, none⟩ v19).setCell ⟨b, 20, none⟩ v20).setCell ⟨b, 21, none⟩ v21).setCell ⟨b, 22, none⟩ v22).setCell ⟨b, 23, none⟩ v23).setCell ⟨b, 13, none⟩ v13).heap[b]? = some (.cells #[c0, c1, c2, c3, c4, c5, c6, c7, c8, c9, c10, c11, c12, v13, c14, v15, v16, v17, v18, v19, v20, v21, v22, v23] t (0, 0)) := by
 have h0 := jO h 15 v15
 rw [show (#[c0, c1, c2, c3, c4, c5, c6, c7, c8, c9, c10, c11, c12, c13, c14, c15, c16, c17, c18, c19, c20, c21, c22, c23] : Array Value).setIfInBounds 15 v15 = #[c0, c1, c2, c3, c4, c5, c6, c7, c8, c9, c10, c11, c12, c13, c14, v15, c16, c17, c18, c19, c20, c21, c22, c23] from by simp] at h0
 have h1 := jO h0 16 v16
 rw [show (#[c0, c1, c2, c3, c4, c5, c6, c7, c8, c9, c10, c11, c12, c13, c14, v15, c16, c17, c18, c19, c20, c21, c22, c23] : Array Value).setIfInBounds 16 v16 = #[c0, c1, c2, c3, c4, c5, c6, c7, c8, c9, c10, c11, c12, c13, c14, v15, v16, c17, c18, c19, c20, c21, c22, c23] from by simp] at h1
 have h2 := jO h1 17 v17
 rw [show (#[c0, c1, c2, c3, c4, c5, c6, c7, c8, c9, c10, c11, c12, c13, c14, v15, v16, c17, c18, c19, c20, c21, c22, c23] : Array Value).setIfInBounds 17 v17 = #[c0, c1, c2, c3, c4, c5, c6, c7, c8, c9, c10, c11, c12, c13, c14, v15, v16, v17, c18, c19, c20, c21, c22, c23] from by simp] at h2
 have h3 := jO h2 18 v18
 rw [show (#[c0, c1, c2, c3, c4, c5, c6, c7, c8, c9, c10, c11, c12, c13, c14, v15, v16, v17, c18, c19, c20, c21, c22, c23] : Array Value).setIfInBounds 18 v18 = #[c0, c1, c2, c3, c4, c5, c6, c7, c8, c9, c10, c11, c12, c13, c14, v15, v16, v17, v18, c19, c20, c21, c22, c23] from by simp] at h3
 have h4 := jO h3 19 v19
 rw [show (#[c0, c1, c2, c3, c4, c5, c6, c7, c8, c9, c10, c11, c12, c13, c14, v15, v16, v17, v18, c19, c20, c21, c22, c23] : Array Value).setIfInBounds 19 v19 = #[c0, c1, c2, c3, c4, c5, c6, c7, c8, c9, c10, c11, c12, c13, c14, v15, v16, v17, v18, v19, c20, c21, c22, c23] from by simp] at h4
 have h5 := jO h4 20 v20
 rw [show (#[c0, c1, c2, c3, c4, c5, c6, c7, c8, c9, c10, c11, c12, c13, c14, v15, v16, v17, v18, v19, c20, c21, c22, c23] : Array Value).setIfInBounds 20 v20 = #[c0, c1, c2, c3, c4, c5, c6, c7, c8, c9, c10, c11, c12, c13, c14, v15, v16, v17, v18, v19, v20, c21, c22, c23] from by simp] at h5
 have h6 := jO h5 21 v21
 rw [show (#[c0, c1, c2, c3, c4, c5, c6, c7, c8, c9, c10, c11, c12, c13, c14, v15, v16, v17, v18, v19, v20, c21, c22, c23] : Array Value).setIfInBounds 21 v21 = #[c0, c1, c2, c3, c4, c5, c6, c7, c8, c9, c10, c11, c12, c13, c14, v15, v16, v17, v18, v19, v20, v21, c22, c23] from by simp] at h6
 have h7 := jO h6 22 v22
 rw [show (#[c0, c1, c2, c3, c4, c5, c6, c7, c8, c9, c10, c11, c12, c13, c14, v15, v16, v17, v18, v19, v20, v21, c22, c23] : Array Value).setIfInBounds 22 v22 = #[c0, c1, c2, c3, c4, c5, c6, c7, c8, c9, c10, c11, c12, c13, c14, v15, v16, v17, v18, v19, v20, v21, v22, c23] from by simp] at h7
 have h8 := jO h7 23 v23
 rw [show (#[c0, c1, c2, c3, c4, c5, c6, c7, c8, c9, c10, c11, c12, c13, c14, v15, v16, v17, v18, v19, v20, v21, v22, c23] : Array Value).setIfInBounds 23 v23 = #[c0, c1, c2, c3, c4, c5, c6, c7, c8, c9, c10, c11, c12, c13, c14, v15, v16, v17, v18, v19, v20, v21, v22, v23] from by simp] at h8
 have h9 := jO h8 13 v13
 rw [show (#[c0, c1, c2, c3, c4, c5, c6, c7, c8, c9, c10, c11, c12, c13, c14, v15, v16, v17, v18, v19, v20, v21, v22, v23] : Array Value).setIfInBounds 13 v13 = #[c0, c1, c2, c3, c4, c5, c6, c7, c8, c9, c10, c11, c12, v13, c14, v15, v16, v17, v18, v19, v20, v21, v22, v23] from by simp] at h9
 exact h9
theorem keptd3_ne {w : World} {b k : Nat} {o : Option Obj} (h : w.heap[k]? = o) (hb : b ≠ k) (v15 v16 v17 v18 v19 v20 v21 v22 v23 v13 : Value) : ((((((((((w.setCell ⟨b, 15, none⟩ v15).setCell ⟨b, 16, none⟩ v16).setCell ⟨b, 17, none⟩ v17).setCell ⟨b, 18, none⟩ v18).setCell ⟨b, 19, none⟩ v19).setCell ⟨b, 20, none⟩ v20).setCell ⟨b, 21, none⟩ v21).setCell ⟨b, 22, none⟩ v22).setCell ⟨b, 23, none⟩ v23).setCell ⟨b, 13, none⟩ v13).heap[k]? = o := by
 repeat (refine yG hb ?_)
 exact h
theorem keptd3_below {B : Nat} {a w : World} {b : Nat} (h : Below B a w) (hb : B ≤ b) (v15 v16 v17 v18 v19 v20 v21 v22 v23 v13 : Value) : Below B a ((((((((((w.setCell ⟨b, 15, none⟩ v15).setCell ⟨b, 16, none⟩ v16).setCell ⟨b, 17, none⟩ v17).setCell ⟨b, 18, none⟩ v18).setCell ⟨b, 19, none⟩ v19).setCell ⟨b, 20, none⟩ v20).setCell ⟨b, 21, none⟩ v21).setCell ⟨b, 22, none⟩ v22).setCell ⟨b, 23, none⟩ v23).setCell ⟨b, 13, none⟩ v13) := by
 repeat (refine Below.setCell ?_ hb _)
 exact h
theorem below_drQ {w : World} {B : Nat} {v : World} (h : Below B v w) (n : Nat) : Below B v (w.drewN n) := h.trans ⟨rfl, rfl, rfl, Nat.le_refl _, fun _ _ => rfl⟩
theorem who_quiet (n : Int) (w : World) : Calls Tryz.prog 33 #[.int .i64 n] w fun e w' => e = .returned (.bool (membP n)) ∧ w' = w := by
 unfold membP
 cases h : decide (0 ≤ n)
 ·
  go_enter Tryz.func33, Tryz.ntmps33
  go_wp2
  go_ret
  exact ⟨rfl, rfl⟩
 ·
  go_enter Tryz.func33, Tryz.ntmps33
  go_wp2
  go_ret
  exact ⟨jQ (by simp), rfl⟩
set_option maxRecDepth 100000 in
set_option maxHeartbeats 8000000 in
theorem rchkcmd_any (a : Cm) (w : World) (hA : a.Fit w) :
 Calls Tryz.prog 12 #[.agg ↑a] w fun e w' => e = .returned (.int .i64 (cmdErr a.val)) ∧ Below w.heap.size w w' := by
 have hFit := hA
 generalize hr : cmdErr a.val = q
 have hdo := jH (fun w' (h : Below w.heap.size w w') => rtxcheck_any a.x a.v a.t a.T a.k a.kc a.ps w' (hA.below h).ok.rdE (hA.below h).ok.lk (hA.below h).fit hA.x hA.v)
 have hsm := jH (fun (b : Cm) w' (h : Below w.heap.size w w') (hb : b.Ok w' w'.heap.size) => scmdD_any b a w' hb ((hA.ok.below h).more h.size))
 unfold cmdErr at hr
 unfold Cm.val at hr
 obtain ⟨kd, x, v, t, T, k, kc, ps, sn, wh, B, m, mc, ms, u⟩ := a
 dsimp only at hr hdo hsm ⊢
 have hb0 : Below w.heap.size w ((w.alloc (.cells #[.int .i64 kd, .int .i64 x.1, .int .u32 x.2, .int .u32 v.d0, .int .u32 v.d1, .int .u32 v.d2, .int .u32 v.d3, .int .u32 v.d4, .int .u32 v.d5, .int .u32 v.d6, .int .u32 v.d7, .bool t, .slice T k kc, .int .i64 sn, .int .i64 wh, .slice B m mc, .int .u32 u.d0, .int .u32 u.d1, .int .u32 u.d2, .int .u32 u.d3, .int .u32 u.d4, .int .u32 u.d5, .int .u32 u.d6, .int .u32 u.d7] 34)).alloc (.cells #[.int .i64 kd, .int .i64 0, .int .u32 0, .int .u32 0, .int .u32 0, .int .u32 0, .int .u32 0, .int .u32 0, .int .u32 0, .int .u32 0, .int .u32 0, .bool false, .slice none 0 0, .int .i64 0, .int .i64 0, .slice none 0 0, .int .u32 0, .int .u32 0, .int .u32 0, .int .u32 0, .int .u32 0, .int .u32 0, .int .u32 0, .int .u32 0] 34)) := ((Below.refl _ w).alloc (Nat.le_refl _) _).alloc (by simp) _
 have hbA : ((w.alloc (.cells #[.int .i64 kd, .int .i64 x.1, .int .u32 x.2, .int .u32 v.d0, .int .u32 v.d1, .int .u32 v.d2, .int .u32 v.d3, .int .u32 v.d4, .int .u32 v.d5, .int .u32 v.d6, .int .u32 v.d7, .bool t, .slice T k kc, .int .i64 sn, .int .i64 wh, .slice B m mc, .int .u32 u.d0, .int .u32 u.d1, .int .u32 u.d2, .int .u32 u.d3, .int .u32 u.d4, .int .u32 u.d5, .int .u32 u.d6, .int .u32 u.d7] 34)).alloc (.cells #[.int .i64 kd, .int .i64 0, .int .u32 0, .int .u32 0, .int .u32 0, .int .u32 0, .int .u32 0, .int .u32 0, .int .u32 0, .int .u32 0, .int .u32 0, .bool false, .slice none 0 0, .int .i64 0, .int .i64 0, .slice none 0 0, .int .u32 0, .int .u32 0, .int .u32 0, .int .u32 0, .int .u32 0, .int .u32 0, .int .u32 0, .int .u32 0] 34)).heap[w.heap.size]? = some (.cells #[.int .i64 kd, .int .i64 x.1, .int .u32 x.2, .int .u32 v.d0, .int .u32 v.d1, .int .u32 v.d2, .int .u32 v.d3, .int .u32 v.d4, .int .u32 v.d5, .int .u32 v.d6, .int .u32 v.d7, .bool t, .slice T k kc, .int .i64 sn, .int .i64 wh, .slice B m mc, .int .u32 u.d0, .int .u32 u.d1, .int .u32 u.d2, .int .u32 u.d3, .int .u32 u.d4, .int .u32 u.d5, .int .u32 u.d6, .int .u32 u.d7] 34 (0, 0)) := yE _ (by simp) (jT _ _ rfl)
 have hbK : ((w.alloc (.cells #[.int .i64 kd, .int .i64 x.1, .int .u32 x.2, .int .u32 v.d0, .int .u32 v.d1, .int .u32 v.d2, .int .u32 v.d3, .int .u32 v.d4, .int .u32 v.d5, .int .u32 v.d6, .int .u32 v.d7, .bool t, .slice T k kc, .int .i64 sn, .int .i64 wh, .slice B m mc, .int .u32 u.d0, .int .u32 u.d1, .int .u32 u.d2, .int .u32 u.d3, .int .u32 u.d4, .int .u32 u.d5, .int .u32 u.d6, .int .u32 u.d7] 34)).alloc (.cells #[.int .i64 kd, .int .i64 0, .int .u32 0, .int .u32 0, .int .u32 0, .int .u32 0, .int .u32 0, .int .u32 0, .int .u32 0, .int .u32 0, .int .u32 0, .bool false, .slice none 0 0, .int .i64 0, .int .i64 0, .slice none 0 0, .int .u32 0, .int .u32 0, .int .u32 0, .int .u32 0, .int .u32 0, .int .u32 0, .int .u32 0, .int .u32 0] 34)).heap[w.heap.size + 1]? = some (.cells #[.int .i64 kd, .int .i64 0, .int .u32 0, .int .u32 0, .int .u32 0, .int .u32 0, .int .u32 0, .int .u32 0, .int .u32 0, .int .u32 0, .int .u32 0, .bool false, .slice none 0 0, .int .i64 0, .int .i64 0, .slice none 0 0, .int .u32 0, .int .u32 0, .int .u32 0, .int .u32 0, .int .u32 0, .int .u32 0, .int .u32 0, .int .u32 0] 34 (0, 0)) := jT _ _ (by simp)
 generalize hW : ((w.alloc (.cells #[.int .i64 kd, .int .i64 x.1, .int .u32 x.2, .int .u32 v.d0, .int .u32 v.d1, .int .u32 v.d2, .int .u32 v.d3, .int .u32 v.d4, .int .u32 v.d5, .int .u32 v.d6, .int .u32 v.d7, .bool t, .slice T k kc, .int .i64 sn, .int .i64 wh, .slice B m mc, .int .u32 u.d0, .int .u32 u.d1, .int .u32 u.d2, .int .u32 u.d3, .int .u32 u.d4, .int .u32 u.d5, .int .u32 u.d6, .int .u32 u.d7] 34)).alloc (.cells #[.int .i64 kd, .int .i64 0, .int .u32 0, .int .u32 0, .int .u32 0, .int .u32 0, .int .u32 0, .int .u32 0, .int .u32 0, .int .u32 0, .int .u32 0, .bool false, .slice none 0 0, .int .i64 0, .int .i64 0, .slice none 0 0, .int .u32 0, .int .u32 0, .int .u32 0, .int .u32 0, .int .u32 0, .int .u32 0, .int .u32 0, .int .u32 0] 34)) = W at hb0 hbA hbK
 have hz0 := hb0.size
 have hltA := jB hbA
 have hltK := jB hbK
 have p0 := jA hbA 0
 have p1 := jA hbA 1
 have p2 := jA hbA 2
 have p3 := jA hbA 3
 have p4 := jA hbA 4
 have p5 := jA hbA 5
 have p6 := jA hbA 6
 have p7 := jA hbA 7
 have p8 := jA hbA 8
 have p9 := jA hbA 9
 have p10 := jA hbA 10
 have p11 := jA hbA 11
 have p12 := jA hbA 12
 have p13 := jA hbA 13
 have p14 := jA hbA 14
 have p15 := jA hbA 15
 have p16 := jA hbA 16
 have p17 := jA hbA 17
 have p18 := jA hbA 18
 have p19 := jA hbA 19
 have p20 := jA hbA 20
 have p21 := jA hbA 21
 have p22 := jA hbA 22
 have p23 := jA hbA 23
 have r0 := jA hbK 0
 have r1 := jA hbK 1
 have r2 := jA hbK 2
 have r3 := jA hbK 3
 have r4 := jA hbK 4
 have r5 := jA hbK 5
 have r6 := jA hbK 6
 have r7 := jA hbK 7
 have r8 := jA hbK 8
 have r9 := jA hbK 9
 have r10 := jA hbK 10
 have r11 := jA hbK 11
 have r12 := jA hbK 12
 have r13 := jA hbK 13
 have r14 := jA hbK 14
 have r15 := jA hbK 15
 have r16 := jA hbK 16
 have r17 := jA hbK 17
 have r18 := jA hbK 18
 have r19 := jA hbK 19
 have r20 := jA hbK 20
 have r21 := jA hbK 21
 have r22 := jA hbK 22
 have r23 := jA hbK 23
 simp at p0 p1 p2 p3 p4 p5 p6 p7 p8 p9 p10 p11 p12 p13 p14 p15 p16 p17 p18 p19 p20 p21 p22 p23 r0 r1 r2 r3 r4 r5 r6 r7 r8 r9 r10 r11 r12 r13 r14 r15 r16 r17 r18 r19 r20 r21 r22 r23
 have hbAH := jH hbA
 have hbKH := jH hbK
 have hrC := jH hr
 have hrH : True := trivial
 have hWH := jH hW
 have hA' := jH hFit
 clear hbA hbK hr hA hFit hW
 go_enter Tryz.func12, Tryz.ntmps12
 go_upto_region 1 with (fail)
 refine wp_region_list ?_
 refine wpList_plain rfl (fun K hK => ?_)
 go_simp
 refine hK _ _ ?_
 clear hK K
 refine wpList_plain rfl (fun K hK => ?_)
 go_simp
 refine hK _ _ ?_
 clear hK K
 refine wpList_buildK rfl _ _ rfl (cells := #[.int .i64 kd, .int .i64 0, .int .u32 0, .int .u32 0, .int .u32 0, .int .u32 0, .int .u32 0, .int .u32 0, .int .u32 0, .int .u32 0, .int .u32 0, .bool false, .slice none 0 0, .int .i64 0, .int .i64 0, .slice none 0 0, .int .u32 0, .int .u32 0, .int .u32 0, .int .u32 0, .int .u32 0, .int .u32 0, .int .u32 0, .int .u32 0]) (by kernel_rfl) ?_
 refine wpList_plain rfl (fun K hK => ?_)
 go_simp
 refine hK _ _ ?_
 clear hK K
 refine wpList_store_row rfl _ _ _ rfl (w.heap.size + 1) #[.int .i64 kd, .int .i64 0, .int .u32 0, .int .u32 0, .int .u32 0, .int .u32 0, .int .u32 0, .int .u32 0, .int .u32 0, .int .u32 0, .int .u32 0, .bool false, .slice none 0 0, .int .i64 0, .int .i64 0, .slice none 0 0, .int .u32 0, .int .u32 0, .int .u32 0, .int .u32 0, .int .u32 0, .int .u32 0, .int .u32 0, .int .u32 0] rfl rfl 34 ↑Zc.mk (jT _ _ (by simp)) (by kernel_rfl) rfl (by simp [Value.oneCell']) ?_
 have hsr := World.setRow_alloc_new (w.alloc (.cells #[.int .i64 kd, .int .i64 x.1, .int .u32 x.2, .int .u32 v.d0, .int .u32 v.d1, .int .u32 v.d2, .int .u32 v.d3, .int .u32 v.d4, .int .u32 v.d5, .int .u32 v.d6, .int .u32 v.d7, .bool t, .slice T k kc, .int .i64 sn, .int .i64 wh, .slice B m mc, .int .u32 u.d0, .int .u32 u.d1, .int .u32 u.d2, .int .u32 u.d3, .int .u32 u.d4, .int .u32 u.d5, .int .u32 u.d6, .int .u32 u.d7] 34)) ↑Zc.mk #[.int .i64 kd, .int .i64 0, .int .u32 0, .int .u32 0, .int .u32 0, .int .u32 0, .int .u32 0, .int .u32 0, .int .u32 0, .int .u32 0, .int .u32 0, .bool false, .slice none 0 0, .int .i64 0, .int .i64 0, .slice none 0 0, .int .u32 0, .int .u32 0, .int .u32 0, .int .u32 0, .int .u32 0, .int .u32 0, .int .u32 0, .int .u32 0] 34
 rw [show (w.alloc (.cells #[.int .i64 kd, .int .i64 x.1, .int .u32 x.2, .int .u32 v.d0, .int .u32 v.d1, .int .u32 v.d2, .int .u32 v.d3, .int .u32 v.d4, .int .u32 v.d5, .int .u32 v.d6, .int .u32 v.d7, .bool t, .slice T k kc, .int .i64 sn, .int .i64 wh, .slice B m mc, .int .u32 u.d0, .int .u32 u.d1, .int .u32 u.d2, .int .u32 u.d3, .int .u32 u.d4, .int .u32 u.d5, .int .u32 u.d6, .int .u32 u.d7] 34)).heap.size = w.heap.size + 1 by simp, hWH.out] at hsr
 rw [hsr]
 clear hsr
 have hKOk : Hid (∀ w', Below w.heap.size w w' → Cm.Ok w' w'.heap.size ⟨kd, x, v, t, T, k, kc, ps, sn, wh, B, m, mc, ms, u⟩) := jH (fun w' h => (hA'.out.ok.below h).more h.size)
 replace hrH : Hid (∀ e : Int, kindE ⟨kd, ⟨x, v, t, ps.map Pe.core⟩, sn, wh, ms, u⟩ = e → (e ≠ 0 → e = q)) := jH (fun e h he => (cmdErr_bad h he).symm.trans hrC.out)
 have cQ := jH (fun n w' => who_quiet n w')
 go_upto_block 0 with (fail)
 go_cut [] (fun wx => ∃ (b : Cm), kindE ⟨kd, ⟨x, v, t, ps.map Pe.core⟩, sn, wh, ms, u⟩ = 0 ∧ b.val = keepC ⟨kd, ⟨x, v, t, ps.map Pe.core⟩, sn, wh, ms, u⟩ ∧ b.Ok wx wx.heap.size ∧
  wx.heap[w.heap.size + 1]? = some (.cells ↑b 34 (0, 0)) ∧ wx.heap[w.heap.size]? = some (.cells #[.int .i64 kd, .int .i64 x.1, .int .u32 x.2, .int .u32 v.d0, .int .u32 v.d1, .int .u32 v.d2, .int .u32 v.d3, .int .u32 v.d4, .int .u32 v.d5, .int .u32 v.d6, .int .u32 v.d7, .bool t, .slice T k kc, .int .i64 sn, .int .i64 wh, .slice B m mc, .int .u32 u.d0, .int .u32 u.d1, .int .u32 u.d2, .int .u32 u.d3, .int .u32 u.d4, .int .u32 u.d5, .int .u32 u.d6, .int .u32 u.d7] 34 (0, 0)) ∧ Below w.heap.size w wx)
 case first =>
  by_cases h0 : kd = 0
  ·
   subst h0
   go_wp2_with fail
   go_meet
   exact ⟨⟨0, (0, 0), zeroQ, false, none, 0, 0, [], 0, 0, none, 0, 0, [], zeroQ⟩, rfl, rfl, ⟨RdE.nil_, Rd.nil_, Nat.zero_le _, Nat.zero_le _, by simp⟩, hbKH.out, hbAH.out, hb0⟩
  have h0d : (kd == 0) = false := by simpa using h0
  by_cases h1 : kd = 1
  ·
   subst h1
   have cD := jH (hdo.out W hb0)
   obtain ⟨e0, he0⟩ : ∃ e0, txErr x v (ps.map Pe.core) = e0 := ⟨_, rfl⟩
   rw [he0] at cD
   replace he0 := jH he0
   by_cases hz : e0 = 0
   case neg =>
    have hzd : (e0 == 0) = false := by simpa using hz
    have hT : Hid (e0 = q) := jH (hrH.out e0 (doE_bad rfl he0.out hz) hz)
    go_wp2_with fail
    refine cD.out.mono ?_
    rintro e w1 ⟨rfl, hb1⟩
    have hG := hb0.trans (hb1.mono hz0)
    clear p0 p1 p2 p3 p4 p5 p6 p7 p8 p9 p10 p11 p12 p13 p14 p15 p16 p17 p18 p19 p20 p21 p22 p23 r0 r1 r2 r3 r4 r5 r6 r7 r8 r9 r10 r11 r12 r13 r14 r15 r16 r17 r18 r19 r20 r21 r22 r23
    go_wp2
    go_ret
    exact ⟨jR hT.out, hG⟩
   subst hz
   go_wp2_with fail
   refine cD.out.mono ?_
   rintro e w1 ⟨rfl, hb1⟩
   have hbA1 := jD hbAH.out hb1
   have hbK1 := jD hbKH.out hb1
   have hb01 := hb0.trans (hb1.mono hz0)
   clear p0 p1 p2 p3 p4 p5 p6 p7 p8 p9 p10 p11 p12 p13 p14 p15 p16 p17 p18 p19 p20 p21 p22 p23 r0 r1 r2 r3 r4 r5 r6 r7 r8 r9 r10 r11 r12 r13 r14 r15 r16 r17 r18 r19 r20 r21 r22 r23
   have p1 := jA hbA1 1
   have p2 := jA hbA1 2
   have p3 := jA hbA1 3
   have p4 := jA hbA1 4
   have p5 := jA hbA1 5
   have p6 := jA hbA1 6
   have p7 := jA hbA1 7
   have p8 := jA hbA1 8
   have p9 := jA hbA1 9
   have p10 := jA hbA1 10
   have p11 := jA hbA1 11
   have p12 := jA hbA1 12
   have p13 := jA hbA1 13
   have r1 := jA hbK1 1
   have r2 := jA hbK1 2
   have r3 := jA hbK1 3
   have r4 := jA hbK1 4
   have r5 := jA hbK1 5
   have r6 := jA hbK1 6
   have r7 := jA hbK1 7
   have r8 := jA hbK1 8
   have r9 := jA hbK1 9
   have r10 := jA hbK1 10
   have r11 := jA hbK1 11
   have r12 := jA hbK1 12
   have r13 := jA hbK1 13
   simp at p1 p2 p3 p4 p5 p6 p7 p8 p9 p10 p11 p12 p13 r1 r2 r3 r4 r5 r6 r7 r8 r9 r10 r11 r12 r13
   have hlA1 := jB hbA1
   have hlK1 := jB hbK1
   have hfK1 := jE hbK1
   have hbA1H := jH hbA1
   have hbK1H := jH hbK1
   clear hbA1 hbK1
   cases t with
   | true =>
    have hT : Hid ((3 : Int) = q) := jH (hrH.out 3 (doE_thin rfl he0.out rfl) (by simp))
    go_wp2
    go_ret
    exact ⟨jR hT.out, hb01⟩
   | false =>
   by_cases hs1 : sn < 0
   ·
    have hd1 : decide (sn < 0) = true := decide_eq_true hs1
    have hT : Hid ((2 : Int) = q) := jH (hrH.out 2 ((doE_snap rfl he0.out rfl).trans (by show snapE sn = 2; unfold snapE; rw [if_pos hs1])) (by simp))
    go_wp2
    go_ret
    exact ⟨jR hT.out, hb01⟩
   have hd1 : decide (sn < 0) = false := decide_eq_false hs1
   by_cases hs2 : 1048576 < sn
   ·
    have hd2 : decide ((1048576 : Int) < sn) = true := decide_eq_true hs2
    have hT : Hid ((2 : Int) = q) := jH (hrH.out 2 ((doE_snap rfl he0.out rfl).trans (by show snapE sn = 2; unfold snapE; rw [if_neg hs1, if_pos hs2])) (by simp))
    go_wp2
    go_ret
    exact ⟨jR hT.out, hb01⟩
   have hd2 : decide ((1048576 : Int) < sn) = false := decide_eq_false hs2
   have hkE : Hid (kindE ⟨1, ⟨x, v, false, ps.map Pe.core⟩, sn, wh, ms, u⟩ = 0) := jH ((doE_snap rfl he0.out rfl).trans (by show snapE sn = 0; unfold snapE; rw [if_neg hs1, if_neg hs2]))
   have hbv : Hid (Cm.val ⟨1, x, v, false, T, k, kc, ps, sn, 0, none, 0, 0, [], zeroQ⟩ = keepC ⟨1, ⟨x, v, false, ps.map Pe.core⟩, sn, wh, ms, u⟩) := jH (by unfold keepC; rw [if_neg (by simp), if_pos rfl]; rfl)
   have hKn := jH (keptd1 hbK1H.out (.int .i64 x.1) (.int .u32 x.2) (.int .u32 v.d0) (.int .u32 v.d1) (.int .u32 v.d2) (.int .u32 v.d3) (.int .u32 v.d4) (.int .u32 v.d5) (.int .u32 v.d6) (.int .u32 v.d7) (.bool false) (.slice T k kc) (.int .i64 sn))
   have hAn := jH (keptd1_ne hbA1H.out (show w.heap.size + 1 ≠ w.heap.size by omega) (.int .i64 x.1) (.int .u32 x.2) (.int .u32 v.d0) (.int .u32 v.d1) (.int .u32 v.d2) (.int .u32 v.d3) (.int .u32 v.d4) (.int .u32 v.d5) (.int .u32 v.d6) (.int .u32 v.d7) (.bool false) (.slice T k kc) (.int .i64 sn))
   have hbN := jH (keptd1_below hb01 (show w.heap.size ≤ w.heap.size + 1 by omega) (.int .i64 x.1) (.int .u32 x.2) (.int .u32 v.d0) (.int .u32 v.d1) (.int .u32 v.d2) (.int .u32 v.d3) (.int .u32 v.d4) (.int .u32 v.d5) (.int .u32 v.d6) (.int .u32 v.d7) (.bool false) (.slice T k kc) (.int .i64 sn))
   have hOk := jH (hKOk.out _ hbN.out)
   go_wp2_with fail
   go_meet
   exact ⟨⟨1, x, v, false, T, k, kc, ps, sn, 0, none, 0, 0, [], zeroQ⟩, hkE.out, hbv.out, ⟨hOk.out.rdE, Rd.nil_, hOk.out.lk, Nat.zero_le _, hOk.out.pl⟩, hKn.out, hAn.out, hbN.out⟩
  have h1d : (kd == 1) = false := by simpa using h1
  by_cases h2 : kd = 2
  ·
   subst h2
   have cY := jH (cQ.out wh W)
   cases hmb : membP wh with
   | false =>
    have hT : Hid ((2 : Int) = q) := jH (hrH.out 2 ((whoE_of rfl).trans (by show (if membP wh = true then (0 : Int) else 2) = 2; rw [hmb]; rfl)) (by simp))
    rw [hmb] at cY
    clear hmb
    go_wp2_with fail
    refine cY.out.mono ?_
    rintro e w1 ⟨rfl, hw1⟩
    obtain rfl := hw1.symm
    go_wp2
    go_ret
    exact ⟨jR hT.out, hb0⟩
   | true =>
    have hkE : Hid (kindE ⟨2, ⟨x, v, t, ps.map Pe.core⟩, sn, wh, ms, u⟩ = 0) := jH ((whoE_of rfl).trans (by show (if membP wh = true then (0 : Int) else 2) = 0; rw [hmb]; rfl))
    have hbv : Hid (Cm.val ⟨2, (0, 0), zeroQ, false, none, 0, 0, [], 0, wh, none, 0, 0, [], zeroQ⟩ = keepC ⟨2, ⟨x, v, t, ps.map Pe.core⟩, sn, wh, ms, u⟩) := jH (by unfold keepC; rw [if_neg (by simp), if_neg (by simp), if_pos rfl]; rfl)
    rw [hmb] at cY
    clear hmb
    have hfK := jE hbKH.out 14
    have hKn : Hid ((W.setCell ⟨w.heap.size + 1, 14, none⟩ (.int .i64 wh)).heap[w.heap.size + 1]? = some (.cells #[.int .i64 2, .int .i64 0, .int .u32 0, .int .u32 0, .int .u32 0, .int .u32 0, .int .u32 0, .int .u32 0, .int .u32 0, .int .u32 0, .int .u32 0, .bool false, .slice none 0 0, .int .i64 0, .int .i64 wh, .slice none 0 0, .int .u32 0, .int .u32 0, .int .u32 0, .int .u32 0, .int .u32 0, .int .u32 0, .int .u32 0, .int .u32 0] 34 (0, 0))) := jH (by
     rw [jO hbKH.out 14]; simp)
    have hAn := jH (yG (p := ⟨w.heap.size + 1, 14, none⟩) (u := .int .i64 wh) (show w.heap.size + 1 ≠ w.heap.size by omega) hbAH.out)
    have hbN : Below w.heap.size w (W.setCell ⟨w.heap.size + 1, 14, none⟩ (.int .i64 wh)) := hb0.setCell (by simp) _
    go_wp2_with fail
    refine cY.out.mono ?_
    rintro e w1 ⟨rfl, hw1⟩
    obtain rfl := hw1.symm
    go_wp2_with fail
    go_meet
    exact ⟨⟨2, (0, 0), zeroQ, false, none, 0, 0, [], 0, wh, none, 0, 0, [], zeroQ⟩, hkE.out, hbv.out, ⟨RdE.nil_, Rd.nil_, Nat.zero_le _, Nat.zero_le _, by simp⟩, hKn.out, hAn.out, hbN⟩
  have h2d : (kd == 2) = false := by simpa using h2
  by_cases h3 : kd = 3
  case neg =>
   have h3d : (kd == 3) = false := by simpa using h3
   have hT : Hid ((5 : Int) = q) := jH (hrH.out 5 (by unfold kindE; rw [if_neg h0, if_neg h1, if_neg h2, if_neg h3]) (by simp))
   go_wp2
   go_ret
   exact ⟨jR hT.out, hb0⟩
  subst h3
  have hm0 : Hid (Cm.Ok W W.heap.size ⟨3, x, v, t, T, k, kc, ps, sn, wh, B, m, mc, ms, u⟩) := jH (hKOk.out W hb0)
  have hAM := (hKOk.out w (Below.refl _ _)).rdM
  have hAm := (hKOk.out w (Below.refl _ _)).lm
  dsimp only at hAM hAm
  unfold maxLen at hAm
  have hml : ms.length = m := by simpa using hAM.1
  have hsE : Hid (∀ z : Int, sealE ⟨3, ⟨x, v, t, ps.map Pe.core⟩, sn, wh, ms, u⟩ = z → kindE ⟨3, ⟨x, v, t, ps.map Pe.core⟩, sn, wh, ms, u⟩ = z) := jH (fun z h => (sealE_of rfl).trans h)
  obtain ⟨E0, hE0⟩ : ∃ E0, sealE ⟨3, ⟨x, v, t, ps.map Pe.core⟩, sn, wh, ms, u⟩ = E0 := ⟨_, rfl⟩
  have hq0 : (if 5 < m then (8 : Int) else if ms = [] then 3 else if okM (-1) ms = false then 3 else if errI (vchk u) ≠ 0 then errI (vchk u) else snapE sn) = E0 := by rw [← hE0, ← hml]; rfl
  have hE : Hid (kindE ⟨3, ⟨x, v, t, ps.map Pe.core⟩, sn, wh, ms, u⟩ = E0) := jH (hsE.out _ hE0)
  have hbadE : Hid (∀ e : Int, e ≠ 0 → e = E0 → e = q) := jH (fun e he h => hrH.out e (hE.out.trans h.symm) he)
  have hq0H := jH hq0
  have hmsH := jH (fun w' (h : Below w.heap.size w w') => hAM.below h)
  have hmlH := jH hml
  clear hAM hml hE0 hq0 hsE
  by_cases h5 : 5 < m
  ·
   have h5d : decide ((5 : Int) < (m : Int)) = true := decide_eq_true (by omega)
   have h5i : (5 : Int) < (m : Int) := by omega
   have hT : Hid ((8 : Int) = q) := jH (hbadE.out 8 (by simp) (by rw [← hq0H.out, if_pos h5]))
   clear h5
   go_wp2
   go_ret
   exact ⟨jR hT.out, hb0⟩
  have h5i : ¬ (5 : Int) < (m : Int) := by omega
  have hq1 : Hid ((if ms = [] then (3 : Int) else if okM (-1) ms = false then 3 else if errI (vchk u) ≠ 0 then errI (vchk u) else snapE sn) = E0) := jH (by rw [← hq0H.out, if_neg h5])
  by_cases hm : m = 0
  ·
   have hms : ms = [] := List.eq_nil_of_length_eq_zero (by rw [hmlH.out]; exact hm)
   have hT : Hid ((3 : Int) = q) := jH (hbadE.out 3 (by simp) (by rw [← hq1.out, if_pos hms]))
   replace hms := jH hms
   subst hm
   go_wp2
   go_ret
   exact ⟨jR hT.out, hb0⟩
  have hmd : ((m : Int) == 0) = false := by simpa using hm
  have hms : Hid (ms ≠ []) := jH (fun e => hm (by rw [← hmlH.out, e]; rfl))
  have hq2 : Hid ((if okM (-1) ms = false then (3 : Int) else if errI (vchk u) ≠ 0 then errI (vchk u) else snapE sn) = E0) := jH (by rw [← hq1.out, if_neg hms.out])
  go_wp2_with fail
  clear p0 p1 p2 p3 p4 p5 p6 p7 p8 p9 p10 p11 p12 p13 p14 p15 p16 p17 p18 p19 p20 p21 p22 p23 r0 r1 r2 r3 r4 r5 r6 r7 r8 r9 r10 r11 r12 r13 r14 r15 r16 r17 r18 r19 r20 r21 r22 r23
  go_loopg [5] (m + 1) (fun gg iv wr => ∃ (j : Nat), j ≤ m ∧ gg = m + 1 - j ∧ iv = .int .i64 (j : Int) ∧ okM (-1) ms = okM (if j = 0 then -1 else ms.getD (j - 1) 0) (ms.drop j) ∧ Below W.heap.size W wr)
  case atStart => exact ⟨0, Nat.zero_le _, rfl, rfl, rfl, Below.refl _ _⟩
  case round =>
   obtain ⟨j, hj, rfl, rfl, hok, hbr⟩ := hrel
   obtain ⟨wv, hwv⟩ : ∃ wv, wv = wr := ⟨_, rfl⟩
   obtain rfl := hwv
   have hb0v := hb0.trans (hbr.mono hz0)
   have hzv := hb0v.size
   have hokH := jH hok
   clear hok
   have hbA1 := jD hbAH.out hbr
   have p15 := jA hbA1 15
   simp at p15
   have hltA1 := jB hbA1
   have hbA1H := jH hbA1
   clear hbA1
   by_cases hlt : j < m
   ·
    have hlti : (j : Int) < (m : Int) := by omega
    obtain ⟨bB, oB, y, rfl, hbB, hy, hcy⟩ := Rd.at_ (enc := eZ) (hmsH.out wv hb0v) hlt
    have y0 := hcy 0 _ rfl
    rw [Nat.mul_one, Nat.add_zero] at y0
    have hbB2 : bB < wv.heap.size := by omega
    have hst := jH (okM_step (last := if j = 0 then -1 else ms.getD (j - 1) 0) hy)
    have hyD : Hid (ms.getD j 0 = y) := jH (by rw [List.getD, hy]; rfl)
    clear hcy hy
    have hbad3 : Hid (okM (-1) ms = false → (3 : Int) = q) := jH (fun h0 => hbadE.out 3 (by simp) (by have h := hq2.out; rw [if_pos h0] at h; exact h))
    go_upto_region 27 with (fail)
    cases hmb : membP y with
    | false =>
     have cY : Hid (∀ w', Calls Tryz.prog 33 #[.int .i64 y] w' fun e w'' => e = .returned (.bool false) ∧ w'' = w') := jH (fun w' => by have h := cQ.out y w'; rw [hmb] at h; exact h)
     have hT : Hid ((3 : Int) = q) := jH (hbad3.out (by rw [hokH.out, hst.out, hmb]; rfl))
     clear hmb
     go_quiet ((go_at_call 33; exact Calls.quiet_of_same (cY.out _)))
     go_wp2
     go_ret
     exact ⟨jR hT.out, below_drQ hb0v _⟩
    | true =>
     have hy0 : 0 ≤ y := by unfold membP at hmb; rw [Bool.and_eq_true, decide_eq_true_iff] at hmb; exact hmb.1
     have cY : Hid (∀ w', Calls Tryz.prog 33 #[.int .i64 y] w' fun e w'' => e = .returned (.bool true) ∧ w'' = w') := jH (fun w' => by have h := cQ.out y w'; rw [hmb] at h; exact h)
     by_cases hj0 : j = 0
     ·
      subst hj0
      rw [Nat.add_zero] at y0
      have hd : decide ((0 : Int) < 0) = false := rfl
      have hok2 : Hid (okM (-1) ms = okM (if 0 + 1 = 0 then -1 else ms.getD (0 + 1 - 1) 0) (ms.drop (0 + 1))) := jH (by
       rw [hokH.out, hst.out, hmb, if_neg (show ¬ 0 + 1 = 0 by omega), Nat.add_sub_cancel, hyD.out, if_pos rfl, decide_eq_true (show (-1 : Int) < y by omega)]; rfl)
      clear hmb
      go_quiet ((go_at_call 33; exact Calls.quiet_of_same (cY.out _)))
      go_wp2
      go_roundg (m + 1 - (0 + 1))
      case measure => omega
      case rel => exact ⟨0 + 1, by omega, rfl, by go_num, hok2.out, below_drQ hbr _⟩
     ·
      obtain ⟨k', rfl⟩ : ∃ k', j = k' + 1 := ⟨j - 1, by omega⟩
      have hd : decide (0 < k' + 1) = true := decide_eq_true (by omega)
      have hwr : IntKind.i64.wrap (((k' + 1 : Nat) : Int) - 1) = (k' : Int) := by rw [IntWalk.i64_in _ (by omega)]; omega
      have hwr2 : IntKind.i64.wrap ((k' : Int) + 1 - 1) = (k' : Int) := by rw [IntWalk.i64_in _ (by omega)]; omega
      have hki : (0 : Int) ≤ (k' : Int) := by omega
      have hkm : (k' : Int) < (m : Int) := by omega
      have hkm1 : (k' : Int) + 1 < (m : Int) := by omega
      have hk0 : (0 : Int) ≤ (k' : Int) + 1 := by omega
      obtain ⟨b', o', y', he, _, hy', hcy'⟩ := Rd.at_ (enc := eZ) (hmsH.out wv hb0v) (show k' < m by omega)
      injection he with he
      injection he with he1 he2
      subst he1
      subst he2
      have y1 := hcy' 0 _ rfl
      rw [Nat.mul_one, Nat.add_zero] at y1
      have hyD' : ms.getD k' 0 = y' := by rw [List.getD, hy']; rfl
      clear hcy' hy'
      have hst2 : Hid (okM (-1) ms = (membP y && decide (y' < y) && okM y (ms.drop (k' + 1 + 1)))) := jH (by
       rw [hokH.out, hst.out, if_neg (show ¬ k' + 1 = 0 by omega), Nat.add_sub_cancel, hyD'])
      clear hyD'
      by_cases hle : y ≤ y'
      ·
       have hled : decide (y ≤ y') = true := decide_eq_true hle
       have hT : Hid ((3 : Int) = q) := jH (hbad3.out (by rw [hst2.out, hmb, decide_eq_false (by omega)]; rfl))
       clear hmb
       go_quiet ((go_at_call 33; exact Calls.quiet_of_same (cY.out _)))
       go_wp2
       go_ret
       exact ⟨jR hT.out, below_drQ hb0v _⟩
      ·
       have hled : decide (y ≤ y') = false := decide_eq_false hle
       have hok2 : Hid (okM (-1) ms = okM (if k' + 1 + 1 = 0 then -1 else ms.getD (k' + 1 + 1 - 1) 0) (ms.drop (k' + 1 + 1))) := jH (by
        rw [hst2.out, hmb, decide_eq_true (by omega), if_neg (show ¬ k' + 1 + 1 = 0 by omega), Nat.add_sub_cancel, hyD.out]; rfl)
       clear hmb
       go_quiet ((go_at_call 33; exact Calls.quiet_of_same (cY.out _)))
       go_wp2
       go_roundg (m + 1 - (k' + 1 + 1))
       case measure => omega
       case rel => exact ⟨k' + 1 + 1, by omega, rfl, by go_num, hok2.out, below_drQ hbr _⟩
   ·
    obtain rfl : j = m := by omega
    have hnlt : ¬ (j : Int) < (j : Int) := by omega
    have hoT : Hid (okM (-1) ms = true) := jH (by rw [hokH.out, List.drop_of_length_le (by rw [hmlH.out]; exact Nat.le_refl _)]; simp [okM])
    have hq3 : Hid ((if errI (vchk u) ≠ 0 then errI (vchk u) else snapE sn) = E0) := jH (by have h := hq2.out; rw [if_neg (show ¬ okM (-1) ms = false by rw [hoT.out]; simp)] at h; exact h)
    have p16 := jA hbA1H.out 16
    have p17 := jA hbA1H.out 17
    have p18 := jA hbA1H.out 18
    have p19 := jA hbA1H.out 19
    have p20 := jA hbA1H.out 20
    have p21 := jA hbA1H.out 21
    have p22 := jA hbA1H.out 22
    have p23 := jA hbA1H.out 23
    simp at p16 p17 p18 p19 p20 p21 p22 p23
    have cVu := jH (rvcheck_any u wv)
    obtain ⟨ev, hev0⟩ : ∃ ev, errI (vchk u) = ev := ⟨_, rfl⟩
    rw [hev0] at cVu hq3
    clear hev0
    by_cases hev : ev = 0
    case neg =>
     have hevd : (ev == 0) = false := by simpa using hev
     have hT : Hid (ev = q) := jH (hbadE.out ev hev (by rw [← hq3.out, if_pos hev]))
     go_wp2_with fail
     refine cVu.out.mono ?_
     rintro e w1 ⟨rfl, hb1⟩
     have hG := hb0v.trans (hb1.mono hzv)
     clear p15 p16 p17 p18 p19 p20 p21 p22 p23
     go_wp2
     go_ret
     exact ⟨jR hT.out, hG⟩
    subst hev
    have hq4 : Hid (snapE sn = E0) := jH (by rw [← hq3.out, if_neg (by simp)])
    go_wp2_with fail
    refine cVu.out.mono ?_
    rintro e w1 ⟨rfl, hb1⟩
    have hbw1 := hbr.trans (hb1.mono hbr.size)
    have hb01 := hb0v.trans (hb1.mono hzv)
    clear p15 p16 p17 p18 p19 p20 p21 p22 p23
    have hbA1 := jD hbAH.out hbw1
    have hbK1 := jD hbKH.out hbw1
    have p13 := jA hbA1 13
    have p14 := jA hbA1 14
    have p15 := jA hbA1 15
    have p16 := jA hbA1 16
    have p17 := jA hbA1 17
    have p18 := jA hbA1 18
    have p19 := jA hbA1 19
    have p20 := jA hbA1 20
    have p21 := jA hbA1 21
    have p22 := jA hbA1 22
    have p23 := jA hbA1 23
    have r13 := jA hbK1 13
    have r14 := jA hbK1 14
    have r15 := jA hbK1 15
    have r16 := jA hbK1 16
    have r17 := jA hbK1 17
    have r18 := jA hbK1 18
    have r19 := jA hbK1 19
    have r20 := jA hbK1 20
    have r21 := jA hbK1 21
    have r22 := jA hbK1 22
    have r23 := jA hbK1 23
    simp at p13 p14 p15 p16 p17 p18 p19 p20 p21 p22 p23 r13 r14 r15 r16 r17 r18 r19 r20 r21 r22 r23
    have hlA1 := jB hbA1
    have hlK1 := jB hbK1
    have hfK1 := jE hbK1
    have hbA2H := jH hbA1
    have hbK2H := jH hbK1
    clear hbA1 hbK1
    by_cases hs1 : sn < 0
    ·
     have hd1 : decide (sn < 0) = true := decide_eq_true hs1
     have hT : Hid ((2 : Int) = q) := jH (hbadE.out 2 (by simp) (by rw [← hq4.out]; unfold snapE; rw [if_pos hs1]))
     go_wp2
     go_ret
     exact ⟨jR hT.out, hb01⟩
    have hd1 : decide (sn < 0) = false := decide_eq_false hs1
    by_cases hs2 : 1048576 < sn
    ·
     have hd2 : decide ((1048576 : Int) < sn) = true := decide_eq_true hs2
     have hT : Hid ((2 : Int) = q) := jH (hbadE.out 2 (by simp) (by rw [← hq4.out]; unfold snapE; rw [if_neg hs1, if_pos hs2]))
     go_wp2
     go_ret
     exact ⟨jR hT.out, hb01⟩
    have hd2 : decide ((1048576 : Int) < sn) = false := decide_eq_false hs2
    have hkE : Hid (kindE ⟨3, ⟨x, v, t, ps.map Pe.core⟩, sn, wh, ms, u⟩ = 0) := jH (hE.out.trans (by rw [← hq4.out]; unfold snapE; rw [if_neg hs1, if_neg hs2]))
    have hbv : Hid (Cm.val ⟨3, (0, 0), zeroQ, false, none, 0, 0, [], sn, 0, B, j, mc, ms, u⟩ = keepC ⟨3, ⟨x, v, t, ps.map Pe.core⟩, sn, wh, ms, u⟩) := jH (by unfold keepC; rw [if_neg (by simp), if_neg (by simp), if_neg (by simp)]; rfl)
    have hKn := jH (keptd3 hbK2H.out (.slice B j mc) (.int .u32 u.d0) (.int .u32 u.d1) (.int .u32 u.d2) (.int .u32 u.d3) (.int .u32 u.d4) (.int .u32 u.d5) (.int .u32 u.d6) (.int .u32 u.d7) (.int .i64 sn))
    have hAn := jH (keptd3_ne hbA2H.out (show w.heap.size + 1 ≠ w.heap.size by omega) (.slice B j mc) (.int .u32 u.d0) (.int .u32 u.d1) (.int .u32 u.d2) (.int .u32 u.d3) (.int .u32 u.d4) (.int .u32 u.d5) (.int .u32 u.d6) (.int .u32 u.d7) (.int .i64 sn))
    have hbN := jH (keptd3_below hb01 (show w.heap.size ≤ w.heap.size + 1 by omega) (.slice B j mc) (.int .u32 u.d0) (.int .u32 u.d1) (.int .u32 u.d2) (.int .u32 u.d3) (.int .u32 u.d4) (.int .u32 u.d5) (.int .u32 u.d6) (.int .u32 u.d7) (.int .i64 sn))
    have hOk := jH (hKOk.out _ hbN.out)
    go_wp2_with fail
    go_meet
    exact ⟨⟨3, (0, 0), zeroQ, false, none, 0, 0, [], sn, 0, B, j, mc, ms, u⟩, hkE.out, hbv.out, ⟨RdE.nil_, hOk.out.rdM, Nat.zero_le _, hOk.out.lm, by simp⟩, hKn.out, hAn.out, hbN.out⟩
 case rest =>
 obtain ⟨b, he, hbv, hbo, hK, hA1, hbW⟩ := hcut
 clear p0 p1 p2 p3 p4 p5 p6 p7 p8 p9 p10 p11 p12 p13 p14 p15 p16 p17 p18 p19 p20 p21 p22 p23 r0 r1 r2 r3 r4 r5 r6 r7 r8 r9 r10 r11 r12 r13 r14 r15 r16 r17 r18 r19 r20 r21 r22 r23
 have hlA1 := jB hA1
 have hlK1 := jB hK
 have cS := jH (hsm.out b wc hbW hbo)
 have hKH := jH hK
 have hA1H := jH hA1
 have hvv : Cm.val ⟨kd, x, v, t, T, k, kc, ps, sn, wh, B, m, mc, ms, u⟩ = ⟨kd, ⟨x, v, t, ps.map Pe.core⟩, sn, wh, ms, u⟩ := rfl
 rw [hbv, hvv] at cS
 have hq2 : Hid ((if sameCv (keepC ⟨kd, ⟨x, v, t, ps.map Pe.core⟩, sn, wh, ms, u⟩) ⟨kd, ⟨x, v, t, ps.map Pe.core⟩, sn, wh, ms, u⟩ = true then (0 : Int) else 3) = q) := jH (by
  rw [← cmdErr_good he]
  exact hrC.out)
 clear hvv hK hA1 he hbv hbo
 generalize sameCv (keepC ⟨kd, ⟨x, v, t, ps.map Pe.core⟩, sn, wh, ms, u⟩) ⟨kd, ⟨x, v, t, ps.map Pe.core⟩, sn, wh, ms, u⟩ = bs' at cS hq2
 go_upto_region 37 with (fail)
 refine wp_region_list ?_
 refine wpList_load_row rfl _ _ rfl (w.heap.size + 1) rfl 34 _ (0, 0) _ hKH.out Tryz.underlying34 rfl (by kernel_rfl) ?_
 refine wpList_load_row rfl _ _ rfl (w.heap.size) rfl 34 _ (0, 0) _ hA1H.out Tryz.underlying34 rfl (by kernel_rfl) ?_
 (try simp only [Act.put, List.setIfInBounds_toArray, List.set_cons_zero, List.set_cons_succ])
 go_wp2_with fail
 refine cS.out.mono ?_
 rintro e w2 ⟨rfl, hb2⟩
 have hG := hbW.trans (hb2.mono hbW.size)
 cases bs' with
 | true =>
  have hT : Hid ((0 : Int) = q) := jH (by rw [← hq2.out, if_pos rfl])
  go_wp2
  go_ret
  exact ⟨jR hT.out, hG⟩
 | false =>
  have hT : Hid ((3 : Int) = q) := jH (by rw [← hq2.out, if_neg (by decide)])
  go_wp2
  go_ret
  exact ⟨jR hT.out, hG⟩
end Go.Proofs.YtfhandglpjnonaaGreatDoor
