/- inst.CheckCmd. -/
import Derived.Test.YtfhandglpjnonaaGreatDoorQe
import Derived.Deep.WholeRow
import Derived.Deep.MidRow
namespace Go.Proofs.YtfhandglpjnonaaGreatDoor
open Go.RowKit
theorem wpList_loadG {P : Program} {ops : Array Oper} {rest : List Oper} {o : Oper} {a : Act} {w : World} {Q : Exit → Act → World → Prop} (hw : Region.wanted o (yielded ops a.tmps) = true) (ty : TypeId) (x : Operand) (ho : o.op = .load ty x)
 (g : Nat) (hx : a.eval x = .pointer (some ⟨g, 0, none⟩)) (t : TypeId) (cs : Array Value) (fr : Nat × Nat) (d : TypeDesc) (hg : w.heap[g]? = some (.cells cs t fr))
 (hu : P.underlying ty = some d) (hd : (match d with | .struct _ | .array _ _ => true | _ => false) = true) (hi : (P.info? ty).map (·.size) = some cs.size)
 (h : wpList P ops Q rest (a.put o.dst (.agg cs)) w) : wpList P ops Q (o :: rest) a w :=
 wpList_step fun K hK => by
  rw [if_pos hw]
  exact wp_load_row ty x ho g hx t cs fr d hg hu hd hi (hK _ _ h)
theorem kept1 {w : World} {b : Nat} {t : TypeId} {c0 c1 c2 c3 c4 c5 c6 c7 c8 c9 c10 c11 c12 c13 c14 c15 c16 c17 c18 c19 c20 c21 c22 c23 : Value} (h : w.heap[b]? = some (.cells #[c0, c1, c2, c3, c4, c5, c6, c7, c8, c9, c10, c11, c12, c13, c14, c15, c16, c17, c18, c19, c20, c21, c22, c23] t (0, 0))) (v1 v2 v3 v4 v5 v6 v7 v8 v9 v10 v11 v12 v13 : Value) : (((((((((((((w.setCell ⟨b, 1, none⟩ v1).setCell ⟨b, 2, none⟩ v2).setCell ⟨b, 3, none⟩ v3).setCell ⟨b, 4, none⟩ v4).setCell ⟨b, 5, none⟩ v5).setCell ⟨b, 6, none⟩ v6).setCell ⟨b, 7, none⟩ v7).setCell ⟨b, 8, none⟩ v8).setCell ⟨b, 9, none⟩ v9).setCell ⟨b, 10, none⟩ v10).setCell ⟨b, 11, none⟩ v11).setCell ⟨b, 12, none⟩ v12).setCell ⟨b, 13, none⟩ v13).drew.heap[b]? = some (.cells #[c0, v1, v2, v3, v4, v5, v6, v7, v8, v9, v10, v11, v12, v13, c14, c15, c16, c17, c18, c19, c20, c21, c22, c23] t (0, 0)) := by
 have h0 := jO h 1 v1
 rw [show (#[c0, c1, c2, c3, c4, c5, c6, c7, c8, c9, c10, c11, c12, c13, c14, c15, c16, c17, c18, c19, c20, c21, c22, c23] : Array Value).setIfInBounds 1 v1 = #[c0, v1, c2, c3, c4, c5, c6, c7, c8, c9, c10, c11, c12, c13, c14, c15, c16, c17, c18, c19, c20, c21, c22, c23] from by simp] at h0
 have h1 := jO h0 2 v2
 rw [show (#[c0, v1, c2, c3, c4, c5, c6, c7, c8, c9, c10, c11, c12, c13, c14, c15, c16, c17, c18, c19, c20, c21, c22, c23] : Array Value).setIfInBounds 2 v2 = #[c0, v1, v2, c3, c4, c5, c6, c7, c8, c9, c10, c11, c12, c13, c14, c15, c16, c17, c18, c19, c20, c21, c22, c23] from by simp] at h1
 have h2 := jO h1 3 v3
 rw [show (#[c0, v1, v2, c3, c4, c5, c6, c7, c8, c9, c10, c11, c12, c13, c14, c15, c16, c17, c18, c19, c20, c21, c22, c23] : Array Value).setIfInBounds 3 v3 = #[c0, v1, v2, v3, c4, c5, c6, c7, c8, c9, c10, c11, c12, c13, c14, c15, c16, c17, c18, c19, c20, c21, c22, c23] from by simp] at h2
 have h3 := jO h2 4 v4
 rw [show (#[c0, v1, v2, v3, c4, c5, c6, c7, c8, c9, c10, c11, c12, c13, c14, c15, c16, c17, c18, c19, c20, c21, c22, c23] : Array Value).setIfInBounds 4 v4 = #[c0, v1, v2, v3, v4, c5, c6, c7, c8, c9, c10, c11, c12, c13, c14, c15, c16, c17, c18, c19, c20, c21, c22, c23] from by simp] at h3
 have h4 := jO h3 5 v5
 rw [show (#[c0, v1, v2, v3, v4, c5, c6, c7, c8, c9, c10, c11, c12, c13, c14, c15, c16, c17, c18, c19, c20, c21, c22, c23] : Array Value).setIfInBounds 5 v5 = #[c0, v1, v2, v3, v4, v5, c6, c7, c8, c9, c10, c11, c12, c13, c14, c15, c16, c17, c18, c19, c20, c21, c22, c23] from by simp] at h4
 have h5 := jO h4 6 v6
 rw [show (#[c0, v1, v2, v3, v4, v5, c6, c7, c8, c9, c10, c11, c12, c13, c14, c15, c16, c17, c18, c19, c20, c21, c22, c23] : Array Value).setIfInBounds 6 v6 = #[c0, v1, v2, v3, v4, v5, v6, c7, c8, c9, c10, c11, c12, c13, c14, c15, c16, c17, c18, c19, c20, c21, c22, c23] from by simp] at h5
 have h6 := jO h5 7 v7
 rw [show (#[c0, v1, v2, v3, v4, v5, v6, c7, c8, c9, c10, c11, c12, c13, c14, c15, c16, c17, c18, c19, c20, c21, c22, c23] : Array Value).setIfInBounds 7 v7 = #[c0, v1, v2, v3, v4, v5, v6, v7, c8, c9, c10, c11, c12, c13, c14, c15, c16, c17, c18, c19, c20, c21, c22, c23] from by simp] at h6
 have h7 := jO h6 8 v8
 rw [show (#[c0, v1, v2, v3, v4, v5, v6, v7, c8, c9, c10, c11, c12, c13, c14, c15, c16, c17, c18, c19, c20, c21, c22, c23] : Array Value).setIfInBounds 8 v8 = #[c0, v1, v2, v3, v4, v5, v6, v7, v8, c9, c10, c11, c12, c13, c14, c15, c16, c17, c18, c19, c20, c21, c22, c23] from by simp] at h7
 have h8 := jO h7 9 v9
 rw [show (#[c0, v1, v2, v3, v4, v5, v6, v7, v8, c9, c10, c11, c12, c13, c14, c15, c16, c17, c18, c19, c20, c21, c22, c23] : Array Value).setIfInBounds 9 v9 = #[c0, v1, v2, v3, v4, v5, v6, v7, v8, v9, c10, c11, c12, c13, c14, c15, c16, c17, c18, c19, c20, c21, c22, c23] from by simp] at h8
 have h9 := jO h8 10 v10
 rw [show (#[c0, v1, v2, v3, v4, v5, v6, v7, v8, v9, c10, c11, c12, c13, c14, c15, c16, c17, c18, c19, c20, c21, c22, c23] : Array Value).setIfInBounds 10 v10 = #[c0, v1, v2, v3, v4, v5, v6, v7, v8, v9, v10, c11, c12, c13, c14, c15, c16, c17, c18, c19, c20, c21, c22, c23] from by simp] at h9
 have h10 := jO h9 11 v11
 rw [show (#[c0, v1, v2, v3, v4, v5, v6, v7, v8, v9, v10, c11, c12, c13, c14, c15, c16, c17, c18, c19, c20, c21, c22, c23] : Array Value).setIfInBounds 11 v11 = #[c0, v1, v2, v3, v4, v5, v6, v7, v8, v9, v10, v11, c12, c13, c14, c15, c16, c17, c18, c19, c20, c21, c22, c23] from by simp] at h10
 have h11 := jO h10 12 v12
 rw [show (#[c0, v1, v2, v3, v4, v5, v6, v7, v8, v9, v10, v11, c12, c13, c14, c15, c16, c17, c18, c19, c20, c21, c22, c23] : Array Value).setIfInBounds 12 v12 = #[c0, v1, v2, v3, v4, v5, v6, v7, v8, v9, v10, v11, v12, c13, c14, c15, c16, c17, c18, c19, c20, c21, c22, c23] from by simp] at h11
 have h12 := jO h11 13 v13
 rw [show (#[c0, v1, v2, v3, v4, v5, v6, v7, v8, v9, v10, v11, v12, c13, c14, c15, c16, c17, c18, c19, c20, c21, c22, c23] : Array Value).setIfInBounds 13 v13 = #[c0, v1, v2, v3, v4, v5, v6, v7, v8, v9, v10, v11, v12, v13, c14, c15, c16, c17, c18, c19, c20, c21, c22, c23] from by simp] at h12
 exact heap_drew h12
theorem kept1_ne {w : World} {b k : Nat} {o : Option Obj} (h : w.heap[k]? = o) (hb : b ≠ k) (v1 v2 v3 v4 v5 v6 v7 v8 v9 v10 v11 v12 v13 : Value) : (((((((((((((w.setCell ⟨b, 1, none⟩ v1).setCell ⟨b, 2, none⟩ v2).setCell ⟨b, 3, none⟩ v3).setCell ⟨b, 4, none⟩ v4).setCell ⟨b, 5, none⟩ v5).setCell ⟨b, 6, none⟩ v6).setCell ⟨b, 7, none⟩ v7).setCell ⟨b, 8, none⟩ v8).setCell ⟨b, 9, none⟩ v9).setCell ⟨b, 10, none⟩ v10).setCell ⟨b, 11, none⟩ v11).setCell ⟨b, 12, none⟩ v12).setCell ⟨b, 13, none⟩ v13).drew.heap[k]? = o := by
 refine heap_drew ?_
 repeat (refine yG hb ?_)
 exact h
theorem kept1_below {B : Nat} {a w : World} {b : Nat} (h : Below B a w) (hb : B ≤ b) (v1 v2 v3 v4 v5 v6 v7 v8 v9 v10 v11 v12 v13 : Value) : Below B a (((((((((((((w.setCell ⟨b, 1, none⟩ v1).setCell ⟨b, 2, none⟩ v2).setCell ⟨b, 3, none⟩ v3).setCell ⟨b, 4, none⟩ v4).setCell ⟨b, 5, none⟩ v5).setCell ⟨b, 6, none⟩ v6).setCell ⟨b, 7, none⟩ v7).setCell ⟨b, 8, none⟩ v8).setCell ⟨b, 9, none⟩ v9).setCell ⟨b, 10, none⟩ v10).setCell ⟨b, 11, none⟩ v11).setCell ⟨b, 12, none⟩ v12).setCell ⟨b, 13, none⟩ v13).drew := by
 refine Below.drew ?_
 repeat (refine Below.setCell ?_ hb _)
 exact h
theorem kept3 {w : World} {b : Nat} {t : TypeId} {c0 c1 c2 c3 c4 c5 c6 c7 c8 c9 c10 c11 c12 c13 c14 c15 c16 c17 c18 c19 c20 c21 c22 c23 : Value} (h : w.heap[b]? = some (.cells #[c0, c1, c2, c3, c4, c5, c6, c7, c8, c9, c10, c11, c12, c13, c14, c15, c16, c17, c18, c19, c20, c21, c22, c23] t (0, 0))) (v15 v16 v17 v18 v19 v20 v21 v22 v23 v13 : Value) : ((((((((((w.setCell ⟨b, 15, none⟩ v15).setCell ⟨b, 16, none⟩ v16).setCell ⟨b, 17, none⟩ v17).setCell ⟨b, 18, none⟩ v18).setCell ⟨b, 19, none⟩ v19).setCell ⟨b, 20, none⟩ v20).setCell ⟨b, 21, none⟩ v21).setCell ⟨b, 22, none⟩ v22).setCell ⟨b, 23, none⟩ v23).setCell ⟨b, 13, none⟩ v13).drew.heap[b]? = some (.cells #[c0, c1, c2, c3, c4, c5, c6, c7, c8, c9, c10, c11, c12, v13, c14, v15, v16, v17, v18, v19, v20, v21, v22, v23] t (0, 0)) := by
 have h0 := jO h 15 v15
 rw [show (#[c0, c1, c2, c3, c4, c5, c6, c7, c8, c9, c10, c11, c12, c13, c14, c15, c16, c17, c18, c19, c20, c21, c22, c23] : Array Value).setIfInBounds 15 v15 = #[c0, c1, c2, c3, c4, c5, c6, c7, c8, c9, c10, c11, c12, c13, c14, v15, c16, c17, c18, c19, c20, c21, c22, c23] from by simp] at h0
 have h1 := jO h0 16 v16
 rw [show (#[c0, c1, c2, c3, c4, c5, c6, c7, c8, c9, c10, c11, c12, c13, c14, v15, c16, c17, c18, c19, c20, c21, c22, c23] : Array Value).setIfInBounds 16 v16 = #[c0, c1, c2, c3, c4, c5, c6, c7, c8, c9, c10, c11, c12, c13, c14, v15, v16, c17, c18, c19, c20, c21, c22, c23] from by simp] at h1
 have h2 := jO h1 17 v17
 rw [show (#[c0, c1, c2, c3, c4, c5, c6, c7, c8, c9, c10, c11, c12, c13, c14, v15, v16, c17, c18, c19, c20, c21, c22, c23] : Array Value).setIfInBounds 17 v17 = #[c0, c1, c2, c3, c4, c5, c6, c7, c8, c9, c10, c11, c12, c13, c14, v15, v16, v17, c18, c19, c20, c21, c22, c23] from by simp] at h2
 have h3 := jO h2 18 v18
 rw [show (#[c0, c1, c2, c3, c4, c5, c6, c7, c8, c9, c10, c11, c12, c13, c14, v15, v16, v17, c18, c19, c20, c21, c22, c23] : Array Value).setIfInBounds 18 v18 = #[c0, c1, c2, c3, c4, c5, c6, c7, c8, c9, c10, c11, c12, c13, c14, v15, v16, v17, v18, c19, c20, c21, c22, c23] from by simp] at h3
 have h4 := jO h3 19 v19
 rw [show (#[c0, c1, c2, c3, c4, c5, c6, c7, c8, c9, c10, c11, c12, c13, c14, v15, v16, v17, v18, c19, c20, c21, c22, c23] : Array Value).setIfInBounds 19 v19 = #[c0, c1, c2, c3, c4, c5, c6, c7, c8, c9, c10, c11, c12, c13, c14, v15, v16, v17, v18, v19, c20, c21, c22, c23] from by simp] at h4
 have h5 := jO h4 20 v20
 rw [show (#[c0, c1, c2, c3, c4, c5, c6, c7, c8, c9, c10, c11, c12, c13, c14, v15, v16, v17, v18, v19, c20, c21, c22, c23] : Array Value).setIfInBounds 20 v20 = #[c0, c1, c2, c3, c4, c5, c6, c7, c8, c9, c10, c11, c12, c13, c14, v15, v16, v17, v18, v19, v20, c21, c22, c23] from by simp] at h5
 have h6 := jO h5 21 v21
 rw [show (#[c0, c1, c2, c3, c4, c5, c6, c7, c8, c9, c10, c11, c12, c13, c14, v15, v16, v17, v18, v19, v20, c21, c22, c23] : Array Value).setIfInBounds 21 v21 = #[c0, c1, c2, c3, c4, c5, c6, c7, c8, c9, c10, c11, c12, c13, c14, v15, v16, v17, v18, v19, v20, v21, c22, c23] from by simp] at h6
 have h7 := jO h6 22 v22
 rw [show (#[c0, c1, c2, c3, c4, c5, c6, c7, c8, c9, c10, c11, c12, c13, c14, v15, v16, v17, v18, v19, v20, v21, c22, c23] : Array Value).setIfInBounds 22 v22 = #[c0, c1, c2, c3, c4, c5, c6, c7, c8, c9, c10, c11, c12, c13, c14, v15, v16, v17, v18, v19, v20, v21, v22, c23] from by simp] at h7
 have h8 := jO h7 23 v23
 rw [show (#[c0, c1, c2, c3, c4, c5, c6, c7, c8, c9, c10, c11, c12, c13, c14, v15, v16, v17, v18, v19, v20, v21, v22, c23] : Array Value).setIfInBounds 23 v23 = #[c0, c1, c2, c3, c4, c5, c6, c7, c8, c9, c10, c11, c12, c13, c14, v15, v16, v17, v18, v19, v20, v21, v22, v23] from by simp] at h8
 have h9 := jO h8 13 v13
 rw [show (#[c0, c1, c2, c3, c4, c5, c6, c7, c8, c9, c10, c11, c12, c13, c14, v15, v16, v17, v18, v19, v20, v21, v22, v23] : Array Value).setIfInBounds 13 v13 = #[c0, c1, c2, c3, c4, c5, c6, c7, c8, c9, c10, c11, c12, v13, c14, v15, v16, v17, v18, v19, v20, v21, v22, v23] from by simp] at h9
 exact heap_drew h9
theorem kept3_ne {w : World} {b k : Nat} {o : Option Obj} (h : w.heap[k]? = o) (hb : b ≠ k) (v15 v16 v17 v18 v19 v20 v21 v22 v23 v13 : Value) : ((((((((((w.setCell ⟨b, 15, none⟩ v15).setCell ⟨b, 16, none⟩ v16).setCell ⟨b, 17, none⟩ v17).setCell ⟨b, 18, none⟩ v18).setCell ⟨b, 19, none⟩ v19).setCell ⟨b, 20, none⟩ v20).setCell ⟨b, 21, none⟩ v21).setCell ⟨b, 22, none⟩ v22).setCell ⟨b, 23, none⟩ v23).setCell ⟨b, 13, none⟩ v13).drew.heap[k]? = o := by
 refine heap_drew ?_
 repeat (refine yG hb ?_)
 exact h
theorem kept3_below {B : Nat} {a w : World} {b : Nat} (h : Below B a w) (hb : B ≤ b) (v15 v16 v17 v18 v19 v20 v21 v22 v23 v13 : Value) : Below B a ((((((((((w.setCell ⟨b, 15, none⟩ v15).setCell ⟨b, 16, none⟩ v16).setCell ⟨b, 17, none⟩ v17).setCell ⟨b, 18, none⟩ v18).setCell ⟨b, 19, none⟩ v19).setCell ⟨b, 20, none⟩ v20).setCell ⟨b, 21, none⟩ v21).setCell ⟨b, 22, none⟩ v22).setCell ⟨b, 23, none⟩ v23).setCell ⟨b, 13, none⟩ v13).drew := by
 refine Below.drew ?_
 repeat (refine Below.setCell ?_ hb _)
 exact h
theorem wpList_buildK {P : Program} {ops : Array Oper} {rest : List Oper} {o : Oper} {a : Act} {w : World} {Q : Exit → Act → World → Prop} (hg : o.guard = none) (t : TypeId) (parts : Array (Nat × Operand)) (ho : o.op = .build t parts) {cells : Array Value}
 (hc : P.built t (parts.map fun (i, x) => (i, a.eval x)).toList = some cells) (h : wpList P ops Q rest (a.put o.dst (.agg cells)) w) : wpList P ops Q (o :: rest) a w :=
 wpList_build hg t parts ho (by rw [hc]; rfl) (by rw [hc]; exact h)
set_option maxRecDepth 100000 in
set_option maxHeartbeats 8000000 in
theorem chkcmd_any (a : Cm) (w : World) (hA : a.Fit w) (hV : VarM w) :
 Calls Tryz.prog 10 #[.agg ↑a] w fun e w' => e = .returned (.int .i64 (cmdErr a.val)) ∧ Below w.heap.size w w' := by
 have hFit := hA
 generalize hr : cmdErr a.val = q
 have hdo := jH (fun w' (h : Below w.heap.size w w') => chkdo_any a w' (hA.below h) (hV.below h hV.lt))
 have hse := jH (fun w' (h : Below w.heap.size w w') => chkseal_any a w' (hA.below h))
 have hsm := jH (fun (b : Cm) w' (h : Below w.heap.size w w') (hb : b.Ok w' w'.heap.size) => scmdP_any b a w' hb ((hA.ok.below h).more h.size))
 unfold cmdErr at hr
 unfold Cm.val at hr hdo hse
 obtain ⟨kd, x, v, t, T, k, kc, ps, sn, wh, B, m, mc, ms, u⟩ := a
 dsimp only at hr hdo hse hsm ⊢
 have hb0 : Below w.heap.size w ((w.alloc (.cells #[.int .i64 kd, .int .i64 x.1, .int .u32 x.2, .int .u32 v.d0, .int .u32 v.d1, .int .u32 v.d2, .int .u32 v.d3, .int .u32 v.d4, .int .u32 v.d5, .int .u32 v.d6, .int .u32 v.d7, .bool t, .slice T k kc, .int .i64 sn, .int .i64 wh, .slice B m mc, .int .u32 u.d0, .int .u32 u.d1, .int .u32 u.d2, .int .u32 u.d3, .int .u32 u.d4, .int .u32 u.d5, .int .u32 u.d6, .int .u32 u.d7] 47)).alloc (.cells #[.int .i64 kd, .int .i64 0, .int .u32 0, .int .u32 0, .int .u32 0, .int .u32 0, .int .u32 0, .int .u32 0, .int .u32 0, .int .u32 0, .int .u32 0, .bool false, .slice none 0 0, .int .i64 0, .int .i64 0, .slice none 0 0, .int .u32 0, .int .u32 0, .int .u32 0, .int .u32 0, .int .u32 0, .int .u32 0, .int .u32 0, .int .u32 0] 47)) := ((Below.refl _ w).alloc (Nat.le_refl _) _).alloc (by simp) _
 have hbA : ((w.alloc (.cells #[.int .i64 kd, .int .i64 x.1, .int .u32 x.2, .int .u32 v.d0, .int .u32 v.d1, .int .u32 v.d2, .int .u32 v.d3, .int .u32 v.d4, .int .u32 v.d5, .int .u32 v.d6, .int .u32 v.d7, .bool t, .slice T k kc, .int .i64 sn, .int .i64 wh, .slice B m mc, .int .u32 u.d0, .int .u32 u.d1, .int .u32 u.d2, .int .u32 u.d3, .int .u32 u.d4, .int .u32 u.d5, .int .u32 u.d6, .int .u32 u.d7] 47)).alloc (.cells #[.int .i64 kd, .int .i64 0, .int .u32 0, .int .u32 0, .int .u32 0, .int .u32 0, .int .u32 0, .int .u32 0, .int .u32 0, .int .u32 0, .int .u32 0, .bool false, .slice none 0 0, .int .i64 0, .int .i64 0, .slice none 0 0, .int .u32 0, .int .u32 0, .int .u32 0, .int .u32 0, .int .u32 0, .int .u32 0, .int .u32 0, .int .u32 0] 47)).heap[w.heap.size]? = some (.cells #[.int .i64 kd, .int .i64 x.1, .int .u32 x.2, .int .u32 v.d0, .int .u32 v.d1, .int .u32 v.d2, .int .u32 v.d3, .int .u32 v.d4, .int .u32 v.d5, .int .u32 v.d6, .int .u32 v.d7, .bool t, .slice T k kc, .int .i64 sn, .int .i64 wh, .slice B m mc, .int .u32 u.d0, .int .u32 u.d1, .int .u32 u.d2, .int .u32 u.d3, .int .u32 u.d4, .int .u32 u.d5, .int .u32 u.d6, .int .u32 u.d7] 47 (0, 0)) := yE _ (by simp) (jT _ _ rfl)
 have hbK : ((w.alloc (.cells #[.int .i64 kd, .int .i64 x.1, .int .u32 x.2, .int .u32 v.d0, .int .u32 v.d1, .int .u32 v.d2, .int .u32 v.d3, .int .u32 v.d4, .int .u32 v.d5, .int .u32 v.d6, .int .u32 v.d7, .bool t, .slice T k kc, .int .i64 sn, .int .i64 wh, .slice B m mc, .int .u32 u.d0, .int .u32 u.d1, .int .u32 u.d2, .int .u32 u.d3, .int .u32 u.d4, .int .u32 u.d5, .int .u32 u.d6, .int .u32 u.d7] 47)).alloc (.cells #[.int .i64 kd, .int .i64 0, .int .u32 0, .int .u32 0, .int .u32 0, .int .u32 0, .int .u32 0, .int .u32 0, .int .u32 0, .int .u32 0, .int .u32 0, .bool false, .slice none 0 0, .int .i64 0, .int .i64 0, .slice none 0 0, .int .u32 0, .int .u32 0, .int .u32 0, .int .u32 0, .int .u32 0, .int .u32 0, .int .u32 0, .int .u32 0] 47)).heap[w.heap.size + 1]? = some (.cells #[.int .i64 kd, .int .i64 0, .int .u32 0, .int .u32 0, .int .u32 0, .int .u32 0, .int .u32 0, .int .u32 0, .int .u32 0, .int .u32 0, .int .u32 0, .bool false, .slice none 0 0, .int .i64 0, .int .i64 0, .slice none 0 0, .int .u32 0, .int .u32 0, .int .u32 0, .int .u32 0, .int .u32 0, .int .u32 0, .int .u32 0, .int .u32 0] 47 (0, 0)) := jT _ _ (by simp)
 generalize hW : ((w.alloc (.cells #[.int .i64 kd, .int .i64 x.1, .int .u32 x.2, .int .u32 v.d0, .int .u32 v.d1, .int .u32 v.d2, .int .u32 v.d3, .int .u32 v.d4, .int .u32 v.d5, .int .u32 v.d6, .int .u32 v.d7, .bool t, .slice T k kc, .int .i64 sn, .int .i64 wh, .slice B m mc, .int .u32 u.d0, .int .u32 u.d1, .int .u32 u.d2, .int .u32 u.d3, .int .u32 u.d4, .int .u32 u.d5, .int .u32 u.d6, .int .u32 u.d7] 47)).alloc (.cells #[.int .i64 kd, .int .i64 0, .int .u32 0, .int .u32 0, .int .u32 0, .int .u32 0, .int .u32 0, .int .u32 0, .int .u32 0, .int .u32 0, .int .u32 0, .bool false, .slice none 0 0, .int .i64 0, .int .i64 0, .slice none 0 0, .int .u32 0, .int .u32 0, .int .u32 0, .int .u32 0, .int .u32 0, .int .u32 0, .int .u32 0, .int .u32 0] 47)) = W at hb0 hbA hbK
 have hz0 := hb0.size
 have hltA := jB hbA
 have hltK := jB hbK
 have p0 := jA hbA 0
 have p1 := jA hbA 1
 have p2 := jA hbA 2
 have p3 := jA hbA 3
 have p4 := jA hbA 4
 have p5 := jA hbA 5
 have p6 := jA hbA 6
 have p7 := jA hbA 7
 have p8 := jA hbA 8
 have p9 := jA hbA 9
 have p10 := jA hbA 10
 have p11 := jA hbA 11
 have p12 := jA hbA 12
 have p13 := jA hbA 13
 have p14 := jA hbA 14
 have p15 := jA hbA 15
 have p16 := jA hbA 16
 have p17 := jA hbA 17
 have p18 := jA hbA 18
 have p19 := jA hbA 19
 have p20 := jA hbA 20
 have p21 := jA hbA 21
 have p22 := jA hbA 22
 have p23 := jA hbA 23
 have r0 := jA hbK 0
 have r1 := jA hbK 1
 have r2 := jA hbK 2
 have r3 := jA hbK 3
 have r4 := jA hbK 4
 have r5 := jA hbK 5
 have r6 := jA hbK 6
 have r7 := jA hbK 7
 have r8 := jA hbK 8
 have r9 := jA hbK 9
 have r10 := jA hbK 10
 have r11 := jA hbK 11
 have r12 := jA hbK 12
 have r13 := jA hbK 13
 have r14 := jA hbK 14
 have r15 := jA hbK 15
 have r16 := jA hbK 16
 have r17 := jA hbK 17
 have r18 := jA hbK 18
 have r19 := jA hbK 19
 have r20 := jA hbK 20
 have r21 := jA hbK 21
 have r22 := jA hbK 22
 have r23 := jA hbK 23
 simp at p0 p1 p2 p3 p4 p5 p6 p7 p8 p9 p10 p11 p12 p13 p14 p15 p16 p17 p18 p19 p20 p21 p22 p23 r0 r1 r2 r3 r4 r5 r6 r7 r8 r9 r10 r11 r12 r13 r14 r15 r16 r17 r18 r19 r20 r21 r22 r23
 have hbAH := jH hbA
 have hbKH := jH hbK
 have hrH := jH hr
 have hWH := jH hW
 have hA' := jH hFit
 clear hbA hbK hr hA hFit hW
 go_enter Tryz.func10, Tryz.ntmps10
 go_upto_region 2 with (fail)
 refine wp_region_list ?_
 refine wpList_plain rfl (fun K hK => ?_)
 go_simp
 refine hK _ _ ?_
 clear hK K
 refine wpList_plain rfl (fun K hK => ?_)
 go_simp
 refine hK _ _ ?_
 clear hK K
 refine wpList_buildK rfl _ _ rfl (cells := #[.int .i64 kd, .int .i64 0, .int .u32 0, .int .u32 0, .int .u32 0, .int .u32 0, .int .u32 0, .int .u32 0, .int .u32 0, .int .u32 0, .int .u32 0, .bool false, .slice none 0 0, .int .i64 0, .int .i64 0, .slice none 0 0, .int .u32 0, .int .u32 0, .int .u32 0, .int .u32 0, .int .u32 0, .int .u32 0, .int .u32 0, .int .u32 0]) (by kernel_rfl) ?_
 refine wpList_plain rfl (fun K hK => ?_)
 go_simp
 refine hK _ _ ?_
 clear hK K
 refine wpList_store_row rfl _ _ _ rfl (w.heap.size + 1) #[.int .i64 kd, .int .i64 0, .int .u32 0, .int .u32 0, .int .u32 0, .int .u32 0, .int .u32 0, .int .u32 0, .int .u32 0, .int .u32 0, .int .u32 0, .bool false, .slice none 0 0, .int .i64 0, .int .i64 0, .slice none 0 0, .int .u32 0, .int .u32 0, .int .u32 0, .int .u32 0, .int .u32 0, .int .u32 0, .int .u32 0, .int .u32 0] rfl rfl 47 ↑Zc.mk (jT _ _ (by simp)) (by kernel_rfl) rfl (by simp [Value.oneCell']) ?_
 have hsr := World.setRow_alloc_new (w.alloc (.cells #[.int .i64 kd, .int .i64 x.1, .int .u32 x.2, .int .u32 v.d0, .int .u32 v.d1, .int .u32 v.d2, .int .u32 v.d3, .int .u32 v.d4, .int .u32 v.d5, .int .u32 v.d6, .int .u32 v.d7, .bool t, .slice T k kc, .int .i64 sn, .int .i64 wh, .slice B m mc, .int .u32 u.d0, .int .u32 u.d1, .int .u32 u.d2, .int .u32 u.d3, .int .u32 u.d4, .int .u32 u.d5, .int .u32 u.d6, .int .u32 u.d7] 47)) ↑Zc.mk #[.int .i64 kd, .int .i64 0, .int .u32 0, .int .u32 0, .int .u32 0, .int .u32 0, .int .u32 0, .int .u32 0, .int .u32 0, .int .u32 0, .int .u32 0, .bool false, .slice none 0 0, .int .i64 0, .int .i64 0, .slice none 0 0, .int .u32 0, .int .u32 0, .int .u32 0, .int .u32 0, .int .u32 0, .int .u32 0, .int .u32 0, .int .u32 0] 47
 rw [show (w.alloc (.cells #[.int .i64 kd, .int .i64 x.1, .int .u32 x.2, .int .u32 v.d0, .int .u32 v.d1, .int .u32 v.d2, .int .u32 v.d3, .int .u32 v.d4, .int .u32 v.d5, .int .u32 v.d6, .int .u32 v.d7, .bool t, .slice T k kc, .int .i64 sn, .int .i64 wh, .slice B m mc, .int .u32 u.d0, .int .u32 u.d1, .int .u32 u.d2, .int .u32 u.d3, .int .u32 u.d4, .int .u32 u.d5, .int .u32 u.d6, .int .u32 u.d7] 47)).heap.size = w.heap.size + 1 by simp, hWH.out] at hsr
 rw [hsr]
 clear hsr
 have hKOk : Hid (∀ w', Below w.heap.size w w' → Cm.Ok w' w'.heap.size ⟨kd, x, v, t, T, k, kc, ps, sn, wh, B, m, mc, ms, u⟩) := jH (fun w' h => (hA'.out.ok.below h).more h.size)
 go_upto_block 0 with (fail)
 go_cut [3] (fun s3 wx => ∃ (e : Int) (b : Cm), s3 = .int .i64 e ∧ e = kindE ⟨kd, ⟨x, v, t, ps.map Pe.core⟩, sn, wh, ms, u⟩ ∧ (e = 0 → b.val = keepC ⟨kd, ⟨x, v, t, ps.map Pe.core⟩, sn, wh, ms, u⟩) ∧ b.Ok wx wx.heap.size ∧
  wx.heap[w.heap.size + 1]? = some (.cells ↑b 47 (0, 0)) ∧ wx.heap[w.heap.size]? = some (.cells #[.int .i64 kd, .int .i64 x.1, .int .u32 x.2, .int .u32 v.d0, .int .u32 v.d1, .int .u32 v.d2, .int .u32 v.d3, .int .u32 v.d4, .int .u32 v.d5, .int .u32 v.d6, .int .u32 v.d7, .bool t, .slice T k kc, .int .i64 sn, .int .i64 wh, .slice B m mc, .int .u32 u.d0, .int .u32 u.d1, .int .u32 u.d2, .int .u32 u.d3, .int .u32 u.d4, .int .u32 u.d5, .int .u32 u.d6, .int .u32 u.d7] 47 (0, 0)) ∧ Below w.heap.size w wx)
 case first =>
  by_cases h0 : kd = 0
  ·
   subst h0
   go_wp2_with fail
   go_meet
   exact ⟨0, ⟨0, (0, 0), zeroQ, false, none, 0, 0, [], 0, 0, none, 0, 0, [], zeroQ⟩, rfl, rfl, fun _ => rfl, ⟨RdE.nil_, Rd.nil_, Nat.zero_le _, Nat.zero_le _, by simp⟩, hbKH.out, hbAH.out, hb0⟩
  have h0d : (kd == 0) = false := by simpa using h0
  by_cases h1 : kd = 1
  ·
   subst h1
   have cD := jH (hdo.out W hb0)
   have hkE : Hid (doE ⟨1, ⟨x, v, t, ps.map Pe.core⟩, sn, wh, ms, u⟩ = kindE ⟨1, ⟨x, v, t, ps.map Pe.core⟩, sn, wh, ms, u⟩) := jH (by unfold kindE; rw [if_neg (by simp), if_pos rfl])
   have hbv : Hid (Cm.val ⟨1, x, v, t, T, k, kc, ps, sn, 0, none, 0, 0, [], zeroQ⟩ = keepC ⟨1, ⟨x, v, t, ps.map Pe.core⟩, sn, wh, ms, u⟩) := jH (by unfold keepC; rw [if_neg (by simp), if_pos rfl]; rfl)
   go_upto_region 7 with (fail)
   refine wp_region_list ?_
   refine wpList_load_row rfl _ _ rfl (w.heap.size) rfl 47 _ (0, 0) _ hbAH.out Tryz.underlying47 rfl (by kernel_rfl) ?_
   (try simp only [Act.put, List.setIfInBounds_toArray, List.set_cons_zero, List.set_cons_succ])
   go_wp2_with fail
   refine cD.out.mono ?_
   rintro e w1 ⟨rfl, hb1⟩
   have hbA1 := jD hbAH.out hb1
   have hbK1 := jD hbKH.out hb1
   have hb01 := hb0.trans (hb1.mono hz0)
   clear p0 p1 p2 p3 p4 p5 p6 p7 p8 p9 p10 p11 p12 p13 p14 p15 p16 p17 p18 p19 p20 p21 p22 p23 r0 r1 r2 r3 r4 r5 r6 r7 r8 r9 r10 r11 r12 r13 r14 r15 r16 r17 r18 r19 r20 r21 r22 r23
   have p1 := jA hbA1 1
   have p2 := jA hbA1 2
   have p3 := jA hbA1 3
   have p4 := jA hbA1 4
   have p5 := jA hbA1 5
   have p6 := jA hbA1 6
   have p7 := jA hbA1 7
   have p8 := jA hbA1 8
   have p9 := jA hbA1 9
   have p10 := jA hbA1 10
   have p11 := jA hbA1 11
   have p12 := jA hbA1 12
   have p13 := jA hbA1 13
   have r1 := jA hbK1 1
   have r2 := jA hbK1 2
   have r3 := jA hbK1 3
   have r4 := jA hbK1 4
   have r5 := jA hbK1 5
   have r6 := jA hbK1 6
   have r7 := jA hbK1 7
   have r8 := jA hbK1 8
   have r9 := jA hbK1 9
   have r10 := jA hbK1 10
   have r11 := jA hbK1 11
   have r12 := jA hbK1 12
   have r13 := jA hbK1 13
   simp at p1 p2 p3 p4 p5 p6 p7 p8 p9 p10 p11 p12 p13 r1 r2 r3 r4 r5 r6 r7 r8 r9 r10 r11 r12 r13
   have hlA1 := jB hbA1
   have hlK1 := jB hbK1
   have hfK1 := jE hbK1
   have hbA1H := jH hbA1
   have hbK1H := jH hbK1
   clear hbA1 hbK1
   go_wp2_with fail
   go_region
   have hKn := kept1 hbK1H.out (.int .i64 x.1) (.int .u32 x.2) (.int .u32 v.d0) (.int .u32 v.d1) (.int .u32 v.d2) (.int .u32 v.d3) (.int .u32 v.d4) (.int .u32 v.d5) (.int .u32 v.d6) (.int .u32 v.d7) (.bool t) (.slice T k kc) (.int .i64 sn)
   have hAn := kept1_ne hbA1H.out (show w.heap.size + 1 ≠ w.heap.size by omega) (.int .i64 x.1) (.int .u32 x.2) (.int .u32 v.d0) (.int .u32 v.d1) (.int .u32 v.d2) (.int .u32 v.d3) (.int .u32 v.d4) (.int .u32 v.d5) (.int .u32 v.d6) (.int .u32 v.d7) (.bool t) (.slice T k kc) (.int .i64 sn)
   have hbN := kept1_below hb01 (show w.heap.size ≤ w.heap.size + 1 by omega) (.int .i64 x.1) (.int .u32 x.2) (.int .u32 v.d0) (.int .u32 v.d1) (.int .u32 v.d2) (.int .u32 v.d3) (.int .u32 v.d4) (.int .u32 v.d5) (.int .u32 v.d6) (.int .u32 v.d7) (.bool t) (.slice T k kc) (.int .i64 sn)
   have hOk := hKOk.out _ hbN
   go_wp2_with fail
   go_meet
   exact ⟨_, ⟨1, x, v, t, T, k, kc, ps, sn, 0, none, 0, 0, [], zeroQ⟩, rfl, hkE.out, fun _ => hbv.out, ⟨hOk.rdE, Rd.nil_, hOk.lk, Nat.zero_le _, hOk.pl⟩, hKn, hAn, hbN⟩
  have h1d : (kd == 1) = false := by simpa using h1
  by_cases h2 : kd = 2
  ·
   subst h2
   have cY := jH (member_any wh W)
   generalize hmb : membP wh = bm at cY
   obtain ⟨e2, he2⟩ : ∃ e2 : Int, (if bm = true then (0 : Int) else 2) = e2 := ⟨_, rfl⟩
   have hkE : Hid (e2 = kindE ⟨2, ⟨x, v, t, ps.map Pe.core⟩, sn, wh, ms, u⟩) := jH (by unfold kindE; rw [if_neg (by simp), if_neg (by simp), if_pos rfl, hmb, he2])
   have hbv : Hid (Cm.val ⟨2, (0, 0), zeroQ, false, none, 0, 0, [], 0, wh, none, 0, 0, [], zeroQ⟩ = keepC ⟨2, ⟨x, v, t, ps.map Pe.core⟩, sn, wh, ms, u⟩) := jH (by unfold keepC; rw [if_neg (by simp), if_neg (by simp), if_pos rfl]; rfl)
   clear hmb
   go_wp2_with fail
   refine cY.out.mono ?_
   rintro e w1 ⟨rfl, hb1⟩
   have hbA1 := jD hbAH.out hb1
   have hbK1 := jD hbKH.out hb1
   have hb01 := hb0.trans (hb1.mono hz0)
   clear p0 p1 p2 p3 p4 p5 p6 p7 p8 p9 p10 p11 p12 p13 p14 p15 p16 p17 p18 p19 p20 p21 p22 p23 r0 r1 r2 r3 r4 r5 r6 r7 r8 r9 r10 r11 r12 r13 r14 r15 r16 r17 r18 r19 r20 r21 r22 r23
   have p14 := jA hbA1 14
   have r14 := jA hbK1 14
   simp at p14 r14
   have hlA1 := jB hbA1
   have hlK1 := jB hbK1
   have hfK1 := jE hbK1 14
   have hKn : (w1.setCell ⟨w.heap.size + 1, 14, none⟩ (.int .i64 wh)).heap[w.heap.size + 1]? = some (.cells #[.int .i64 2, .int .i64 0, .int .u32 0, .int .u32 0, .int .u32 0, .int .u32 0, .int .u32 0, .int .u32 0, .int .u32 0, .int .u32 0, .int .u32 0, .bool false, .slice none 0 0, .int .i64 0, .int .i64 wh, .slice none 0 0, .int .u32 0, .int .u32 0, .int .u32 0, .int .u32 0, .int .u32 0, .int .u32 0, .int .u32 0, .int .u32 0] 47 (0, 0)) := by
    rw [jO hbK1 14]; simp
   have hKnH := jH hKn
   have hAn := jH (yG (p := ⟨w.heap.size + 1, 14, none⟩) (u := .int .i64 wh) (show w.heap.size + 1 ≠ w.heap.size by omega) hbA1)
   have hbN : Below w.heap.size w (w1.setCell ⟨w.heap.size + 1, 14, none⟩ (.int .i64 wh)) := hb01.setCell (by simp) _
   clear hbA1 hbK1 hKn
   cases bm with
   | false =>
    rw [if_neg (by decide)] at he2
    subst he2
    go_wp2_with fail
    go_meet
    exact ⟨2, ⟨2, (0, 0), zeroQ, false, none, 0, 0, [], 0, wh, none, 0, 0, [], zeroQ⟩, rfl, hkE.out, fun h => absurd h (by decide), ⟨RdE.nil_, Rd.nil_, Nat.zero_le _, Nat.zero_le _, by simp⟩, hKnH.out, hAn.out, hbN⟩
   | true =>
    rw [if_pos rfl] at he2
    subst he2
    go_wp2_with fail
    go_meet
    exact ⟨0, ⟨2, (0, 0), zeroQ, false, none, 0, 0, [], 0, wh, none, 0, 0, [], zeroQ⟩, rfl, hkE.out, fun _ => hbv.out, ⟨RdE.nil_, Rd.nil_, Nat.zero_le _, Nat.zero_le _, by simp⟩, hKnH.out, hAn.out, hbN⟩
  have h2d : (kd == 2) = false := by simpa using h2
  by_cases h3 : kd = 3
  ·
   subst h3
   have cD := jH (hse.out W hb0)
   have hkE : Hid (sealE ⟨3, ⟨x, v, t, ps.map Pe.core⟩, sn, wh, ms, u⟩ = kindE ⟨3, ⟨x, v, t, ps.map Pe.core⟩, sn, wh, ms, u⟩) := jH (by unfold kindE; rw [if_neg (by simp), if_neg (by simp), if_neg (by simp), if_pos rfl])
   have hbv : Hid (Cm.val ⟨3, (0, 0), zeroQ, false, none, 0, 0, [], sn, 0, B, m, mc, ms, u⟩ = keepC ⟨3, ⟨x, v, t, ps.map Pe.core⟩, sn, wh, ms, u⟩) := jH (by unfold keepC; rw [if_neg (by simp), if_neg (by simp), if_neg (by simp)]; rfl)
   go_upto_region 14 with (fail)
   refine wp_region_list ?_
   refine wpList_load_row rfl _ _ rfl (w.heap.size) rfl 47 _ (0, 0) _ hbAH.out Tryz.underlying47 rfl (by kernel_rfl) ?_
   (try simp only [Act.put, List.setIfInBounds_toArray, List.set_cons_zero, List.set_cons_succ])
   go_wp2_with fail
   refine cD.out.mono ?_
   rintro e w1 ⟨rfl, hb1⟩
   have hbA1 := jD hbAH.out hb1
   have hbK1 := jD hbKH.out hb1
   have hb01 := hb0.trans (hb1.mono hz0)
   clear p0 p1 p2 p3 p4 p5 p6 p7 p8 p9 p10 p11 p12 p13 p14 p15 p16 p17 p18 p19 p20 p21 p22 p23 r0 r1 r2 r3 r4 r5 r6 r7 r8 r9 r10 r11 r12 r13 r14 r15 r16 r17 r18 r19 r20 r21 r22 r23
   have p13 := jA hbA1 13
   have p14 := jA hbA1 14
   have p15 := jA hbA1 15
   have p16 := jA hbA1 16
   have p17 := jA hbA1 17
   have p18 := jA hbA1 18
   have p19 := jA hbA1 19
   have p20 := jA hbA1 20
   have p21 := jA hbA1 21
   have p22 := jA hbA1 22
   have p23 := jA hbA1 23
   have r13 := jA hbK1 13
   have r14 := jA hbK1 14
   have r15 := jA hbK1 15
   have r16 := jA hbK1 16
   have r17 := jA hbK1 17
   have r18 := jA hbK1 18
   have r19 := jA hbK1 19
   have r20 := jA hbK1 20
   have r21 := jA hbK1 21
   have r22 := jA hbK1 22
   have r23 := jA hbK1 23
   simp at p13 p14 p15 p16 p17 p18 p19 p20 p21 p22 p23 r13 r14 r15 r16 r17 r18 r19 r20 r21 r22 r23
   have hlA1 := jB hbA1
   have hlK1 := jB hbK1
   have hfK1 := jE hbK1
   have hbA1H := jH hbA1
   have hbK1H := jH hbK1
   clear hbA1 hbK1
   go_wp2_with fail
   go_region
   have hKn := kept3 hbK1H.out (.slice B m mc) (.int .u32 u.d0) (.int .u32 u.d1) (.int .u32 u.d2) (.int .u32 u.d3) (.int .u32 u.d4) (.int .u32 u.d5) (.int .u32 u.d6) (.int .u32 u.d7) (.int .i64 sn)
   have hAn := kept3_ne hbA1H.out (show w.heap.size + 1 ≠ w.heap.size by omega) (.slice B m mc) (.int .u32 u.d0) (.int .u32 u.d1) (.int .u32 u.d2) (.int .u32 u.d3) (.int .u32 u.d4) (.int .u32 u.d5) (.int .u32 u.d6) (.int .u32 u.d7) (.int .i64 sn)
   have hbN := kept3_below hb01 (show w.heap.size ≤ w.heap.size + 1 by omega) (.slice B m mc) (.int .u32 u.d0) (.int .u32 u.d1) (.int .u32 u.d2) (.int .u32 u.d3) (.int .u32 u.d4) (.int .u32 u.d5) (.int .u32 u.d6) (.int .u32 u.d7) (.int .i64 sn)
   have hOk := hKOk.out _ hbN
   go_wp2_with fail
   go_meet
   exact ⟨_, ⟨3, (0, 0), zeroQ, false, none, 0, 0, [], sn, 0, B, m, mc, ms, u⟩, rfl, hkE.out, fun _ => hbv.out, ⟨RdE.nil_, hOk.rdM, Nat.zero_le _, hOk.lm, by simp⟩, hKn, hAn, hbN⟩
  have h3d : (kd == 3) = false := by simpa using h3
  have hkE : Hid ((5 : Int) = kindE ⟨kd, ⟨x, v, t, ps.map Pe.core⟩, sn, wh, ms, u⟩) := jH (by unfold kindE; rw [if_neg h0, if_neg h1, if_neg h2, if_neg h3])
  go_wp2_with fail
  go_meet
  exact ⟨5, ⟨kd, (0, 0), zeroQ, false, none, 0, 0, [], 0, 0, none, 0, 0, [], zeroQ⟩, rfl, hkE.out, fun h => absurd h (by decide), ⟨RdE.nil_, Rd.nil_, Nat.zero_le _, Nat.zero_le _, by simp⟩, hbKH.out, hbAH.out, hb0⟩
 case rest =>
 obtain ⟨e, b, rfl, he, hbv, hbo, hK, hA1, hbW⟩ := hcut
 clear p0 p1 p2 p3 p4 p5 p6 p7 p8 p9 p10 p11 p12 p13 p14 p15 p16 p17 p18 p19 p20 p21 p22 p23 r0 r1 r2 r3 r4 r5 r6 r7 r8 r9 r10 r11 r12 r13 r14 r15 r16 r17 r18 r19 r20 r21 r22 r23
 have hlA1 := jB hA1
 have hlK1 := jB hK
 have heH := jH he
 have hbvH := jH hbv
 have cS := jH (hsm.out b wc hbW hbo)
 have hKH := jH hK
 have hA1H := jH hA1
 clear hK hA1 he hbv hbo
 by_cases h0 : e = 0
 ·
  subst h0
  have hvv : Cm.val ⟨kd, x, v, t, T, k, kc, ps, sn, wh, B, m, mc, ms, u⟩ = ⟨kd, ⟨x, v, t, ps.map Pe.core⟩, sn, wh, ms, u⟩ := rfl
  rw [hbvH.out rfl, hvv] at cS
  clear hvv
  have hq2 : Hid ((if sameCv (keepC ⟨kd, ⟨x, v, t, ps.map Pe.core⟩, sn, wh, ms, u⟩) ⟨kd, ⟨x, v, t, ps.map Pe.core⟩, sn, wh, ms, u⟩ = true then (0 : Int) else 3) = q) := jH (by
   have h := hrH.out
   rw [← heH.out, if_neg (show ¬ ((0 : Int) ≠ 0) by simp)] at h
   exact h)
  generalize sameCv (keepC ⟨kd, ⟨x, v, t, ps.map Pe.core⟩, sn, wh, ms, u⟩) ⟨kd, ⟨x, v, t, ps.map Pe.core⟩, sn, wh, ms, u⟩ = bs' at cS hq2
  go_upto_region 16 with (fail)
  refine wp_region_list ?_
  refine wpList_plain rfl (fun K hK => ?_)
  go_simp
  refine hK _ _ ?_
  clear hK K
  refine wpList_plain rfl (fun K hK => ?_)
  go_simp
  refine hK _ _ ?_
  clear hK K
  refine wpList_plain rfl (fun K hK => ?_)
  go_simp
  refine hK _ _ ?_
  clear hK K
  refine wpList_loadG (by kernel_rfl) _ _ rfl (w.heap.size + 1) rfl 47 ↑b (0, 0) _ hKH.out Tryz.underlying47 rfl (by kernel_rfl) ?_
  refine wpList_loadG (by kernel_rfl) _ _ rfl (w.heap.size) rfl 47 #[.int .i64 kd, .int .i64 x.1, .int .u32 x.2, .int .u32 v.d0, .int .u32 v.d1, .int .u32 v.d2, .int .u32 v.d3, .int .u32 v.d4, .int .u32 v.d5, .int .u32 v.d6, .int .u32 v.d7, .bool t, .slice T k kc, .int .i64 sn, .int .i64 wh, .slice B m mc, .int .u32 u.d0, .int .u32 u.d1, .int .u32 u.d2, .int .u32 u.d3, .int .u32 u.d4, .int .u32 u.d5, .int .u32 u.d6, .int .u32 u.d7] (0, 0) _ hA1H.out Tryz.underlying47 rfl (by kernel_rfl) ?_
  (try simp only [Act.put, List.setIfInBounds_toArray, List.set_cons_zero, List.set_cons_succ])
  go_wp2_with fail
  refine cS.out.mono ?_
  rintro e w2 ⟨rfl, hb2⟩
  have hG := hbW.trans (hb2.mono hbW.size)
  cases bs' with
  | true =>
   have hT : Hid ((0 : Int) = q) := jH (by rw [← hq2.out, if_pos rfl])
   go_wp2
   go_ret
   exact ⟨jR hT.out, hG⟩
  | false =>
   have hT : Hid ((3 : Int) = q) := jH (by rw [← hq2.out, if_neg (by decide)])
   go_wp2
   go_ret
   exact ⟨jR hT.out, hG⟩
 ·
  have h0d : (e == 0) = false := by simpa using h0
  have hT : Hid (e = q) := jH (by have h := hrH.out; rw [← heH.out, if_pos h0] at h; exact h)
  go_wp2
  go_ret
  exact ⟨jR hT.out, hbW⟩
end Go.Proofs.YtfhandglpjnonaaGreatDoor
