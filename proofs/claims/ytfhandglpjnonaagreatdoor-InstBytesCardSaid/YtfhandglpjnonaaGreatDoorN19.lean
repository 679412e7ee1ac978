/- Which fields a message has: inst.form; the document's hasB, hasC, hasA, hasV. Messages; the document's hasB, hasC, hasA, hasV. inst.same: messages held against one another but for whose they are. inst.checkFields. -/
import Derived.Test.YtfhandglpjnonaaGreatDoorQg
set_option maxRecDepth 100000
set_option maxHeartbeats 16000000
namespace Go.Proofs.YtfhandglpjnonaaGreatDoor
open Go.RowKit
def hB (k : Int) : Bool := !(k == 5)
def hS (k : Int) : Bool := k == 7
def hV (k s : Int) : Bool := k == 7 && !(s == 0)
def hC (k s : Int) : Bool := k == 1 || k == 3 || k == 5 || hV k s
def hA (k s : Int) : Bool := hC k s || k == 2
theorem ret_has {a1 a2 a3 a4 a5 b1 b2 b3 b4 b5 : Bool} (h1 : a1 = b1) (h2 : a2 = b2) (h3 : a3 = b3) (h4 : a4 = b4) (h5 : a5 = b5) :
 Ending.returned (.agg #[.bool a1, .bool a2, .bool a3, .bool a4, .bool a5]) = .returned (.agg #[.bool b1, .bool b2, .bool b3, .bool b4, .bool b5]) := by rw [h1, h2, h3, h4, h5]
theorem form_any (k s : Int) (w : World) : Calls Tryz.prog 29 #[.int .i64 k, .int .i64 s] w fun e w' =>
 e = .returned (.agg #[.bool (hB k), .bool (hS k), .bool (hV k s), .bool (hC k s), .bool (hA k s)]) ∧ Below w.heap.size w w' := by
 by_cases h7 : k = 7
 ·
  subst h7
  by_cases hs : s = 0
  ·
   subst hs
   go_enter Tryz.func29, Tryz.ntmps29
   go_wp2
   exact bodyPost_ret (v := .agg #[.bool true, .bool true, .bool false, .bool false, .bool false]) (by simp [results, Tryz.results29, go_sem]) rfl ⟨ret_has (by simp [hB]) (by simp [hS]) (by simp [hV]) (by simp [hV, hC]) (by simp [hV, hC, hA]), ((Below.refl _ w).alloc (Nat.le_refl _) _).alloc (by simp) _⟩
  ·
   have hsd : (s == 0) = false := by simpa using hs
   go_enter Tryz.func29, Tryz.ntmps29
   go_wp2
   exact bodyPost_ret (v := .agg #[.bool true, .bool true, .bool true, .bool true, .bool true]) (by simp [results, Tryz.results29, go_sem]) rfl ⟨ret_has (by simp [hB]) (by simp [hS]) (by simp [hV, hsd]) (by simp [hV, hC, hsd]) (by simp [hV, hC, hA, hsd]), ((Below.refl _ w).alloc (Nat.le_refl _) _).alloc (by simp) _⟩
 have h7d : (k == 7) = false := by simpa using h7
 by_cases h1 : k = 1
 ·
  subst h1
  go_enter Tryz.func29, Tryz.ntmps29
  go_wp2
  exact bodyPost_ret (v := .agg #[.bool true, .bool false, .bool false, .bool true, .bool true]) (by simp [results, Tryz.results29, go_sem]) rfl ⟨ret_has (by simp [hB]) (by simp [hS]) (by simp [hV]) (by simp [hV, hC]) (by simp [hV, hC, hA]), ((Below.refl _ w).alloc (Nat.le_refl _) _).alloc (by simp) _⟩
 have h1d : (k == 1) = false := by simpa using h1
 by_cases h3 : k = 3
 ·
  subst h3
  go_enter Tryz.func29, Tryz.ntmps29
  go_wp2
  exact bodyPost_ret (v := .agg #[.bool true, .bool false, .bool false, .bool true, .bool true]) (by simp [results, Tryz.results29, go_sem]) rfl ⟨ret_has (by simp [hB]) (by simp [hS]) (by simp [hV]) (by simp [hV, hC]) (by simp [hV, hC, hA]), ((Below.refl _ w).alloc (Nat.le_refl _) _).alloc (by simp) _⟩
 have h3d : (k == 3) = false := by simpa using h3
 by_cases h5 : k = 5
 ·
  subst h5
  go_enter Tryz.func29, Tryz.ntmps29
  go_wp2
  exact bodyPost_ret (v := .agg #[.bool false, .bool false, .bool false, .bool true, .bool true]) (by simp [results, Tryz.results29, go_sem]) rfl ⟨ret_has (by simp [hB]) (by simp [hS]) (by simp [hV]) (by simp [hV, hC]) (by simp [hV, hC, hA]), ((Below.refl _ w).alloc (Nat.le_refl _) _).alloc (by simp) _⟩
 have h5d : (k == 5) = false := by simpa using h5
 by_cases h2 : k = 2
 ·
  subst h2
  go_enter Tryz.func29, Tryz.ntmps29
  go_wp2
  exact bodyPost_ret (v := .agg #[.bool true, .bool false, .bool false, .bool false, .bool true]) (by simp [results, Tryz.results29, go_sem]) rfl ⟨ret_has (by simp [hB]) (by simp [hS]) (by simp [hV]) (by simp [hV, hC]) (by simp [hV, hC, hA]), ((Below.refl _ w).alloc (Nat.le_refl _) _).alloc (by simp) _⟩
 have h2d : (k == 2) = false := by simpa using h2
 have h5n : (k != 5) = true := by simpa using h5
 go_enter Tryz.func29, Tryz.ntmps29
 go_wp2
 exact bodyPost_ret (v := .agg #[.bool true, .bool false, .bool false, .bool false, .bool false]) (by simp [results, Tryz.results29, go_sem]) rfl ⟨ret_has (by simp [hB, h5d]) (by simp [hS, h7d]) (by simp [hV, h7d]) (by simp [hV, hC, h7d, h1d, h3d, h5d]) (by simp [hV, hC, hA, h7d, h1d, h3d, h5d, h2d]), ((Below.refl _ w).alloc (Nat.le_refl _) _).alloc (by simp) _⟩
theorem posQ {s : Int} (h : 0 ≤ s) : decide (0 < s) = !(s == 0) := by
 by_cases h0 : s = 0
 ·
  subst h0; rfl
 ·
  rw [decide_eq_true (by omega), show (s == 0) = false by simpa using h0]; rfl
structure Mm where
 kd : Int
 fr : Int
 dst : Int
 ep : Int
 i : Im
 b : Int × Int
 st : Int
 vv : Int × Int
 c : Cm
 an : Int
 av : Vm
instance : Coe Mm (Array Value) := ⟨fun m => #[.int .i64 m.kd, .int .i64 m.fr, .int .i64 m.dst, .int .u32 m.ep, .int .i64 m.i.1, .int .u32 m.i.2, .int .u32 m.b.1, .int .i64 m.b.2, .int .i64 m.st, .int .u32 m.vv.1, .int .i64 m.vv.2, .int .i64 m.c.kd, .int .i64 m.c.x.1, .int .u32 m.c.x.2, .int .u32 m.c.v.d0, .int .u32 m.c.v.d1, .int .u32 m.c.v.d2, .int .u32 m.c.v.d3, .int .u32 m.c.v.d4, .int .u32 m.c.v.d5, .int .u32 m.c.v.d6, .int .u32 m.c.v.d7, .bool m.c.t, .slice m.c.T m.c.k m.c.kc, .int .i64 m.c.sn, .int .i64 m.c.wh, .slice m.c.B m.c.m m.c.mc, .int .u32 m.c.u.d0, .int .u32 m.c.u.d1, .int .u32 m.c.u.d2, .int .u32 m.c.u.d3, .int .u32 m.c.u.d4, .int .u32 m.c.u.d5, .int .u32 m.c.u.d6, .int .u32 m.c.u.d7, .int .u32 m.an, .int .u32 m.av.d0, .int .u32 m.av.d1, .int .u32 m.av.d2, .int .u32 m.av.d3, .int .u32 m.av.d4, .int .u32 m.av.d5, .int .u32 m.av.d6, .int .u32 m.av.d7]⟩
theorem rhasB_any (m : Mm) (w : World) : Calls Tryz.prog 37 #[.agg ↑m] w fun e w' => e = .returned (.bool (hB m.kd)) ∧ Below w.heap.size w w' := by
 have hb0 : Below w.heap.size w (w.alloc (.cells ↑m 38)) := (Below.refl _ w).alloc (Nat.le_refl _) _
 have hbA : (w.alloc (.cells ↑m 38)).heap[w.heap.size]? = some (.cells ↑m 38 (0, 0)) := jT _ _ rfl
 generalize hW : (w.alloc (.cells ↑m 38)) = W at hb0 hbA
 have hz0 := hb0.size
 have hltA := jB hbA
 have p0 := jA hbA 0
 simp at p0
 clear hbA
 go_enter Tryz.func37, Tryz.ntmps37
 go_wp2
 go_ret
 exact ⟨jQ (by unfold hB; rfl), hb0⟩
theorem rhasV_any (m : Mm) (hs : 0 ≤ m.st) (w : World) : Calls Tryz.prog 38 #[.agg ↑m] w fun e w' => e = .returned (.bool (hV m.kd m.st)) ∧ Below w.heap.size w w' := by
 have hb0 : Below w.heap.size w (w.alloc (.cells ↑m 38)) := (Below.refl _ w).alloc (Nat.le_refl _) _
 have hbA : (w.alloc (.cells ↑m 38)).heap[w.heap.size]? = some (.cells ↑m 38 (0, 0)) := jT _ _ rfl
 generalize hW : (w.alloc (.cells ↑m 38)) = W at hb0 hbA
 have hz0 := hb0.size
 have hltA := jB hbA
 have p0 := jA hbA 0
 have p8 := jA hbA 8
 simp at p0 p8
 clear hbA
 by_cases h7 : m.kd = 7
 ·
  have h7d : (m.kd == 7) = true := by simpa using h7
  have hT : Hid (decide (0 < m.st) = hV m.kd m.st) := jH (by unfold hV; rw [h7d, posQ hs]; rfl)
  clear h7
  go_enter Tryz.func38, Tryz.ntmps38
  go_wp2
  go_ret
  exact ⟨jQ hT.out, hb0⟩
 ·
  have h7d : (m.kd == 7) = false := by simpa using h7
  have hT : Hid (false = hV m.kd m.st) := jH (by unfold hV; rw [h7d]; rfl)
  go_enter Tryz.func38, Tryz.ntmps38
  go_wp2
  go_ret
  exact ⟨jQ hT.out, hb0⟩
theorem rhasC_any (m : Mm) (hs : 0 ≤ m.st) (w : World) : Calls Tryz.prog 39 #[.agg ↑m] w fun e w' => e = .returned (.bool (hC m.kd m.st)) ∧ Below w.heap.size w w' := by
 have hb0 : Below w.heap.size w (w.alloc (.cells ↑m 38)) := (Below.refl _ w).alloc (Nat.le_refl _) _
 have hbA : (w.alloc (.cells ↑m 38)).heap[w.heap.size]? = some (.cells ↑m 38 (0, 0)) := jT _ _ rfl
 generalize hW : (w.alloc (.cells ↑m 38)) = W at hb0 hbA
 have hz0 := hb0.size
 have hltA := jB hbA
 have p0 := jA hbA 0
 have p8 := jA hbA 8
 simp at p0 p8
 clear hbA
 obtain ⟨kd, fr, dst, ep, i, b, st, vv, c, an, av⟩ := m
 dsimp only at *
 by_cases h1 : kd = 1
 ·
  subst h1
  go_enter Tryz.func39, Tryz.ntmps39
  go_wp2
  go_ret
  exact ⟨jQ rfl, hb0⟩
 have h1d : (kd == 1) = false := by simpa using h1
 by_cases h3 : kd = 3
 ·
  subst h3
  go_enter Tryz.func39, Tryz.ntmps39
  go_wp2
  go_ret
  exact ⟨jQ rfl, hb0⟩
 have h3d : (kd == 3) = false := by simpa using h3
 by_cases h5 : kd = 5
 ·
  subst h5
  go_enter Tryz.func39, Tryz.ntmps39
  go_wp2
  go_ret
  exact ⟨jQ rfl, hb0⟩
 have h5d : (kd == 5) = false := by simpa using h5
 by_cases h7 : kd = 7
 ·
  subst h7
  have hT : Hid (decide (0 < st) = hC 7 st) := jH (by unfold hC hV; rw [posQ hs]; rfl)
  go_enter Tryz.func39, Tryz.ntmps39
  go_wp2
  go_ret
  exact ⟨jQ hT.out, hb0⟩
 have h7d : (kd == 7) = false := by simpa using h7
 have hT : Hid (false = hC kd st) := jH (by unfold hC hV; rw [h1d, h3d, h5d, h7d]; rfl)
 go_enter Tryz.func39, Tryz.ntmps39
 go_wp2
 go_ret
 exact ⟨jQ hT.out, hb0⟩
theorem rhasA_any (m : Mm) (hs : 0 ≤ m.st) (w : World) : Calls Tryz.prog 40 #[.agg ↑m] w fun e w' => e = .returned (.bool (hA m.kd m.st)) ∧ Below w.heap.size w w' := by
 have hb0 : Below w.heap.size w (w.alloc (.cells ↑m 38)) := (Below.refl _ w).alloc (Nat.le_refl _) _
 have hbA : (w.alloc (.cells ↑m 38)).heap[w.heap.size]? = some (.cells ↑m 38 (0, 0)) := jT _ _ rfl
 generalize hW : (w.alloc (.cells ↑m 38)) = W at hb0 hbA
 have hz0 := hb0.size
 have hltA := jB hbA
 have p0 := jA hbA 0
 have p8 := jA hbA 8
 simp at p0 p8
 have hbAH := jH hbA
 have cC := jH (fun w' => rhasC_any m hs w')
 clear hbA
 obtain ⟨hc, hhc⟩ : ∃ hc, hC m.kd m.st = hc := ⟨_, rfl⟩
 rw [hhc] at cC
 cases hc with
 | true =>
  have hT : Hid (true = hA m.kd m.st) := jH (by unfold hA; rw [hhc]; rfl)
  clear hhc
  go_enter Tryz.func40, Tryz.ntmps40
  go_upto_region 1 with (fail)
  refine wp_region_list ?_
  refine wpList_load_row rfl _ _ rfl (w.heap.size) rfl 38 _ (0, 0) _ hbAH.out Tryz.underlying38 rfl (by kernel_rfl) ?_
  (try simp only [Act.put, List.setIfInBounds_toArray, List.set_cons_zero, List.set_cons_succ])
  go_wp2_with fail
  refine (cC.out _).mono ?_
  rintro e w1 ⟨rfl, hb1⟩
  have hG := hb0.trans (hb1.mono hz0)
  go_wp2
  go_ret
  exact ⟨jQ hT.out, hG⟩
 | false =>
  have hT : Hid ((m.kd == 2) = hA m.kd m.st) := jH (by unfold hA; rw [hhc]; rfl)
  clear hhc
  go_enter Tryz.func40, Tryz.ntmps40
  go_upto_region 1 with (fail)
  refine wp_region_list ?_
  refine wpList_load_row rfl _ _ rfl (w.heap.size) rfl 38 _ (0, 0) _ hbAH.out Tryz.underlying38 rfl (by kernel_rfl) ?_
  (try simp only [Act.put, List.setIfInBounds_toArray, List.set_cons_zero, List.set_cons_succ])
  go_wp2_with fail
  refine (cC.out _).mono ?_
  rintro e w1 ⟨rfl, hb1⟩
  have hG := hb0.trans (hb1.mono hz0)
  have hbA1 := jD hbAH.out hb1
  have hltA1 := jB hbA1
  clear p0 p8
  have p0 := jA hbA1 0
  simp at p0
  clear hbA1
  go_wp2
  go_ret
  exact ⟨jQ hT.out, hG⟩
theorem wpList_load_midG {P : Program} {ops : Array Oper} {rest : List Oper} {o : Oper} {a : Act} {w : World} {Q : Exit → Act → World → Prop} (hw : Region.wanted o (yielded ops a.tmps) = true) (ty : TypeId) (x : Operand) (ho : o.op = .load ty x)
 (b k : Nat) (hx : a.eval x = .pointer (some ⟨b, k, none⟩)) (cs : List Value) (d : TypeDesc) (hc : w.rangeAt b k cs)
 (hu : P.underlying ty = some d) (hd : d.isRow = true) (hi : (P.info? ty).map (·.size) = some cs.length)
 (h : wpList P ops Q rest (a.put o.dst (.agg cs.toArray)) w) : wpList P ops Q (o :: rest) a w :=
 wpList_step fun K hK => by
  rw [if_pos hw]
  exact wp_load_mid ty x ho b k hx cs d hc hu hd hi (hK _ _ h)
theorem rangeQ {w : World} {b : Nat} {cs : Array Value} {t : TypeId} {fr : Nat × Nat} (h : w.heap[b]? = some (.cells cs t fr)) (k : Nat) (l : List Value) (hl : (cs.toList.drop k).take l.length = l) : w.rangeAt b k l := fun j v hv => by
 have h1 : (cs.toList.drop k)[j]? = some v := by
  have hj := (List.getElem?_eq_some_iff.1 hv).1
  rw [← hl, List.getElem?_take_of_lt hj] at hv
  exact hv
 rw [cell_of_row _ _ _ cs t fr h]
 rw [List.getElem?_drop] at h1
 simpa using h1
theorem run_eqin_ints {P : Program} {t e : TypeId} {n d : Nat} {i : TypeInfo} {k : IntKind} (hu : P.underlying t = some (.array n e)) (hi : P.info? e = some i) (hs : P.cellsOf e = 1)
 (he : P.underlying e = some (.int k)) (xs ys : List Int) (hx : xs.length = n) (hy : ys.length = n) (w : World) :
 (Op.equalIn (d + 1 + 1) t (.agg (xs.map (Value.int k)).toArray) (.agg (ys.map (Value.int k)).toArray)).run P w = .ok (xs == ys) w := by
 rw [run_equalIn_array w _ _ _ hu hi, hs, run_eqItems_ints d he xs ys w _ (by intro j hj; have := List.mem_range.1 hj; omega)]
 have := range_all_beq xs ys (by omega)
 rw [hx] at this
 rw [this]
theorem eqin9 (a b : Vm) (w : World) : (Op.equalIn 9999 28 (.agg ↑a) (.agg ↑b)).run Tryz.prog w = .ok (eqV a b) w := by
 have h := run_eqin_ints (P := Tryz.prog) (d := 9997) (t := 28) (k := .u32) Tryz.underlying28 (Option.eq_some_of_isSome (by kernel_rfl)) (by kernel_rfl) Tryz.underlying22 [a.d0, a.d1, a.d2, a.d3, a.d4, a.d5, a.d6, a.d7] [b.d0, b.d1, b.d2, b.d3, b.d4, b.d5, b.d6, b.d7] rfl rfl w
 exact h
def sameMm (m n : Mm) : Bool := decide (m.b.1 = n.b.1) && (decide (m.b.2 = n.b.2) && (decide (m.st = n.st) && (decide (m.vv.1 = n.vv.1) && (decide (m.vv.2 = n.vv.2) && (decide (m.an = n.an) && (eqV m.av n.av && sameCv m.c.val n.c.val))))))
theorem sameP_any (m n : Mm) (w : World) (hA : m.c.Ok w w.heap.size) (hB : n.c.Ok w w.heap.size) :
 Calls Tryz.prog 28 #[.agg ↑m, .agg ↑n] w fun e w' => e = .returned (.bool (sameMm m n)) ∧ Below w.heap.size w w' := by
 generalize hr : sameMm m n = q
 unfold sameMm at hr
 have cS := jH (fun w' (h : Below w.heap.size w w') => scmdP_any m.c n.c w' ((hA.below h).more h.size) ((hB.below h).more h.size))
 have hb0 : Below w.heap.size w ((w.alloc (.cells ↑m 50)).alloc (.cells ↑n 50)) := ((Below.refl _ w).alloc (Nat.le_refl _) _).alloc (by simp) _
 have hbA : ((w.alloc (.cells ↑m 50)).alloc (.cells ↑n 50)).heap[w.heap.size]? = some (.cells ↑m 50 (0, 0)) := yE _ (by simp) (jT _ _ rfl)
 have hbB : ((w.alloc (.cells ↑m 50)).alloc (.cells ↑n 50)).heap[w.heap.size + 1]? = some (.cells ↑n 50 (0, 0)) := jT _ _ (by simp)
 generalize hW : ((w.alloc (.cells ↑m 50)).alloc (.cells ↑n 50)) = W at hb0 hbA hbB
 have hz0 := hb0.size
 have hltA := jB hbA
 have hltB := jB hbB
 have p6 := jA hbA 6
 have p7 := jA hbA 7
 have p8 := jA hbA 8
 have p9 := jA hbA 9
 have p10 := jA hbA 10
 have q6 := jA hbB 6
 have q7 := jA hbB 7
 have q8 := jA hbB 8
 have q9 := jA hbB 9
 have q10 := jA hbB 10
 have p35 := jA hbA 35
 have p36 := jA hbA 36
 have p37 := jA hbA 37
 have p38 := jA hbA 38
 have p39 := jA hbA 39
 have p40 := jA hbA 40
 have p41 := jA hbA 41
 have p42 := jA hbA 42
 have p43 := jA hbA 43
 have q35 := jA hbB 35
 have q36 := jA hbB 36
 have q37 := jA hbB 37
 have q38 := jA hbB 38
 have q39 := jA hbB 39
 have q40 := jA hbB 40
 have q41 := jA hbB 41
 have q42 := jA hbB 42
 have q43 := jA hbB 43
 simp at p6 p7 p8 p9 p10 p35 p36 p37 p38 p39 p40 p41 p42 p43 q6 q7 q8 q9 q10 q35 q36 q37 q38 q39 q40 q41 q42 q43
 have hbAH := jH hbA
 have hbBH := jH hbB
 have hrH := jH hr
 have hne := eqin9 m.av n.av
 clear hbA hbB hr hA hB
 obtain ⟨kd, fr, dst, ep, ⟨i1, i2⟩, ⟨b1, b2⟩, st, ⟨v1, v2⟩, c, an, av⟩ := m
 obtain ⟨ld, gr, est, fp, ⟨j1, j2⟩, ⟨c1, c2⟩, tt, ⟨u1, u2⟩, d, bn, bv⟩ := n
 dsimp only at *
 by_cases h0 : b1 = c1
 case neg =>
  have hT : Hid (false = q) := jH (by rw [← hrH.out]; simp [h0])
  clear hne
  go_enter Tryz.func28, Tryz.ntmps28
  go_wp2
  go_ret
  exact ⟨jQ hT.out, hb0⟩
 subst h0
 by_cases h1 : b2 = c2
 case neg =>
  have hT : Hid (false = q) := jH (by rw [← hrH.out]; simp [h1])
  clear hne
  go_enter Tryz.func28, Tryz.ntmps28
  go_wp2
  go_ret
  exact ⟨jQ hT.out, hb0⟩
 subst h1
 by_cases h2 : st = tt
 case neg =>
  have hT : Hid (false = q) := jH (by rw [← hrH.out]; simp [h2])
  clear hne
  go_enter Tryz.func28, Tryz.ntmps28
  go_wp2
  go_ret
  exact ⟨jQ hT.out, hb0⟩
 subst h2
 by_cases h3 : v1 = u1
 case neg =>
  have hT : Hid (false = q) := jH (by rw [← hrH.out]; simp [h3])
  clear hne
  go_enter Tryz.func28, Tryz.ntmps28
  go_wp2
  go_ret
  exact ⟨jQ hT.out, hb0⟩
 subst h3
 by_cases h4 : v2 = u2
 case neg =>
  have hT : Hid (false = q) := jH (by rw [← hrH.out]; simp [h4])
  clear hne
  go_enter Tryz.func28, Tryz.ntmps28
  go_wp2
  go_ret
  exact ⟨jQ hT.out, hb0⟩
 subst h4
 by_cases h5 : an = bn
 case neg =>
  have hT : Hid (false = q) := jH (by rw [← hrH.out]; simp [h5])
  clear hne
  go_enter Tryz.func28, Tryz.ntmps28
  go_wp2
  go_ret
  exact ⟨jQ hT.out, hb0⟩
 subst h5
 cases hv : eqV av bv with
 | false =>
  rw [hv] at hne
  have hT : Hid (false = q) := jH (by rw [← hrH.out, hv]; simp)
  clear hv
  go_enter Tryz.func28, Tryz.ntmps28
  go_wp2
  go_ret
  exact ⟨jQ hT.out, hb0⟩
 | true =>
 rw [hv] at hne
 have hq2 : Hid (sameCv c.val d.val = q) := jH (by rw [← hrH.out, hv]; simp)
 clear hv
 generalize sameCv c.val d.val = bC at cS hq2
 go_enter Tryz.func28, Tryz.ntmps28
 go_upto_region 1 with (fail)
 refine wp_region_list ?_
 refine wpList_step (fun K hK => ?_)
 rw [if_pos (by kernel_rfl)]
 go_simp
 refine hK _ _ ?_
 clear hK K
 refine wpList_step (fun K hK => ?_)
 rw [if_pos (by kernel_rfl)]
 go_simp
 refine hK _ _ ?_
 clear hK K
 refine wpList_step (fun K hK => ?_)
 rw [if_pos (by kernel_rfl)]
 go_simp
 refine hK _ _ ?_
 clear hK K
 refine wpList_step (fun K hK => ?_)
 rw [if_pos (by kernel_rfl)]
 go_simp
 refine hK _ _ ?_
 clear hK K
 refine wpList_step (fun K hK => ?_)
 rw [if_pos (by kernel_rfl)]
 go_simp
 refine hK _ _ ?_
 clear hK K
 refine wpList_step (fun K hK => ?_)
 rw [if_pos (by kernel_rfl)]
 go_simp
 refine hK _ _ ?_
 clear hK K
 refine wpList_step (fun K hK => ?_)
 rw [if_pos (by kernel_rfl)]
 go_simp
 refine hK _ _ ?_
 clear hK K
 refine wpList_step (fun K hK => ?_)
 rw [if_pos (by kernel_rfl)]
 go_simp
 refine hK _ _ ?_
 clear hK K
 refine wpList_step (fun K hK => ?_)
 rw [if_pos (by kernel_rfl)]
 go_simp
 refine hK _ _ ?_
 clear hK K
 refine wpList_step (fun K hK => ?_)
 rw [if_pos (by kernel_rfl)]
 go_simp
 refine hK _ _ ?_
 clear hK K
 refine wpList_step (fun K hK => ?_)
 rw [if_pos (by kernel_rfl)]
 go_simp
 refine hK _ _ ?_
 clear hK K
 refine wpList_step (fun K hK => ?_)
 rw [if_pos (by kernel_rfl)]
 go_simp
 refine hK _ _ ?_
 clear hK K
 refine wpList_step (fun K hK => ?_)
 rw [if_pos (by kernel_rfl)]
 go_simp
 refine hK _ _ ?_
 clear hK K
 refine wpList_step (fun K hK => ?_)
 rw [if_pos (by kernel_rfl)]
 go_simp
 refine hK _ _ ?_
 clear hK K
 refine wpList_step (fun K hK => ?_)
 rw [if_pos (by kernel_rfl)]
 go_simp
 refine hK _ _ ?_
 clear hK K
 refine wpList_step (fun K hK => ?_)
 rw [if_pos (by kernel_rfl)]
 go_simp
 refine hK _ _ ?_
 clear hK K
 refine wpList_step (fun K hK => ?_)
 rw [if_pos (by kernel_rfl)]
 go_simp
 refine hK _ _ ?_
 clear hK K
 refine wpList_step (fun K hK => ?_)
 rw [if_pos (by kernel_rfl)]
 go_simp
 refine hK _ _ ?_
 clear hK K
 refine wpList_step (fun K hK => ?_)
 rw [if_pos (by kernel_rfl)]
 go_simp
 refine hK _ _ ?_
 clear hK K
 refine wpList_step (fun K hK => ?_)
 rw [if_pos (by kernel_rfl)]
 go_simp
 refine hK _ _ ?_
 clear hK K
 refine wpList_step (fun K hK => ?_)
 rw [if_pos (by kernel_rfl)]
 go_simp
 refine hK _ _ ?_
 clear hK K
 refine wpList_step (fun K hK => ?_)
 rw [if_pos (by kernel_rfl)]
 go_simp
 refine hK _ _ ?_
 clear hK K
 refine wpList_step (fun K hK => ?_)
 rw [if_pos (by kernel_rfl)]
 go_simp
 refine hK _ _ ?_
 clear hK K
 refine wpList_step (fun K hK => ?_)
 rw [if_pos (by kernel_rfl)]
 go_simp
 refine hK _ _ ?_
 clear hK K
 refine wpList_step (fun K hK => ?_)
 rw [if_pos (by kernel_rfl)]
 go_simp
 refine hK _ _ ?_
 clear hK K
 refine wpList_step (fun K hK => ?_)
 rw [if_pos (by kernel_rfl)]
 go_simp
 refine hK _ _ ?_
 clear hK K
 refine wpList_step (fun K hK => ?_)
 rw [if_pos (by kernel_rfl)]
 go_simp
 refine hK _ _ ?_
 clear hK K
 refine wpList_step (fun K hK => ?_)
 rw [if_pos (by kernel_rfl)]
 go_simp
 refine hK _ _ ?_
 clear hK K
 refine wpList_load_midG (by kernel_rfl) _ _ rfl (w.heap.size) 11 rfl ↑c _ (rangeQ hbAH.out 11 ↑c rfl) Tryz.underlying47 rfl (by kernel_rfl) ?_
 refine wpList_step (fun K hK => ?_)
 rw [if_pos (by kernel_rfl)]
 go_simp
 refine hK _ _ ?_
 clear hK K
 refine wpList_load_midG (by kernel_rfl) _ _ rfl (w.heap.size + 1) 11 rfl ↑d _ (rangeQ hbBH.out 11 ↑d rfl) Tryz.underlying47 rfl (by kernel_rfl) ?_
 (try simp only [Act.put, List.setIfInBounds_toArray, List.set_cons_zero, List.set_cons_succ])
 go_wp2_with fail
 refine (cS.out _ hb0).mono ?_
 rintro e w2 ⟨rfl, hb2⟩
 have hG := hb0.trans (hb2.mono hz0)
 clear p6 p7 p8 p9 p10 p35 p36 p37 p38 p39 p40 p41 p42 p43 q6 q7 q8 q9 q10 q35 q36 q37 q38 q39 q40 q41 q42 q43
 go_wp2
 go_ret
 exact ⟨jQ hq2.out, hG⟩
def fieldsE (m : Mm) : Int := if errI (chk m.i) ≠ 0 then errI (chk m.i) else if balE m.b.1 m.b.2 ≠ 0 then balE m.b.1 m.b.2 else if balE m.vv.1 m.vv.2 ≠ 0 then balE m.vv.1 m.vv.2 else
 if 1048576 < m.an then 2 else if errI (vchk m.av) ≠ 0 then errI (vchk m.av) else cmdErr m.c.val
structure Mm.Fit (w : World) (m : Mm) : Prop where
 c : m.c.Fit w
 i : m.i.wf
 av : m.av.wf
theorem Mm.Fit.below {w w' : World} {m : Mm} (h : m.Fit w) (hb : Below w.heap.size w w') : m.Fit w' := ⟨h.c.below hb, h.i, h.av⟩
theorem fields_any (m : Mm) (w : World) (hA : m.Fit w) (hV : VarM w) :
 Calls Tryz.prog 27 #[.agg ↑m] w fun e w' => e = .returned (.int .i64 (fieldsE m)) ∧ Below w.heap.size w w' := by
 generalize hr : fieldsE m = q
 unfold fieldsE at hr
 have cI := jH (fun w' => chk_any m.i hA.i w')
 have cB := jH (fun a b w' => bchk_any a b w')
 have cV := jH (fun w' => vcheck_any m.av w')
 have cC := jH (fun w' (h : Below w.heap.size w w') => chkcmd_any m.c w' (hA.c.below h) (hV.below h hV.lt))
 have hb0 : Below w.heap.size w (w.alloc (.cells ↑m 50)) := (Below.refl _ w).alloc (Nat.le_refl _) _
 have hbA : (w.alloc (.cells ↑m 50)).heap[w.heap.size]? = some (.cells ↑m 50 (0, 0)) := jT _ _ rfl
 generalize hW : (w.alloc (.cells ↑m 50)) = W at hb0 hbA
 have hz0 := hb0.size
 have hltA := jB hbA
 have p4 := jA hbA 4
 have p5 := jA hbA 5
 have p6 := jA hbA 6
 have p7 := jA hbA 7
 simp at p4 p5 p6 p7
 have hbAH := jH hbA
 have hrH := jH hr
 clear hbA hr hA
 obtain ⟨eI, heI⟩ : ∃ eI, errI (chk m.i) = eI := ⟨_, rfl⟩
 rw [heI] at cI hrH
 clear heI
 by_cases hI : eI = 0
 case neg =>
  have hd : (eI == 0) = false := by simpa using hI
  have hT : Hid (eI = q) := jH (by rw [← hrH.out, if_pos hI])
  go_enter Tryz.func27, Tryz.ntmps27
  go_wp2_with fail
  refine (cI.out _).mono ?_
  rintro e w1 ⟨rfl, hb1⟩
  have hG := hb0.trans (hb1.mono hz0)
  clear p4 p5 p6 p7
  go_wp2
  go_ret
  exact ⟨jR hT.out, hG⟩
 subst hI
 have hq1 : Hid ((if balE m.b.1 m.b.2 ≠ 0 then balE m.b.1 m.b.2 else if balE m.vv.1 m.vv.2 ≠ 0 then balE m.vv.1 m.vv.2 else if 1048576 < m.an then 2 else if errI (vchk m.av) ≠ 0 then errI (vchk m.av) else cmdErr m.c.val) = q) := jH (by
  have h := hrH.out
  rw [if_neg (show ¬ ((0 : Int) ≠ 0) by simp)] at h
  exact h)
 go_enter Tryz.func27, Tryz.ntmps27
 go_wp2_with fail
 refine (cI.out _).mono ?_
 rintro e w1 ⟨rfl, hb1⟩
 have hb01 := hb0.trans (hb1.mono hz0)
 have hz1 := hb01.size
 have hbA1 := jD hbAH.out hb1
 clear p4 p5 p6 p7
 have p6 := jA hbA1 6
 have p7 := jA hbA1 7
 have p8 := jA hbA1 8
 have p9 := jA hbA1 9
 have p10 := jA hbA1 10
 simp at p6 p7 p8 p9 p10
 have hlA1 := jB hbA1
 have hbA1H := jH hbA1
 clear hbA1
 go_wp2_with fail
 go_loopg [19] 3 (fun gg iv wr => ∃ (j : Nat), j ≤ 2 ∧ gg = 3 - j ∧ iv = .int .i64 (j : Int) ∧ (0 < j → balE m.b.1 m.b.2 = 0) ∧ (1 < j → balE m.vv.1 m.vv.2 = 0) ∧ Below W.heap.size W wr)
 case atStart => exact ⟨0, Nat.zero_le _, rfl, rfl, by omega, by omega, hb1⟩
 case round =>
  obtain ⟨j, hj, rfl, rfl, hj1, hj2, hbr⟩ := hrel
  clear p6 p7 p8 p9 p10
  have hb0v := hb0.trans (hbr.mono hz0)
  have hzv := hb0v.size
  have hj1H := jH hj1
  have hj2H := jH hj2
  clear hj1 hj2
  have hj3 : j = 0 ∨ j = 1 ∨ j = 2 := by omega
  have ix0 : ∀ w', (Instr.index 152 (.agg #[.int .u32 m.b.1, .int .i64 m.b.2, .int .u32 m.vv.1, .int .i64 m.vv.2]) (.int .i64 0)).run Tryz.prog w' = .ok (.agg #[.int .u32 m.b.1, .int .i64 m.b.2]) w' := fun _ => by kernel_rfl
  have ix1 : ∀ w', (Instr.index 152 (.agg #[.int .u32 m.b.1, .int .i64 m.b.2, .int .u32 m.vv.1, .int .i64 m.vv.2]) (.int .i64 1)).run Tryz.prog w' = .ok (.agg #[.int .u32 m.vv.1, .int .i64 m.vv.2]) w' := fun _ => by kernel_rfl
  rcases hj3 with rfl | rfl | rfl
  ·
   have hjj : (0 : Int) < 2 := by decide
   obtain ⟨eB, heB⟩ : ∃ eB, balE m.b.1 m.b.2 = eB := ⟨_, rfl⟩
   have hTn : Hid (eB ≠ 0 → eB = q) := jH (fun hn => by rw [← hq1.out, heB, if_pos hn])
   have cb := jH (fun w' => cB.out m.b.1 m.b.2 w')
   rw [heB] at cb
   by_cases hB : eB = 0
   case neg =>
    have hd : (eB == 0) = false := by simpa using hB
    have hT : Hid (eB = q) := jH (hTn.out hB)
    clear heB
    go_wp2_with fail
    refine (cb.out _).mono ?_
    rintro e w2 ⟨rfl, hb2⟩
    have hG := (hb0v.alloc hzv _).trans (hb2.mono (by simp; omega))
    go_wp2
    go_ret
    exact ⟨jR hT.out, hG⟩
   subst hB
   replace heB := jH heB
   go_wp2_with fail
   refine (cb.out _).mono ?_
   rintro e w2 ⟨rfl, hb2⟩
   have hG := (hbr.alloc hbr.size _).trans (hb2.mono (by have := hbr.size; simp; omega))
   go_wp2
   go_roundg (3 - 1)
   case measure => omega
   case rel => exact ⟨1, by omega, rfl, rfl, fun _ => heB.out, by omega, hG⟩
  ·
   have hjj : (1 : Int) < 2 := by decide
   obtain ⟨eB, heB⟩ : ∃ eB, balE m.vv.1 m.vv.2 = eB := ⟨_, rfl⟩
   have hq1b : Hid ((if balE m.vv.1 m.vv.2 ≠ 0 then balE m.vv.1 m.vv.2 else if 1048576 < m.an then 2 else if errI (vchk m.av) ≠ 0 then errI (vchk m.av) else cmdErr m.c.val) = q) := jH (by
    have h := hq1.out
    rw [hj1H.out (by omega), if_neg (show ¬ ((0 : Int) ≠ 0) by simp)] at h
    exact h)
   have hTn : Hid (eB ≠ 0 → eB = q) := jH (fun hn => by rw [← hq1b.out, heB, if_pos hn])
   have cb := jH (fun w' => cB.out m.vv.1 m.vv.2 w')
   rw [heB] at cb
   by_cases hB : eB = 0
   case neg =>
    have hd : (eB == 0) = false := by simpa using hB
    have hT : Hid (eB = q) := jH (hTn.out hB)
    clear heB
    go_wp2_with fail
    refine (cb.out _).mono ?_
    rintro e w2 ⟨rfl, hb2⟩
    have hG := (hb0v.alloc hzv _).trans (hb2.mono (by simp; omega))
    go_wp2
    go_ret
    exact ⟨jR hT.out, hG⟩
   subst hB
   replace heB := jH heB
   go_wp2_with fail
   refine (cb.out _).mono ?_
   rintro e w2 ⟨rfl, hb2⟩
   have hG := (hbr.alloc hbr.size _).trans (hb2.mono (by have := hbr.size; simp; omega))
   go_wp2
   go_roundg (3 - 2)
   case measure => omega
   case rel => exact ⟨2, by omega, rfl, rfl, fun _ => hj1H.out (by omega), fun _ => heB.out, hG⟩
  ·
   have hq2 : Hid ((if 1048576 < m.an then 2 else if errI (vchk m.av) ≠ 0 then errI (vchk m.av) else cmdErr m.c.val) = q) := jH (by
    have h := hq1.out
    rw [hj1H.out (by omega), if_neg (show ¬ ((0 : Int) ≠ 0) by simp), hj2H.out (by omega), if_neg (show ¬ ((0 : Int) ≠ 0) by simp)] at h
    exact h)
   have hbA2 := jD hbAH.out hbr
   have hlA2 := jB hbA2
   have p35 := jA hbA2 35
   have p36 := jA hbA2 36
   have p37 := jA hbA2 37
   have p38 := jA hbA2 38
   have p39 := jA hbA2 39
   have p40 := jA hbA2 40
   have p41 := jA hbA2 41
   have p42 := jA hbA2 42
   have p43 := jA hbA2 43
   simp at p35 p36 p37 p38 p39 p40 p41 p42 p43
   clear hbA2
   by_cases hn : 1048576 < m.an
   ·
    have hd : decide ((1048576 : Int) < m.an) = true := decide_eq_true hn
    have hT : Hid ((2 : Int) = q) := jH (by rw [← hq2.out, if_pos hn])
    go_wp2
    go_ret
    exact ⟨jR hT.out, hb0v⟩
   have hd : decide ((1048576 : Int) < m.an) = false := decide_eq_false hn
   have hq3 : Hid ((if errI (vchk m.av) ≠ 0 then errI (vchk m.av) else cmdErr m.c.val) = q) := jH (by rw [← hq2.out, if_neg hn])
   obtain ⟨eV, heV⟩ : ∃ eV, errI (vchk m.av) = eV := ⟨_, rfl⟩
   rw [heV] at cV hq3
   clear heV
   by_cases hv : eV = 0
   case neg =>
    have hdv : (eV == 0) = false := by simpa using hv
    have hT : Hid (eV = q) := jH (by rw [← hq3.out, if_pos hv])
    go_wp2_with fail
    refine (cV.out _).mono ?_
    rintro e w2 ⟨rfl, hb2⟩
    have hG := hb0v.trans (hb2.mono hzv)
    clear p35 p36 p37 p38 p39 p40 p41 p42 p43
    go_wp2
    go_ret
    exact ⟨jR hT.out, hG⟩
   subst hv
   have hq4 : Hid (cmdErr m.c.val = q) := jH (by rw [← hq3.out, if_neg (by simp)])
   go_wp2_with fail
   refine (cV.out _).mono ?_
   rintro e w2 ⟨rfl, hb2⟩
   have hb02 := hb0v.trans (hb2.mono hzv)
   have hbA3 := jH (jD hbAH.out (hbr.trans (hb2.mono hbr.size)))
   clear p35 p36 p37 p38 p39 p40 p41 p42 p43
   go_upto_region 16 with (fail)
   refine wp_region_list ?_
   refine wpList_step (fun K hK => ?_)
   rw [if_pos (by kernel_rfl)]
   go_simp
   refine hK _ _ ?_
   clear hK K
   refine wpList_load_midG (by kernel_rfl) _ _ rfl (w.heap.size) 11 rfl ↑m.c _ (rangeQ hbA3.out 11 ↑m.c rfl) Tryz.underlying47 rfl (by kernel_rfl) ?_
   (try simp only [Act.put, List.setIfInBounds_toArray, List.set_cons_zero, List.set_cons_succ])
   go_wp2_with fail
   refine (cC.out _ hb02).mono ?_
   rintro e w3 ⟨rfl, hb3⟩
   have hG := hb02.trans (hb3.mono hb02.size)
   go_wp2
   go_ret
   exact ⟨jR hq4.out, hG⟩
end Go.Proofs.YtfhandglpjnonaaGreatDoor
