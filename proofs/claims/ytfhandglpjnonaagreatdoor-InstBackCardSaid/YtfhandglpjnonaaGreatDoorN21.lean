/- The document's CheckCmd. Which fields a message has: inst.form; the document's hasB, hasC, hasA, hasV. Messages; the document's hasB, hasC, hasA, hasV. inst.same: messages held against one another but for whose they are. -/
import Derived.Test.YtfhandglpjnonaaGreatDoorQf
import Derived.Deep.QuietTactic
import Derived.BigQuiet
set_option maxRecDepth 100000
set_option maxHeartbeats 16000000
namespace Go.Proofs.YtfhandglpjnonaaGreatDoor
open Go.RowKit
def hB (k : Int) : Bool := !(k == 5)
def hS (k : Int) : Bool := k == 7
def hV (k s : Int) : Bool := k == 7 && !(s == 0)
def hC (k s : Int) : Bool := k == 1 || k == 3 || k == 5 || hV k s
def hA (k s : Int) : Bool := hC k s || k == 2
theorem ret_has {a1 a2 a3 a4 a5 b1 b2 b3 b4 b5 : Bool} (h1 : a1 = b1) (h2 : a2 = b2) (h3 : a3 = b3) (h4 : a4 = b4) (h5 : a5 = b5) :
 Ending.returned (.agg #[.bool a1, .bool a2, .bool a3, .bool a4, .bool a5]) = .returned (.agg #[.bool b1, .bool b2, .bool b3, .bool b4, .bool b5]) := by rw [h1, h2, h3, h4, h5]
theorem form_any (k s : Int) (w : World) : Calls Tryz.prog 29 #[.int .i64 k, .int .i64 s] w fun e w' =>
 e = .returned (.agg #[.bool (hB k), .bool (hS k), .bool (hV k s), .bool (hC k s), .bool (hA k s)]) ∧ Below w.heap.size w w' := by
 by_cases h7 : k = 7
 ·
  subst h7
  by_cases hs : s = 0
  ·
   subst hs
   go_enter Tryz.func29, Tryz.ntmps29
   go_wp2
   exact bodyPost_ret (v := .agg #[.bool true, .bool true, .bool false, .bool false, .bool false]) (by simp [results, Tryz.results29, go_sem]) rfl ⟨ret_has (by simp [hB]) (by simp [hS]) (by simp [hV]) (by simp [hV, hC]) (by simp [hV, hC, hA]), ((Below.refl _ w).alloc (Nat.le_refl _) _).alloc (by simp) _⟩
  ·
   have hsd : (s == 0) = false := by simpa using hs
   go_enter Tryz.func29, Tryz.ntmps29
   go_wp2
   exact bodyPost_ret (v := .agg #[.bool true, .bool true, .bool true, .bool true, .bool true]) (by simp [results, Tryz.results29, go_sem]) rfl ⟨ret_has (by simp [hB]) (by simp [hS]) (by simp [hV, hsd]) (by simp [hV, hC, hsd]) (by simp [hV, hC, hA, hsd]), ((Below.refl _ w).alloc (Nat.le_refl _) _).alloc (by simp) _⟩
 have h7d : (k == 7) = false := by simpa using h7
 by_cases h1 : k = 1
 ·
  subst h1
  go_enter Tryz.func29, Tryz.ntmps29
  go_wp2
  exact bodyPost_ret (v := .agg #[.bool true, .bool false, .bool false, .bool true, .bool true]) (by simp [results, Tryz.results29, go_sem]) rfl ⟨ret_has (by simp [hB]) (by simp [hS]) (by simp [hV]) (by simp [hV, hC]) (by simp [hV, hC, hA]), ((Below.refl _ w).alloc (Nat.le_refl _) _).alloc (by simp) _⟩
 have h1d : (k == 1) = false := by simpa using h1
 by_cases h3 : k = 3
 ·
  subst h3
  go_enter Tryz.func29, Tryz.ntmps29
  go_wp2
  exact bodyPost_ret (v := .agg #[.bool true, .bool false, .bool false, .bool true, .bool true]) (by simp [results, Tryz.results29, go_sem]) rfl ⟨ret_has (by simp [hB]) (by simp [hS]) (by simp [hV]) (by simp [hV, hC]) (by simp [hV, hC, hA]), ((Below.refl _ w).alloc (Nat.le_refl _) _).alloc (by simp) _⟩
 have h3d : (k == 3) = false := by simpa using h3
 by_cases h5 : k = 5
 ·
  subst h5
  go_enter Tryz.func29, Tryz.ntmps29
  go_wp2
  exact bodyPost_ret (v := .agg #[.bool false, .bool false, .bool false, .bool true, .bool true]) (by simp [results, Tryz.results29, go_sem]) rfl ⟨ret_has (by simp [hB]) (by simp [hS]) (by simp [hV]) (by simp [hV, hC]) (by simp [hV, hC, hA]), ((Below.refl _ w).alloc (Nat.le_refl _) _).alloc (by simp) _⟩
 have h5d : (k == 5) = false := by simpa using h5
 by_cases h2 : k = 2
 ·
  subst h2
  go_enter Tryz.func29, Tryz.ntmps29
  go_wp2
  exact bodyPost_ret (v := .agg #[.bool true, .bool false, .bool false, .bool false, .bool true]) (by simp [results, Tryz.results29, go_sem]) rfl ⟨ret_has (by simp [hB]) (by simp [hS]) (by simp [hV]) (by simp [hV, hC]) (by simp [hV, hC, hA]), ((Below.refl _ w).alloc (Nat.le_refl _) _).alloc (by simp) _⟩
 have h2d : (k == 2) = false := by simpa using h2
 have h5n : (k != 5) = true := by simpa using h5
 go_enter Tryz.func29, Tryz.ntmps29
 go_wp2
 exact bodyPost_ret (v := .agg #[.bool true, .bool false, .bool false, .bool false, .bool false]) (by simp [results, Tryz.results29, go_sem]) rfl ⟨ret_has (by simp [hB, h5d]) (by simp [hS, h7d]) (by simp [hV, h7d]) (by simp [hV, hC, h7d, h1d, h3d, h5d]) (by simp [hV, hC, hA, h7d, h1d, h3d, h5d, h2d]), ((Below.refl _ w).alloc (Nat.le_refl _) _).alloc (by simp) _⟩
structure Mm where
 kd : Int
 fr : Int
 dst : Int
 ep : Int
 i : Im
 b : Int × Int
 st : Int
 vv : Int × Int
 c : Cm
 an : Int
 av : Vm
instance : Coe Mm (Array Value) := ⟨fun m => #[.int .i64 m.kd, .int .i64 m.fr, .int .i64 m.dst, .int .u32 m.ep, .int .i64 m.i.1, .int .u32 m.i.2, .int .u32 m.b.1, .int .i64 m.b.2, .int .i64 m.st, .int .u32 m.vv.1, .int .i64 m.vv.2, .int .i64 m.c.kd, .int .i64 m.c.x.1, .int .u32 m.c.x.2, .int .u32 m.c.v.d0, .int .u32 m.c.v.d1, .int .u32 m.c.v.d2, .int .u32 m.c.v.d3, .int .u32 m.c.v.d4, .int .u32 m.c.v.d5, .int .u32 m.c.v.d6, .int .u32 m.c.v.d7, .bool m.c.t, .slice m.c.T m.c.k m.c.kc, .int .i64 m.c.sn, .int .i64 m.c.wh, .slice m.c.B m.c.m m.c.mc, .int .u32 m.c.u.d0, .int .u32 m.c.u.d1, .int .u32 m.c.u.d2, .int .u32 m.c.u.d3, .int .u32 m.c.u.d4, .int .u32 m.c.u.d5, .int .u32 m.c.u.d6, .int .u32 m.c.u.d7, .int .u32 m.an, .int .u32 m.av.d0, .int .u32 m.av.d1, .int .u32 m.av.d2, .int .u32 m.av.d3, .int .u32 m.av.d4, .int .u32 m.av.d5, .int .u32 m.av.d6, .int .u32 m.av.d7]⟩
theorem wpList_load_midG {P : Program} {ops : Array Oper} {rest : List Oper} {o : Oper} {a : Act} {w : World} {Q : Exit → Act → World → Prop} (hw : Region.wanted o (yielded ops a.tmps) = true) (ty : TypeId) (x : Operand) (ho : o.op = .load ty x)
 (b k : Nat) (hx : a.eval x = .pointer (some ⟨b, k, none⟩)) (cs : List Value) (d : TypeDesc) (hc : w.rangeAt b k cs)
 (hu : P.underlying ty = some d) (hd : d.isRow = true) (hi : (P.info? ty).map (·.size) = some cs.length)
 (h : wpList P ops Q rest (a.put o.dst (.agg cs.toArray)) w) : wpList P ops Q (o :: rest) a w :=
 wpList_step fun K hK => by
  rw [if_pos hw]
  exact wp_load_mid ty x ho b k hx cs d hc hu hd hi (hK _ _ h)
theorem rangeQ {w : World} {b : Nat} {cs : Array Value} {t : TypeId} {fr : Nat × Nat} (h : w.heap[b]? = some (.cells cs t fr)) (k : Nat) (l : List Value) (hl : (cs.toList.drop k).take l.length = l) : w.rangeAt b k l := fun j v hv => by
 have h1 : (cs.toList.drop k)[j]? = some v := by
  have hj := (List.getElem?_eq_some_iff.1 hv).1
  rw [← hl, List.getElem?_take_of_lt hj] at hv
  exact hv
 rw [cell_of_row _ _ _ cs t fr h]
 rw [List.getElem?_drop] at h1
 simpa using h1
theorem run_eqin_ints {P : Program} {t e : TypeId} {n d : Nat} {i : TypeInfo} {k : IntKind} (hu : P.underlying t = some (.array n e)) (hi : P.info? e = some i) (hs : P.cellsOf e = 1)
 (he : P.underlying e = some (.int k)) (xs ys : List Int) (hx : xs.length = n) (hy : ys.length = n) (w : World) :
 (Op.equalIn (d + 1 + 1) t (.agg (xs.map (Value.int k)).toArray) (.agg (ys.map (Value.int k)).toArray)).run P w = .ok (xs == ys) w := by
 rw [run_equalIn_array w _ _ _ hu hi, hs, run_eqItems_ints d he xs ys w _ (by intro j hj; have := List.mem_range.1 hj; omega)]
 have := range_all_beq xs ys (by omega)
 rw [hx] at this
 rw [this]
theorem eqin9 (a b : Vm) (w : World) : (Op.equalIn 9999 28 (.agg ↑a) (.agg ↑b)).run Tryz.prog w = .ok (eqV a b) w := by
 have h := run_eqin_ints (P := Tryz.prog) (d := 9997) (t := 28) (k := .u32) Tryz.underlying28 (Option.eq_some_of_isSome (by kernel_rfl)) (by kernel_rfl) Tryz.underlying22 [a.d0, a.d1, a.d2, a.d3, a.d4, a.d5, a.d6, a.d7] [b.d0, b.d1, b.d2, b.d3, b.d4, b.d5, b.d6, b.d7] rfl rfl w
 exact h
def sameMm (m n : Mm) : Bool := decide (m.b.1 = n.b.1) && (decide (m.b.2 = n.b.2) && (decide (m.st = n.st) && (decide (m.vv.1 = n.vv.1) && (decide (m.vv.2 = n.vv.2) && (decide (m.an = n.an) && (eqV m.av n.av && sameCv m.c.val n.c.val))))))
theorem sameP_any (m n : Mm) (w : World) (hA : m.c.Ok w w.heap.size) (hB : n.c.Ok w w.heap.size) :
 Calls Tryz.prog 28 #[.agg ↑m, .agg ↑n] w fun e w' => e = .returned (.bool (sameMm m n)) ∧ Below w.heap.size w w' := by
 generalize hr : sameMm m n = q
 unfold sameMm at hr
 have cS := jH (fun w' (h : Below w.heap.size w w') => scmdP_any m.c n.c w' ((hA.below h).more h.size) ((hB.below h).more h.size))
 have hb0 : Below w.heap.size w ((w.alloc (.cells ↑m 50)).alloc (.cells ↑n 50)) := ((Below.refl _ w).alloc (Nat.le_refl _) _).alloc (by simp) _
 have hbA : ((w.alloc (.cells ↑m 50)).alloc (.cells ↑n 50)).heap[w.heap.size]? = some (.cells ↑m 50 (0, 0)) := yE _ (by simp) (jT _ _ rfl)
 have hbB : ((w.alloc (.cells ↑m 50)).alloc (.cells ↑n 50)).heap[w.heap.size + 1]? = some (.cells ↑n 50 (0, 0)) := jT _ _ (by simp)
 generalize hW : ((w.alloc (.cells ↑m 50)).alloc (.cells ↑n 50)) = W at hb0 hbA hbB
 have hz0 := hb0.size
 have hltA := jB hbA
 have hltB := jB hbB
 have p6 := jA hbA 6
 have p7 := jA hbA 7
 have p8 := jA hbA 8
 have p9 := jA hbA 9
 have p10 := jA hbA 10
 have q6 := jA hbB 6
 have q7 := jA hbB 7
 have q8 := jA hbB 8
 have q9 := jA hbB 9
 have q10 := jA hbB 10
 have p35 := jA hbA 35
 have p36 := jA hbA 36
 have p37 := jA hbA 37
 have p38 := jA hbA 38
 have p39 := jA hbA 39
 have p40 := jA hbA 40
 have p41 := jA hbA 41
 have p42 := jA hbA 42
 have p43 := jA hbA 43
 have q35 := jA hbB 35
 have q36 := jA hbB 36
 have q37 := jA hbB 37
 have q38 := jA hbB 38
 have q39 := jA hbB 39
 have q40 := jA hbB 40
 have q41 := jA hbB 41
 have q42 := jA hbB 42
 have q43 := jA hbB 43
 simp at p6 p7 p8 p9 p10 p35 p36 p37 p38 p39 p40 p41 p42 p43 q6 q7 q8 q9 q10 q35 q36 q37 q38 q39 q40 q41 q42 q43
 have hbAH := jH hbA
 have hbBH := jH hbB
 have hrH := jH hr
 have hne := eqin9 m.av n.av
 clear hbA hbB hr hA hB
 obtain ⟨kd, fr, dst, ep, ⟨i1, i2⟩, ⟨b1, b2⟩, st, ⟨v1, v2⟩, c, an, av⟩ := m
 obtain ⟨ld, gr, est, fp, ⟨j1, j2⟩, ⟨c1, c2⟩, tt, ⟨u1, u2⟩, d, bn, bv⟩ := n
 dsimp only at *
 by_cases h0 : b1 = c1
 case neg =>
  have hT : Hid (false = q) := jH (by rw [← hrH.out]; simp [h0])
  clear hne
  go_enter Tryz.func28, Tryz.ntmps28
  go_wp2
  go_ret
  exact ⟨jQ hT.out, hb0⟩
 subst h0
 by_cases h1 : b2 = c2
 case neg =>
  have hT : Hid (false = q) := jH (by rw [← hrH.out]; simp [h1])
  clear hne
  go_enter Tryz.func28, Tryz.ntmps28
  go_wp2
  go_ret
  exact ⟨jQ hT.out, hb0⟩
 subst h1
 by_cases h2 : st = tt
 case neg =>
  have hT : Hid (false = q) := jH (by rw [← hrH.out]; simp [h2])
  clear hne
  go_enter Tryz.func28, Tryz.ntmps28
  go_wp2
  go_ret
  exact ⟨jQ hT.out, hb0⟩
 subst h2
 by_cases h3 : v1 = u1
 case neg =>
  have hT : Hid (false = q) := jH (by rw [← hrH.out]; simp [h3])
  clear hne
  go_enter Tryz.func28, Tryz.ntmps28
  go_wp2
  go_ret
  exact ⟨jQ hT.out, hb0⟩
 subst h3
 by_cases h4 : v2 = u2
 case neg =>
  have hT : Hid (false = q) := jH (by rw [← hrH.out]; simp [h4])
  clear hne
  go_enter Tryz.func28, Tryz.ntmps28
  go_wp2
  go_ret
  exact ⟨jQ hT.out, hb0⟩
 subst h4
 by_cases h5 : an = bn
 case neg =>
  have hT : Hid (false = q) := jH (by rw [← hrH.out]; simp [h5])
  clear hne
  go_enter Tryz.func28, Tryz.ntmps28
  go_wp2
  go_ret
  exact ⟨jQ hT.out, hb0⟩
 subst h5
 cases hv : eqV av bv with
 | false =>
  rw [hv] at hne
  have hT : Hid (false = q) := jH (by rw [← hrH.out, hv]; simp)
  clear hv
  go_enter Tryz.func28, Tryz.ntmps28
  go_wp2
  go_ret
  exact ⟨jQ hT.out, hb0⟩
 | true =>
 rw [hv] at hne
 have hq2 : Hid (sameCv c.val d.val = q) := jH (by rw [← hrH.out, hv]; simp)
 clear hv
 generalize sameCv c.val d.val = bC at cS hq2
 go_enter Tryz.func28, Tryz.ntmps28
 go_upto_region 1 with (fail)
 refine wp_region_list ?_
 refine wpList_step (fun K hK => ?_)
 rw [if_pos (by kernel_rfl)]
 go_simp
 refine hK _ _ ?_
 clear hK K
 refine wpList_step (fun K hK => ?_)
 rw [if_pos (by kernel_rfl)]
 go_simp
 refine hK _ _ ?_
 clear hK K
 refine wpList_step (fun K hK => ?_)
 rw [if_pos (by kernel_rfl)]
 go_simp
 refine hK _ _ ?_
 clear hK K
 refine wpList_step (fun K hK => ?_)
 rw [if_pos (by kernel_rfl)]
 go_simp
 refine hK _ _ ?_
 clear hK K
 refine wpList_step (fun K hK => ?_)
 rw [if_pos (by kernel_rfl)]
 go_simp
 refine hK _ _ ?_
 clear hK K
 refine wpList_step (fun K hK => ?_)
 rw [if_pos (by kernel_rfl)]
 go_simp
 refine hK _ _ ?_
 clear hK K
 refine wpList_step (fun K hK => ?_)
 rw [if_pos (by kernel_rfl)]
 go_simp
 refine hK _ _ ?_
 clear hK K
 refine wpList_step (fun K hK => ?_)
 rw [if_pos (by kernel_rfl)]
 go_simp
 refine hK _ _ ?_
 clear hK K
 refine wpList_step (fun K hK => ?_)
 rw [if_pos (by kernel_rfl)]
 go_simp
 refine hK _ _ ?_
 clear hK K
 refine wpList_step (fun K hK => ?_)
 rw [if_pos (by kernel_rfl)]
 go_simp
 refine hK _ _ ?_
 clear hK K
 refine wpList_step (fun K hK => ?_)
 rw [if_pos (by kernel_rfl)]
 go_simp
 refine hK _ _ ?_
 clear hK K
 refine wpList_step (fun K hK => ?_)
 rw [if_pos (by kernel_rfl)]
 go_simp
 refine hK _ _ ?_
 clear hK K
 refine wpList_step (fun K hK => ?_)
 rw [if_pos (by kernel_rfl)]
 go_simp
 refine hK _ _ ?_
 clear hK K
 refine wpList_step (fun K hK => ?_)
 rw [if_pos (by kernel_rfl)]
 go_simp
 refine hK _ _ ?_
 clear hK K
 refine wpList_step (fun K hK => ?_)
 rw [if_pos (by kernel_rfl)]
 go_simp
 refine hK _ _ ?_
 clear hK K
 refine wpList_step (fun K hK => ?_)
 rw [if_pos (by kernel_rfl)]
 go_simp
 refine hK _ _ ?_
 clear hK K
 refine wpList_step (fun K hK => ?_)
 rw [if_pos (by kernel_rfl)]
 go_simp
 refine hK _ _ ?_
 clear hK K
 refine wpList_step (fun K hK => ?_)
 rw [if_pos (by kernel_rfl)]
 go_simp
 refine hK _ _ ?_
 clear hK K
 refine wpList_step (fun K hK => ?_)
 rw [if_pos (by kernel_rfl)]
 go_simp
 refine hK _ _ ?_
 clear hK K
 refine wpList_step (fun K hK => ?_)
 rw [if_pos (by kernel_rfl)]
 go_simp
 refine hK _ _ ?_
 clear hK K
 refine wpList_step (fun K hK => ?_)
 rw [if_pos (by kernel_rfl)]
 go_simp
 refine hK _ _ ?_
 clear hK K
 refine wpList_step (fun K hK => ?_)
 rw [if_pos (by kernel_rfl)]
 go_simp
 refine hK _ _ ?_
 clear hK K
 refine wpList_step (fun K hK => ?_)
 rw [if_pos (by kernel_rfl)]
 go_simp
 refine hK _ _ ?_
 clear hK K
 refine wpList_step (fun K hK => ?_)
 rw [if_pos (by kernel_rfl)]
 go_simp
 refine hK _ _ ?_
 clear hK K
 refine wpList_step (fun K hK => ?_)
 rw [if_pos (by kernel_rfl)]
 go_simp
 refine hK _ _ ?_
 clear hK K
 refine wpList_step (fun K hK => ?_)
 rw [if_pos (by kernel_rfl)]
 go_simp
 refine hK _ _ ?_
 clear hK K
 refine wpList_step (fun K hK => ?_)
 rw [if_pos (by kernel_rfl)]
 go_simp
 refine hK _ _ ?_
 clear hK K
 refine wpList_step (fun K hK => ?_)
 rw [if_pos (by kernel_rfl)]
 go_simp
 refine hK _ _ ?_
 clear hK K
 refine wpList_load_midG (by kernel_rfl) _ _ rfl (w.heap.size) 11 rfl ↑c _ (rangeQ hbAH.out 11 ↑c rfl) Tryz.underlying47 rfl (by kernel_rfl) ?_
 refine wpList_step (fun K hK => ?_)
 rw [if_pos (by kernel_rfl)]
 go_simp
 refine hK _ _ ?_
 clear hK K
 refine wpList_load_midG (by kernel_rfl) _ _ rfl (w.heap.size + 1) 11 rfl ↑d _ (rangeQ hbBH.out 11 ↑d rfl) Tryz.underlying47 rfl (by kernel_rfl) ?_
 (try simp only [Act.put, List.setIfInBounds_toArray, List.set_cons_zero, List.set_cons_succ])
 go_wp2_with fail
 refine (cS.out _ hb0).mono ?_
 rintro e w2 ⟨rfl, hb2⟩
 have hG := hb0.trans (hb2.mono hz0)
 clear p6 p7 p8 p9 p10 p35 p36 p37 p38 p39 p40 p41 p42 p43 q6 q7 q8 q9 q10 q35 q36 q37 q38 q39 q40 q41 q42 q43
 go_wp2
 go_ret
 exact ⟨jQ hq2.out, hG⟩
end Go.Proofs.YtfhandglpjnonaaGreatDoor
