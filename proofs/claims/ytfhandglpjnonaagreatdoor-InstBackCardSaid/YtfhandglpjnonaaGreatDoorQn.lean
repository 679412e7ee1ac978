/- inst.Check: what is wrong with a message. -/
import Derived.Test.YtfhandglpjnonaaGreatDoorN22
import Derived.Deep.QuietTactic
import Derived.BigQuiet
namespace Go.Proofs.YtfhandglpjnonaaGreatDoor
open Go.RowKit
def rangeBad (m : Mm) : Bool := !membP m.fr || !membP m.dst || decide (1048576 < m.ep) || decide (m.st < 0) || decide (4 < m.st)
def keptM (m : Mm) : Mm := onlyM (hB m.kd) (hS m.kd) (hV m.kd m.st) (hC m.kd m.st) (hA m.kd m.st) m
def msgErr (m : Mm) : Int := if m.kd < 1 then 5 else if 8 < m.kd then 5 else if rangeBad m = true then 2 else if fieldsE m ≠ 0 then fieldsE m else if sameMm (keptM m) m = true then 0 else 3
theorem zCm_ok (w : World) (B : Nat) : zCm.Ok w B := ⟨RdE.nil_, Rd.nil_, Nat.zero_le _, Nat.zero_le _, by simp [zCm]⟩
theorem onlyM_ok {hb hs hv hc ha : Bool} {m : Mm} {w : World} {B : Nat} (h : m.c.Ok w B) : (onlyM hb hs hv hc ha m).c.Ok w B := by
 cases hc with
 | true => exact h
 | false => exact zCm_ok w B
theorem yields_row {P : Program} {ops : Array Oper} {C : World → Prop} {oi : Oper} {a : Act} {ty : TypeId} {x : Operand} (hw : Region.wanted oi (yielded ops a.tmps) = true) (ho : oi.op = .load ty x) (g : Nat) (hx : a.eval x = .pointer (some ⟨g, 0, none⟩))
 (t : TypeId) (cs : Array Value) (fr : Nat × Nat) (d : TypeDesc) (hg : ∀ w, C w → w.heap[g]? = some (.cells cs t fr)) (hu : P.underlying ty = some d) (hd : (match d with | .struct _ | .array _ _ => true | _ => false) = true) (hi : (P.info? ty).map (·.size) = some cs.size) :
 YieldsIf P ops C oi (.agg cs) a := Or.inl ⟨hw, fun w hC => by
  unfold execOp
  simp only [ho, hx, Instr.loadAt, Instr.sureAddr, Sem.run_bind, Sem.run_pure, Result.andThen_ok, run_loadVar_row w g t ty cs fr d (hg w hC) hu hd hi]⟩
set_option maxRecDepth 100000 in
set_option maxHeartbeats 16000000 in
theorem imchk_any (m : Mm) (w : World) (hF : m.Fit w) (hVM : VarM w) :
 Calls Tryz.prog 7 #[.agg ↑m] w fun e w' => e = .returned (.int .i64 (msgErr m)) ∧ Below w.heap.size w w' := by
 generalize hr : msgErr m = q
 unfold msgErr at hr
 have cM := jH (fun n w' => member_any n w')
 have cF := jH (fun w' (h : Below w.heap.size w w') => fields_any m w' (hF.below h) (hVM.below h hVM.lt))
 have cG := jH (fun w' => form_any m.kd m.st w')
 have cO := jH (fun hb hs hv hc ha w' => only_any hb hs hv hc ha m w')
 have cS := jH (fun hb hs hv hc ha w' (h : Below w.heap.size w w') => sameP_any (onlyM hb hs hv hc ha m) m w' (onlyM_ok ((hF.c.ok.below h).more h.size)) ((hF.c.ok.below h).more h.size))
 have hb0 : Below w.heap.size w (w.alloc (.cells ↑m 50)) := (Below.refl _ w).alloc (Nat.le_refl _) _
 have hbA : (w.alloc (.cells ↑m 50)).heap[w.heap.size]? = some (.cells ↑m 50 (0, 0)) := jT _ _ rfl
 generalize hW : (w.alloc (.cells ↑m 50)) = W at hb0 hbA
 have hz0 := hb0.size
 have hltA := jB hbA
 have p0 := jA hbA 0
 have p1 := jA hbA 1
 have p2 := jA hbA 2
 have p3 := jA hbA 3
 have p8 := jA hbA 8
 simp at p0 p1 p2 p3 p8
 have hbAH := jH hbA
 have hrH := jH hr
 clear hbA hr hF hVM
 by_cases h1 : m.kd < 1
 case pos =>
  have h1d : decide (m.kd < 1) = true := decide_eq_true h1
  have hT : Hid ((5 : Int) = q) := jH (by rw [← hrH.out, if_pos h1])
  clear h1
  go_enter Tryz.func7, Tryz.ntmps7
  go_wp2
  go_ret
  exact ⟨jR hT.out, hb0⟩
 have h1d : decide (m.kd < 1) = false := decide_eq_false h1
 by_cases h8 : 8 < m.kd
 case pos =>
  have h8d : decide (8 < m.kd) = true := decide_eq_true h8
  have hT : Hid ((5 : Int) = q) := jH (by rw [← hrH.out, if_neg h1, if_pos h8])
  clear h1 h8
  go_enter Tryz.func7, Tryz.ntmps7
  go_wp2
  go_ret
  exact ⟨jR hT.out, hb0⟩
 have h8d : decide (8 < m.kd) = false := decide_eq_false h8
 have hq1 : Hid ((if rangeBad m = true then 2 else if fieldsE m ≠ 0 then fieldsE m else if sameMm (keptM m) m = true then 0 else 3) = q) := jH (by rw [← hrH.out, if_neg h1, if_neg h8])
 clear h1 h8
 cases hf : membP m.fr with
 | false =>
  have hT : Hid ((2 : Int) = q) := jH (by rw [← hq1.out, if_pos (by simp [rangeBad, hf])])
  have c1 := jH (fun w' => cM.out m.fr w')
  rw [hf] at c1
  clear hf
  go_enter Tryz.func7, Tryz.ntmps7
  go_wp2_with fail
  refine (c1.out _).mono ?_
  rintro e w1 ⟨rfl, hb1⟩
  have hG := hb0.trans (hb1.mono hz0)
  go_wp2
  go_ret
  exact ⟨jR hT.out, hG⟩
 | true =>
 cases hd : membP m.dst with
 | false =>
  have hT : Hid ((2 : Int) = q) := jH (by rw [← hq1.out, if_pos (by simp [rangeBad, hd])])
  have c1 := jH (fun w' => cM.out m.fr w')
  have c2 := jH (fun w' => cM.out m.dst w')
  rw [hf] at c1
  rw [hd] at c2
  clear hf hd
  go_enter Tryz.func7, Tryz.ntmps7
  go_wp2_with fail
  refine (c1.out _).mono ?_
  rintro e w1 ⟨rfl, hb1⟩
  have hG1 := hb0.trans (hb1.mono hz0)
  replace p0 := (hb1.cell (p := ⟨w.heap.size, 0, none⟩) (by show w.heap.size < _; omega)).trans p0
  replace p1 := (hb1.cell (p := ⟨w.heap.size, 1, none⟩) (by show w.heap.size < _; omega)).trans p1
  replace p2 := (hb1.cell (p := ⟨w.heap.size, 2, none⟩) (by show w.heap.size < _; omega)).trans p2
  replace p3 := (hb1.cell (p := ⟨w.heap.size, 3, none⟩) (by show w.heap.size < _; omega)).trans p3
  replace p8 := (hb1.cell (p := ⟨w.heap.size, 8, none⟩) (by show w.heap.size < _; omega)).trans p8
  go_wp2_with fail
  refine (c2.out _).mono ?_
  rintro e w2 ⟨rfl, hb2⟩
  have hG := hG1.trans (hb2.mono hG1.size)
  go_wp2
  go_ret
  exact ⟨jR hT.out, hG⟩
 | true =>
 have c1 := jH (fun w' => cM.out m.fr w')
 have c2 := jH (fun w' => cM.out m.dst w')
 rw [hf] at c1
 rw [hd] at c2
 by_cases he : 1048576 < m.ep
 case pos =>
  have hed : decide (1048576 < m.ep) = true := decide_eq_true he
  have hT : Hid ((2 : Int) = q) := jH (by rw [← hq1.out, if_pos (by simp [rangeBad, he])])
  clear hf hd he
  go_enter Tryz.func7, Tryz.ntmps7
  go_wp2_with fail
  refine (c1.out _).mono ?_
  rintro e w1 ⟨rfl, hb1⟩
  have hG1 := hb0.trans (hb1.mono hz0)
  replace p0 := (hb1.cell (p := ⟨w.heap.size, 0, none⟩) (by show w.heap.size < _; omega)).trans p0
  replace p1 := (hb1.cell (p := ⟨w.heap.size, 1, none⟩) (by show w.heap.size < _; omega)).trans p1
  replace p2 := (hb1.cell (p := ⟨w.heap.size, 2, none⟩) (by show w.heap.size < _; omega)).trans p2
  replace p3 := (hb1.cell (p := ⟨w.heap.size, 3, none⟩) (by show w.heap.size < _; omega)).trans p3
  replace p8 := (hb1.cell (p := ⟨w.heap.size, 8, none⟩) (by show w.heap.size < _; omega)).trans p8
  have hl1 := hb1.size
  go_wp2_with fail
  refine (c2.out _).mono ?_
  rintro e w2 ⟨rfl, hb2⟩
  replace p0 := (hb2.cell (p := ⟨w.heap.size, 0, none⟩) (by show w.heap.size < _; omega)).trans p0
  replace p1 := (hb2.cell (p := ⟨w.heap.size, 1, none⟩) (by show w.heap.size < _; omega)).trans p1
  replace p2 := (hb2.cell (p := ⟨w.heap.size, 2, none⟩) (by show w.heap.size < _; omega)).trans p2
  replace p3 := (hb2.cell (p := ⟨w.heap.size, 3, none⟩) (by show w.heap.size < _; omega)).trans p3
  replace p8 := (hb2.cell (p := ⟨w.heap.size, 8, none⟩) (by show w.heap.size < _; omega)).trans p8
  have hG := hG1.trans (hb2.mono hG1.size)
  go_wp2
  go_ret
  exact ⟨jR hT.out, hG⟩
 have hed : decide (1048576 < m.ep) = false := decide_eq_false he
 by_cases hs : m.st < 0
 case pos =>
  have hsd : decide (m.st < 0) = true := decide_eq_true hs
  have hT : Hid ((2 : Int) = q) := jH (by rw [← hq1.out, if_pos (by simp [rangeBad, hs])])
  clear hf hd he hs
  go_enter Tryz.func7, Tryz.ntmps7
  go_wp2_with fail
  refine (c1.out _).mono ?_
  rintro e w1 ⟨rfl, hb1⟩
  have hG1 := hb0.trans (hb1.mono hz0)
  replace p0 := (hb1.cell (p := ⟨w.heap.size, 0, none⟩) (by show w.heap.size < _; omega)).trans p0
  replace p1 := (hb1.cell (p := ⟨w.heap.size, 1, none⟩) (by show w.heap.size < _; omega)).trans p1
  replace p2 := (hb1.cell (p := ⟨w.heap.size, 2, none⟩) (by show w.heap.size < _; omega)).trans p2
  replace p3 := (hb1.cell (p := ⟨w.heap.size, 3, none⟩) (by show w.heap.size < _; omega)).trans p3
  replace p8 := (hb1.cell (p := ⟨w.heap.size, 8, none⟩) (by show w.heap.size < _; omega)).trans p8
  have hl1 := hb1.size
  go_wp2_with fail
  refine (c2.out _).mono ?_
  rintro e w2 ⟨rfl, hb2⟩
  replace p0 := (hb2.cell (p := ⟨w.heap.size, 0, none⟩) (by show w.heap.size < _; omega)).trans p0
  replace p1 := (hb2.cell (p := ⟨w.heap.size, 1, none⟩) (by show w.heap.size < _; omega)).trans p1
  replace p2 := (hb2.cell (p := ⟨w.heap.size, 2, none⟩) (by show w.heap.size < _; omega)).trans p2
  replace p3 := (hb2.cell (p := ⟨w.heap.size, 3, none⟩) (by show w.heap.size < _; omega)).trans p3
  replace p8 := (hb2.cell (p := ⟨w.heap.size, 8, none⟩) (by show w.heap.size < _; omega)).trans p8
  have hG := hG1.trans (hb2.mono hG1.size)
  go_wp2
  go_ret
  exact ⟨jR hT.out, hG⟩
 have hsd : decide (m.st < 0) = false := decide_eq_false hs
 by_cases h4 : 4 < m.st
 case pos =>
  have h4d : decide (4 < m.st) = true := decide_eq_true h4
  have hT : Hid ((2 : Int) = q) := jH (by rw [← hq1.out, if_pos (by simp [rangeBad, h4])])
  clear hf hd he hs h4
  go_enter Tryz.func7, Tryz.ntmps7
  go_wp2_with fail
  refine (c1.out _).mono ?_
  rintro e w1 ⟨rfl, hb1⟩
  have hG1 := hb0.trans (hb1.mono hz0)
  replace p0 := (hb1.cell (p := ⟨w.heap.size, 0, none⟩) (by show w.heap.size < _; omega)).trans p0
  replace p1 := (hb1.cell (p := ⟨w.heap.size, 1, none⟩) (by show w.heap.size < _; omega)).trans p1
  replace p2 := (hb1.cell (p := ⟨w.heap.size, 2, none⟩) (by show w.heap.size < _; omega)).trans p2
  replace p3 := (hb1.cell (p := ⟨w.heap.size, 3, none⟩) (by show w.heap.size < _; omega)).trans p3
  replace p8 := (hb1.cell (p := ⟨w.heap.size, 8, none⟩) (by show w.heap.size < _; omega)).trans p8
  have hl1 := hb1.size
  go_wp2_with fail
  refine (c2.out _).mono ?_
  rintro e w2 ⟨rfl, hb2⟩
  replace p0 := (hb2.cell (p := ⟨w.heap.size, 0, none⟩) (by show w.heap.size < _; omega)).trans p0
  replace p1 := (hb2.cell (p := ⟨w.heap.size, 1, none⟩) (by show w.heap.size < _; omega)).trans p1
  replace p2 := (hb2.cell (p := ⟨w.heap.size, 2, none⟩) (by show w.heap.size < _; omega)).trans p2
  replace p3 := (hb2.cell (p := ⟨w.heap.size, 3, none⟩) (by show w.heap.size < _; omega)).trans p3
  replace p8 := (hb2.cell (p := ⟨w.heap.size, 8, none⟩) (by show w.heap.size < _; omega)).trans p8
  have hG := hG1.trans (hb2.mono hG1.size)
  go_wp2
  go_ret
  exact ⟨jR hT.out, hG⟩
 have h4d : decide (4 < m.st) = false := decide_eq_false h4
 have hrb : rangeBad m = false := by unfold rangeBad; rw [hf, hd, decide_eq_false he, decide_eq_false hs, decide_eq_false h4]; rfl
 have hq2 : Hid ((if fieldsE m ≠ 0 then fieldsE m else if sameMm (keptM m) m = true then 0 else 3) = q) := jH (by have h := hq1.out; rw [hrb, if_neg (show ¬ (false = true) by decide)] at h; exact h)
 clear hrb
 clear hf hd he hs h4
 generalize fieldsE m = eF at cF hq2
 go_enter Tryz.func7, Tryz.ntmps7
 go_wp2_with fail
 refine (c1.out _).mono ?_
 rintro e w1 ⟨rfl, hb1⟩
 have hG1 := hb0.trans (hb1.mono hz0)
 replace p0 := (hb1.cell (p := ⟨w.heap.size, 0, none⟩) (by show w.heap.size < _; omega)).trans p0
 replace p1 := (hb1.cell (p := ⟨w.heap.size, 1, none⟩) (by show w.heap.size < _; omega)).trans p1
 replace p2 := (hb1.cell (p := ⟨w.heap.size, 2, none⟩) (by show w.heap.size < _; omega)).trans p2
 replace p3 := (hb1.cell (p := ⟨w.heap.size, 3, none⟩) (by show w.heap.size < _; omega)).trans p3
 replace p8 := (hb1.cell (p := ⟨w.heap.size, 8, none⟩) (by show w.heap.size < _; omega)).trans p8
 have hl1 := hb1.size
 go_wp2_with fail
 refine (c2.out _).mono ?_
 rintro e w2 ⟨rfl, hb2⟩
 replace p0 := (hb2.cell (p := ⟨w.heap.size, 0, none⟩) (by show w.heap.size < _; omega)).trans p0
 replace p1 := (hb2.cell (p := ⟨w.heap.size, 1, none⟩) (by show w.heap.size < _; omega)).trans p1
 replace p2 := (hb2.cell (p := ⟨w.heap.size, 2, none⟩) (by show w.heap.size < _; omega)).trans p2
 replace p3 := (hb2.cell (p := ⟨w.heap.size, 3, none⟩) (by show w.heap.size < _; omega)).trans p3
 replace p8 := (hb2.cell (p := ⟨w.heap.size, 8, none⟩) (by show w.heap.size < _; omega)).trans p8
 have hG := hG1.trans (hb2.mono hG1.size)
 have hbA2 := jH (jD hbAH.out (hb1.trans (hb2.mono hb1.size)))
 have hl2 := jB hbA2.out
 go_upto_region 5 with (fail)
 clear p0 p1 p2 p3 p8
 refine wp_region_list ?_
 refine wpList_load_row rfl _ _ rfl (w.heap.size) rfl 50 _ (0, 0) _ hbA2.out Tryz.underlying50 rfl (by kernel_rfl) ?_
 (try simp only [Act.put, List.setIfInBounds_toArray, List.set_cons_zero, List.set_cons_succ])
 go_wp2_with fail
 refine (cF.out _ hG).mono ?_
 rintro e w3 ⟨rfl, hb3⟩
 have hG3 := hG.trans (hb3.mono hG.size)
 have hbA3 := jH (jD hbA2.out hb3)
 have hl3 := jB hbA3.out
 by_cases hE : eF = 0
 case neg =>
  have hEd : (eF == 0) = false := by simpa using hE
  have hEn : (eF != 0) = true := by simpa using hE
  have hT : Hid (eF = q) := jH (by rw [← hq2.out, if_pos hE])
  go_wp2
  go_ret
  exact ⟨jR hT.out, hG3⟩
 subst hE
 have hq3 : Hid ((if sameMm (keptM m) m = true then (0 : Int) else 3) = q) := jH (by have h := hq2.out; rw [if_neg (show ¬ ((0 : Int) ≠ 0) by simp)] at h; exact h)
 clear hb1 hb2 hb3 hbA2 hl2
 have hG3H := jH hG3
 obtain ⟨b1, hb1⟩ : ∃ b, b = hB m.kd := ⟨_, rfl⟩
 obtain ⟨b2, hb2⟩ : ∃ b, b = hS m.kd := ⟨_, rfl⟩
 obtain ⟨b3, hb3⟩ : ∃ b, b = hV m.kd m.st := ⟨_, rfl⟩
 obtain ⟨b4, hb4⟩ : ∃ b, b = hC m.kd m.st := ⟨_, rfl⟩
 obtain ⟨b5, hb5⟩ : ∃ b, b = hA m.kd m.st := ⟨_, rfl⟩
 have hq4 : Hid ((if sameMm (onlyM b1 b2 b3 b4 b5 m) m = true then (0 : Int) else 3) = q) := jH (by rw [hb1, hb2, hb3, hb4, hb5]; exact hq3.out)
 rw [← hb1, ← hb2, ← hb3, ← hb4, ← hb5] at cG
 clear hb1 hb2 hb3 hb4 hb5 hq3
 have cS := jH (fun w' h => cS.out b1 b2 b3 b4 b5 w' h)
 generalize sameMm (onlyM b1 b2 b3 b4 b5 m) m = sm at cS hq4
 go_upto_region 8 with (fail)
 have p0 := jA hbA3.out 0
 have p8 := jA hbA3.out 8
 simp at p0 p8
 have hrow := jH (fun w' (h : KQ w3.heap.size w3 w') => jD hbA3.out h.1)
 refine jW (fun w' => KQ w3.heap.size w3 w') (fun _ => True) 99 (by kernel_rfl) (kq (Below.refl _ _).drew) trivial ?_
 intro hcl
 have hC : KQ w3.heap.size w3 w3.drew := kq (Below.refl _ _).drew
 have hE := trivial
 (refine mT 0 ?_ rfl hcl hC hE ?_ ?_; rotate_left; (· (intro w hSw; (try dsimp only at hSw); go_simp; (try with_reducible rfl))); clear hcl; intro hcl; (try simp only [Act.put, List.getElem_toArray, List.getElem_cons_zero, List.setIfInBounds_toArray, List.set_cons_zero, List.set_cons_succ]))
 (refine mT 1 ?_ rfl hcl hC hE ?_ ?_; rotate_left; (· (intro w hSw; (try dsimp only at hSw); go_simp; (try with_reducible rfl))); clear hcl; intro hcl; (try simp only [Act.put, nA, nB, nC, nD, nE, nF]))
 (refine mT 2 ?_ rfl hcl hC hE ?_ ?_; rotate_left; (· (intro w hSw; (try dsimp only at hSw); go_simp; (try with_reducible rfl))); clear hcl; intro hcl; (try simp only [Act.put, nA, nB, nC, nD, nE, nF]))
 (refine mT 3 ?_ rfl hcl hC hE ?_ ?_; rotate_left; (· (intro w hSw; (try dsimp only at hSw); go_simp; (try with_reducible rfl))); clear hcl; intro hcl; (try simp only [Act.put, nA, nB, nC, nD, nE, nF]))
 refine wpM_take (i := 5) (v := .agg ↑m) rfl (by kernel_rfl) (by kernel_rfl) (by kernel_rfl) (by decide) (fun _ _ _ h => h) hcl hC (fun _ => hE) (yields_row (by kernel_rfl) rfl (w.heap.size) rfl 50 ↑m (0, 0) _ hrow.out Tryz.underlying50 rfl (by kernel_rfl)) ?_
 clear hcl
 intro hcl
 (try simp only [Act.put, nA, nB, nC, nD, nE, nF])
 refine wpM_take (i := 7) (v := .agg ↑m) rfl (by kernel_rfl) (by kernel_rfl) (by kernel_rfl) (by decide) (fun _ _ _ h => h) hcl hC (fun _ => hE) (yields_row (by kernel_rfl) rfl (w.heap.size) rfl 50 ↑m (0, 0) _ hrow.out Tryz.underlying50 rfl (by kernel_rfl)) ?_
 clear hcl
 intro hcl
 (try simp only [Act.put, nA, nB, nC, nD, nE, nF])
 refine jK (i := 4) rfl (by kernel_rfl) hcl (fun K hK => ?_)
 go_simp
 refine (cG.out _).mono ?_
 rintro e v1 ⟨rfl, hv1⟩
 have hC' := jP hC (Nat.le_refl _) hv1
 refine hK.out _ _ hC' trivial ?_
 clear hK K
 clear hcl
 intro hcl
 (try simp only [Act.put, nA, nB, nC, nD, nE, nF])
 clear hC
 have hC := hC'
 clear hC'
 refine jK (i := 6) rfl (by kernel_rfl) hcl (fun K hK => ?_)
 go_simp
 refine (cO.out _ _ _ _ _ _).mono ?_
 rintro e v2 ⟨hp2, hv2⟩
 obtain ⟨n2, hn2, rfl⟩ := hp2
 have hC' := jP hC (Nat.le_refl _) hv2
 refine hK.out _ _ hC' trivial ?_
 clear hK K
 clear hcl
 intro hcl
 (try simp only)
 clear hC
 have hC := hC'
 clear hC'
 subst hn2
 refine jK (i := 8) rfl (by kernel_rfl) hcl (fun K hK => ?_)
 go_simp
 refine (cS.out _ (hG3H.out.trans (hC.1.mono hG3H.out.size))).mono ?_
 rintro e v3 ⟨rfl, hv3⟩
 have hC' := jP hC (Nat.le_refl _) hv3
 refine hK.out _ _ hC' trivial ?_
 clear hK K
 clear hcl
 intro hcl
 (try simp only [Act.put, nA, nB, nC, nD, nE, nF])
 clear hC
 have hC := hC'
 clear hC'
 (refine mT 9 ?_ rfl hcl hC hE ?_ ?_; rotate_left; (· (intro w hSw; (try dsimp only at hSw); go_simp; (try with_reducible rfl))); clear hcl; intro hcl; (try simp only [Act.put, nA, nB, nC, nD, nE, nF]))
 refine wpM_done (by kernel_rfl) ?_
 clear hcl
 try simp only [Act.put, nA, nB, nC, nD, nE, nF]
 have hGE := hG3H.out.trans (hC.1.mono hG3H.out.size)
 clear hC p0 p8
 cases sm with
 | true =>
  have hT : Hid ((0 : Int) = q) := jH (by rw [← hq4.out, if_pos rfl])
  go_wp2
  go_ret
  exact ⟨jR hT.out, hGE⟩
 | false =>
  have hT : Hid ((3 : Int) = q) := jH (by rw [← hq4.out, if_neg (by decide)])
  go_wp2
  go_ret
  exact ⟨jR hT.out, hGE⟩
end Go.Proofs.YtfhandglpjnonaaGreatDoor
