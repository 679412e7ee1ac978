/- inst.checkFields. -/
import Derived.Test.YtfhandglpjnonaaGreatDoorQj
namespace Go.Proofs.YtfhandglpjnonaaGreatDoor
open Go.RowKit

/-- What is wrong with a message's fields. -/
def fieldsE (m : Mm) : Int := if errI (chk m.i) ≠ 0 then errI (chk m.i) else if balE m.b.1 m.b.2 ≠ 0 then balE m.b.1 m.b.2 else if balE m.vv.1 m.vv.2 ≠ 0 then balE m.vv.1 m.vv.2 else
  if 1048576 < m.an then 2 else if errI (vchk m.av) ≠ 0 then errI (vchk m.av) else cmdErr m.c.val
/-- A message all of whose parts are right for the machine. -/
structure Mm.Fit (w : World) (m : Mm) : Prop where
  c : m.c.Fit w
  i : m.i.wf
  av : m.av.wf
theorem Mm.Fit.below {w w' : World} {m : Mm} (h : m.Fit w) (hb : Below w.heap.size w w') : m.Fit w' := ⟨h.c.below hb, h.i, h.av⟩
set_option maxRecDepth 100000 in
set_option maxHeartbeats 8000000 in
theorem fields_any (m : Mm) (w : World) (hA : m.Fit w) (hV : VarM w) :
    Calls Tryz.prog 27 #[.agg #[.int .i64 m.kd, .int .i64 m.fr, .int .i64 m.dst, .int .u32 m.ep, .int .i64 m.i.1, .int .u32 m.i.2, .int .u32 m.b.1, .int .i64 m.b.2, .int .i64 m.st, .int .u32 m.vv.1, .int .i64 m.vv.2, .int .i64 m.c.kd, .int .i64 m.c.x.1, .int .u32 m.c.x.2, .int .u32 m.c.v.d0, .int .u32 m.c.v.d1, .int .u32 m.c.v.d2, .int .u32 m.c.v.d3, .int .u32 m.c.v.d4, .int .u32 m.c.v.d5, .int .u32 m.c.v.d6, .int .u32 m.c.v.d7, .bool m.c.t, .slice m.c.T m.c.k m.c.kc, .int .i64 m.c.sn, .int .i64 m.c.wh, .slice m.c.B m.c.m m.c.mc, .int .u32 m.c.u.d0, .int .u32 m.c.u.d1, .int .u32 m.c.u.d2, .int .u32 m.c.u.d3, .int .u32 m.c.u.d4, .int .u32 m.c.u.d5, .int .u32 m.c.u.d6, .int .u32 m.c.u.d7, .int .u32 m.an, .int .u32 m.av.d0, .int .u32 m.av.d1, .int .u32 m.av.d2, .int .u32 m.av.d3, .int .u32 m.av.d4, .int .u32 m.av.d5, .int .u32 m.av.d6, .int .u32 m.av.d7]] w fun e w' => e = .returned (.int .i64 (fieldsE m)) ∧ Below w.heap.size w w' := by
  generalize hr : fieldsE m = q
  unfold fieldsE at hr
  have cI := Lib.hid (fun w' => chk_any m.i hA.i w')
  have cB := Lib.hid (fun a b w' => bchk_any a b w')
  have cV := Lib.hid (fun w' => vcheck_any m.av w')
  have cC := Lib.hid (fun w' (h : Below w.heap.size w w') => chkcmd_any m.c w' (hA.c.below h) (hV.below h hV.lt))
  have hb0 : Below w.heap.size w (w.alloc (.cells #[.int .i64 m.kd, .int .i64 m.fr, .int .i64 m.dst, .int .u32 m.ep, .int .i64 m.i.1, .int .u32 m.i.2, .int .u32 m.b.1, .int .i64 m.b.2, .int .i64 m.st, .int .u32 m.vv.1, .int .i64 m.vv.2, .int .i64 m.c.kd, .int .i64 m.c.x.1, .int .u32 m.c.x.2, .int .u32 m.c.v.d0, .int .u32 m.c.v.d1, .int .u32 m.c.v.d2, .int .u32 m.c.v.d3, .int .u32 m.c.v.d4, .int .u32 m.c.v.d5, .int .u32 m.c.v.d6, .int .u32 m.c.v.d7, .bool m.c.t, .slice m.c.T m.c.k m.c.kc, .int .i64 m.c.sn, .int .i64 m.c.wh, .slice m.c.B m.c.m m.c.mc, .int .u32 m.c.u.d0, .int .u32 m.c.u.d1, .int .u32 m.c.u.d2, .int .u32 m.c.u.d3, .int .u32 m.c.u.d4, .int .u32 m.c.u.d5, .int .u32 m.c.u.d6, .int .u32 m.c.u.d7, .int .u32 m.an, .int .u32 m.av.d0, .int .u32 m.av.d1, .int .u32 m.av.d2, .int .u32 m.av.d3, .int .u32 m.av.d4, .int .u32 m.av.d5, .int .u32 m.av.d6, .int .u32 m.av.d7] 50)) := (Below.refl _ w).alloc (Nat.le_refl _) _
  have hbA : (w.alloc (.cells #[.int .i64 m.kd, .int .i64 m.fr, .int .i64 m.dst, .int .u32 m.ep, .int .i64 m.i.1, .int .u32 m.i.2, .int .u32 m.b.1, .int .i64 m.b.2, .int .i64 m.st, .int .u32 m.vv.1, .int .i64 m.vv.2, .int .i64 m.c.kd, .int .i64 m.c.x.1, .int .u32 m.c.x.2, .int .u32 m.c.v.d0, .int .u32 m.c.v.d1, .int .u32 m.c.v.d2, .int .u32 m.c.v.d3, .int .u32 m.c.v.d4, .int .u32 m.c.v.d5, .int .u32 m.c.v.d6, .int .u32 m.c.v.d7, .bool m.c.t, .slice m.c.T m.c.k m.c.kc, .int .i64 m.c.sn, .int .i64 m.c.wh, .slice m.c.B m.c.m m.c.mc, .int .u32 m.c.u.d0, .int .u32 m.c.u.d1, .int .u32 m.c.u.d2, .int .u32 m.c.u.d3, .int .u32 m.c.u.d4, .int .u32 m.c.u.d5, .int .u32 m.c.u.d6, .int .u32 m.c.u.d7, .int .u32 m.an, .int .u32 m.av.d0, .int .u32 m.av.d1, .int .u32 m.av.d2, .int .u32 m.av.d3, .int .u32 m.av.d4, .int .u32 m.av.d5, .int .u32 m.av.d6, .int .u32 m.av.d7] 50)).heap[w.heap.size]? = some (.cells #[.int .i64 m.kd, .int .i64 m.fr, .int .i64 m.dst, .int .u32 m.ep, .int .i64 m.i.1, .int .u32 m.i.2, .int .u32 m.b.1, .int .i64 m.b.2, .int .i64 m.st, .int .u32 m.vv.1, .int .i64 m.vv.2, .int .i64 m.c.kd, .int .i64 m.c.x.1, .int .u32 m.c.x.2, .int .u32 m.c.v.d0, .int .u32 m.c.v.d1, .int .u32 m.c.v.d2, .int .u32 m.c.v.d3, .int .u32 m.c.v.d4, .int .u32 m.c.v.d5, .int .u32 m.c.v.d6, .int .u32 m.c.v.d7, .bool m.c.t, .slice m.c.T m.c.k m.c.kc, .int .i64 m.c.sn, .int .i64 m.c.wh, .slice m.c.B m.c.m m.c.mc, .int .u32 m.c.u.d0, .int .u32 m.c.u.d1, .int .u32 m.c.u.d2, .int .u32 m.c.u.d3, .int .u32 m.c.u.d4, .int .u32 m.c.u.d5, .int .u32 m.c.u.d6, .int .u32 m.c.u.d7, .int .u32 m.an, .int .u32 m.av.d0, .int .u32 m.av.d1, .int .u32 m.av.d2, .int .u32 m.av.d3, .int .u32 m.av.d4, .int .u32 m.av.d5, .int .u32 m.av.d6, .int .u32 m.av.d7] 50 (0, 0)) := heap_at _ _ rfl
  generalize hW : (w.alloc (.cells #[.int .i64 m.kd, .int .i64 m.fr, .int .i64 m.dst, .int .u32 m.ep, .int .i64 m.i.1, .int .u32 m.i.2, .int .u32 m.b.1, .int .i64 m.b.2, .int .i64 m.st, .int .u32 m.vv.1, .int .i64 m.vv.2, .int .i64 m.c.kd, .int .i64 m.c.x.1, .int .u32 m.c.x.2, .int .u32 m.c.v.d0, .int .u32 m.c.v.d1, .int .u32 m.c.v.d2, .int .u32 m.c.v.d3, .int .u32 m.c.v.d4, .int .u32 m.c.v.d5, .int .u32 m.c.v.d6, .int .u32 m.c.v.d7, .bool m.c.t, .slice m.c.T m.c.k m.c.kc, .int .i64 m.c.sn, .int .i64 m.c.wh, .slice m.c.B m.c.m m.c.mc, .int .u32 m.c.u.d0, .int .u32 m.c.u.d1, .int .u32 m.c.u.d2, .int .u32 m.c.u.d3, .int .u32 m.c.u.d4, .int .u32 m.c.u.d5, .int .u32 m.c.u.d6, .int .u32 m.c.u.d7, .int .u32 m.an, .int .u32 m.av.d0, .int .u32 m.av.d1, .int .u32 m.av.d2, .int .u32 m.av.d3, .int .u32 m.av.d4, .int .u32 m.av.d5, .int .u32 m.av.d6, .int .u32 m.av.d7] 50)) = W at hb0 hbA
  have hz0 := hb0.size
  have hltA := blk_lt hbA
  have p4 := blk_cell hbA 4
  have p5 := blk_cell hbA 5
  have p6 := blk_cell hbA 6
  have p7 := blk_cell hbA 7
  simp at p4 p5 p6 p7
  have hbAH := Lib.hid hbA
  have hrH := Lib.hid hr
  clear hbA hr hA
  obtain ⟨eI, heI⟩ : ∃ eI, errI (chk m.i) = eI := ⟨_, rfl⟩
  rw [heI] at cI hrH
  clear heI
  by_cases hI : eI = 0
  case neg =>
    have hd : (eI == 0) = false := by simpa using hI
    have hT : Hid (eI = q) := Lib.hid (by rw [← hrH.out, if_pos hI])
    go_enter Tryz.func27, Tryz.ntmps27
    go_wp2_with fail
    refine (cI.out _).mono ?_
    rintro e w1 ⟨rfl, hb1⟩
    have hG := hb0.trans (hb1.mono hz0)
    clear p4 p5 p6 p7
    go_wp2
    go_ret
    exact ⟨ret_intQ hT.out, hG⟩
  subst hI
  have hq1 : Hid ((if balE m.b.1 m.b.2 ≠ 0 then balE m.b.1 m.b.2 else if balE m.vv.1 m.vv.2 ≠ 0 then balE m.vv.1 m.vv.2 else if 1048576 < m.an then 2 else if errI (vchk m.av) ≠ 0 then errI (vchk m.av) else cmdErr m.c.val) = q) := Lib.hid (by
    have h := hrH.out
    rw [if_neg (show ¬ ((0 : Int) ≠ 0) by simp)] at h
    exact h)
  go_enter Tryz.func27, Tryz.ntmps27
  go_wp2_with fail
  refine (cI.out _).mono ?_
  rintro e w1 ⟨rfl, hb1⟩
  have hb01 := hb0.trans (hb1.mono hz0)
  have hz1 := hb01.size
  have hbA1 := blk_below hbAH.out hb1
  clear p4 p5 p6 p7
  have p6 := blk_cell hbA1 6
  have p7 := blk_cell hbA1 7
  have p8 := blk_cell hbA1 8
  have p9 := blk_cell hbA1 9
  have p10 := blk_cell hbA1 10
  simp at p6 p7 p8 p9 p10
  have hlA1 := blk_lt hbA1
  have hbA1H := Lib.hid hbA1
  clear hbA1
  go_wp2_with fail
  go_loopg [19] 3 (fun gg iv wr => ∃ (j : Nat), j ≤ 2 ∧ gg = 3 - j ∧ iv = .int .i64 (j : Int) ∧ (0 < j → balE m.b.1 m.b.2 = 0) ∧ (1 < j → balE m.vv.1 m.vv.2 = 0) ∧ Below W.heap.size W wr)
  case atStart => exact ⟨0, Nat.zero_le _, rfl, rfl, by omega, by omega, hb1⟩
  case round =>
    obtain ⟨j, hj, rfl, rfl, hj1, hj2, hbr⟩ := hrel
    clear p6 p7 p8 p9 p10
    have hb0v := hb0.trans (hbr.mono hz0)
    have hzv := hb0v.size
    have hj1H := Lib.hid hj1
    have hj2H := Lib.hid hj2
    clear hj1 hj2
    have hj3 : j = 0 ∨ j = 1 ∨ j = 2 := by omega
    have ix0 : ∀ w', (Instr.index 152 (.agg #[.int .u32 m.b.1, .int .i64 m.b.2, .int .u32 m.vv.1, .int .i64 m.vv.2]) (.int .i64 0)).run Tryz.prog w' = .ok (.agg #[.int .u32 m.b.1, .int .i64 m.b.2]) w' := fun _ => by kernel_rfl
    have ix1 : ∀ w', (Instr.index 152 (.agg #[.int .u32 m.b.1, .int .i64 m.b.2, .int .u32 m.vv.1, .int .i64 m.vv.2]) (.int .i64 1)).run Tryz.prog w' = .ok (.agg #[.int .u32 m.vv.1, .int .i64 m.vv.2]) w' := fun _ => by kernel_rfl
    rcases hj3 with rfl | rfl | rfl
    · have hjj : (0 : Int) < 2 := by decide
      obtain ⟨eB, heB⟩ : ∃ eB, balE m.b.1 m.b.2 = eB := ⟨_, rfl⟩
      have hTn : Hid (eB ≠ 0 → eB = q) := Lib.hid (fun hn => by rw [← hq1.out, heB, if_pos hn])
      have cb := Lib.hid (fun w' => cB.out m.b.1 m.b.2 w')
      rw [heB] at cb
      by_cases hB : eB = 0
      case neg =>
        have hd : (eB == 0) = false := by simpa using hB
        have hT : Hid (eB = q) := Lib.hid (hTn.out hB)
        clear heB
        go_wp2_with fail
        refine (cb.out _).mono ?_
        rintro e w2 ⟨rfl, hb2⟩
        have hG := (hb0v.alloc hzv _).trans (hb2.mono (by simp; omega))
        go_wp2
        go_ret
        exact ⟨ret_intQ hT.out, hG⟩
      subst hB
      replace heB := Lib.hid heB
      go_wp2_with fail
      refine (cb.out _).mono ?_
      rintro e w2 ⟨rfl, hb2⟩
      have hG := (hbr.alloc hbr.size _).trans (hb2.mono (by have := hbr.size; simp; omega))
      go_wp2
      go_roundg (3 - 1)
      case measure => omega
      case rel => exact ⟨1, by omega, rfl, rfl, fun _ => heB.out, by omega, hG⟩
    · have hjj : (1 : Int) < 2 := by decide
      obtain ⟨eB, heB⟩ : ∃ eB, balE m.vv.1 m.vv.2 = eB := ⟨_, rfl⟩
      have hq1b : Hid ((if balE m.vv.1 m.vv.2 ≠ 0 then balE m.vv.1 m.vv.2 else if 1048576 < m.an then 2 else if errI (vchk m.av) ≠ 0 then errI (vchk m.av) else cmdErr m.c.val) = q) := Lib.hid (by
        have h := hq1.out
        rw [hj1H.out (by omega), if_neg (show ¬ ((0 : Int) ≠ 0) by simp)] at h
        exact h)
      have hTn : Hid (eB ≠ 0 → eB = q) := Lib.hid (fun hn => by rw [← hq1b.out, heB, if_pos hn])
      have cb := Lib.hid (fun w' => cB.out m.vv.1 m.vv.2 w')
      rw [heB] at cb
      by_cases hB : eB = 0
      case neg =>
        have hd : (eB == 0) = false := by simpa using hB
        have hT : Hid (eB = q) := Lib.hid (hTn.out hB)
        clear heB
        go_wp2_with fail
        refine (cb.out _).mono ?_
        rintro e w2 ⟨rfl, hb2⟩
        have hG := (hb0v.alloc hzv _).trans (hb2.mono (by simp; omega))
        go_wp2
        go_ret
        exact ⟨ret_intQ hT.out, hG⟩
      subst hB
      replace heB := Lib.hid heB
      go_wp2_with fail
      refine (cb.out _).mono ?_
      rintro e w2 ⟨rfl, hb2⟩
      have hG := (hbr.alloc hbr.size _).trans (hb2.mono (by have := hbr.size; simp; omega))
      go_wp2
      go_roundg (3 - 2)
      case measure => omega
      case rel => exact ⟨2, by omega, rfl, rfl, fun _ => hj1H.out (by omega), fun _ => heB.out, hG⟩
    · have hq2 : Hid ((if 1048576 < m.an then 2 else if errI (vchk m.av) ≠ 0 then errI (vchk m.av) else cmdErr m.c.val) = q) := Lib.hid (by
        have h := hq1.out
        rw [hj1H.out (by omega), if_neg (show ¬ ((0 : Int) ≠ 0) by simp), hj2H.out (by omega), if_neg (show ¬ ((0 : Int) ≠ 0) by simp)] at h
        exact h)
      have hbA2 := blk_below hbAH.out hbr
      have hlA2 := blk_lt hbA2
      have p35 := blk_cell hbA2 35
      have p36 := blk_cell hbA2 36
      have p37 := blk_cell hbA2 37
      have p38 := blk_cell hbA2 38
      have p39 := blk_cell hbA2 39
      have p40 := blk_cell hbA2 40
      have p41 := blk_cell hbA2 41
      have p42 := blk_cell hbA2 42
      have p43 := blk_cell hbA2 43
      simp at p35 p36 p37 p38 p39 p40 p41 p42 p43
      clear hbA2
      by_cases hn : 1048576 < m.an
      · have hd : decide ((1048576 : Int) < m.an) = true := decide_eq_true hn
        have hT : Hid ((2 : Int) = q) := Lib.hid (by rw [← hq2.out, if_pos hn])
        go_wp2
        go_ret
        exact ⟨ret_intQ hT.out, hb0v⟩
      have hd : decide ((1048576 : Int) < m.an) = false := decide_eq_false hn
      have hq3 : Hid ((if errI (vchk m.av) ≠ 0 then errI (vchk m.av) else cmdErr m.c.val) = q) := Lib.hid (by rw [← hq2.out, if_neg hn])
      obtain ⟨eV, heV⟩ : ∃ eV, errI (vchk m.av) = eV := ⟨_, rfl⟩
      rw [heV] at cV hq3
      clear heV
      by_cases hv : eV = 0
      case neg =>
        have hdv : (eV == 0) = false := by simpa using hv
        have hT : Hid (eV = q) := Lib.hid (by rw [← hq3.out, if_pos hv])
        go_wp2_with fail
        refine (cV.out _).mono ?_
        rintro e w2 ⟨rfl, hb2⟩
        have hG := hb0v.trans (hb2.mono hzv)
        clear p35 p36 p37 p38 p39 p40 p41 p42 p43
        go_wp2
        go_ret
        exact ⟨ret_intQ hT.out, hG⟩
      subst hv
      have hq4 : Hid (cmdErr m.c.val = q) := Lib.hid (by rw [← hq3.out, if_neg (by simp)])
      go_wp2_with fail
      refine (cV.out _).mono ?_
      rintro e w2 ⟨rfl, hb2⟩
      have hb02 := hb0v.trans (hb2.mono hzv)
      have hbA3 := Lib.hid (blk_below hbAH.out (hbr.trans (hb2.mono hbr.size)))
      clear p35 p36 p37 p38 p39 p40 p41 p42 p43
      go_upto_region 16 with (fail)
      refine wp_region_list ?_
      refine wpList_step (fun K hK => ?_)
      rw [if_pos (by kernel_rfl)]
      go_simp
      refine hK _ _ ?_
      clear hK K
      refine wpList_load_midG (by kernel_rfl) _ _ rfl (w.heap.size) 11 rfl [.int .i64 m.c.kd, .int .i64 m.c.x.1, .int .u32 m.c.x.2, .int .u32 m.c.v.d0, .int .u32 m.c.v.d1, .int .u32 m.c.v.d2, .int .u32 m.c.v.d3, .int .u32 m.c.v.d4, .int .u32 m.c.v.d5, .int .u32 m.c.v.d6, .int .u32 m.c.v.d7, .bool m.c.t, .slice m.c.T m.c.k m.c.kc, .int .i64 m.c.sn, .int .i64 m.c.wh, .slice m.c.B m.c.m m.c.mc, .int .u32 m.c.u.d0, .int .u32 m.c.u.d1, .int .u32 m.c.u.d2, .int .u32 m.c.u.d3, .int .u32 m.c.u.d4, .int .u32 m.c.u.d5, .int .u32 m.c.u.d6, .int .u32 m.c.u.d7] _ (rangeQ hbA3.out 11 [.int .i64 m.c.kd, .int .i64 m.c.x.1, .int .u32 m.c.x.2, .int .u32 m.c.v.d0, .int .u32 m.c.v.d1, .int .u32 m.c.v.d2, .int .u32 m.c.v.d3, .int .u32 m.c.v.d4, .int .u32 m.c.v.d5, .int .u32 m.c.v.d6, .int .u32 m.c.v.d7, .bool m.c.t, .slice m.c.T m.c.k m.c.kc, .int .i64 m.c.sn, .int .i64 m.c.wh, .slice m.c.B m.c.m m.c.mc, .int .u32 m.c.u.d0, .int .u32 m.c.u.d1, .int .u32 m.c.u.d2, .int .u32 m.c.u.d3, .int .u32 m.c.u.d4, .int .u32 m.c.u.d5, .int .u32 m.c.u.d6, .int .u32 m.c.u.d7] rfl) Tryz.underlying47 rfl (by kernel_rfl) ?_
      (try simp only [Act.put, List.setIfInBounds_toArray, List.set_cons_zero, List.set_cons_succ])
      go_wp2_with fail
      refine (cC.out _ hb02).mono ?_
      rintro e w3 ⟨rfl, hb3⟩
      have hG := hb02.trans (hb3.mono hb02.size)
      go_wp2
      go_ret
      exact ⟨ret_intQ hq4.out, hG⟩
end Go.Proofs.YtfhandglpjnonaaGreatDoor
