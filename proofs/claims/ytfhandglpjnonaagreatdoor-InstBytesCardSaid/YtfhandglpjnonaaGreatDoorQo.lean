/- The document's Check of messages. -/
import Derived.Test.YtfhandglpjnonaaGreatDoorN20
import Derived.Test.YtfhandglpjnonaaGreatDoorQk
namespace Go.Proofs.YtfhandglpjnonaaGreatDoor
open Go.RowKit
structure RN (w wx : World) (g : Nat) (m n : Mm) : Prop where
 msg : wx.heap[w.heap.size]? = some (.cells ↑m 38 (0, 0))
 res : wx.heap[g]? = some (.cells ↑n 38 (0, 0))
 gt : w.heap.size < g
 bel : Below w.heap.size w wx
theorem RN.store {w wx : World} {g : Nat} {m n n' : Mm} (h : RN w wx g m n) (o : Nat) (l : List Value) (hl : o + l.length ≤ 44) (he : (n : Array Value).toList.take o ++ (l ++ (n : Array Value).toList.drop (o + l.length)) = (n' : Array Value).toList) : RN w (wx.setCells g o l) g m n' :=
 have hg := h.gt
 ⟨jX (by omega) l o wx h.msg, (by have h1 := blk_setCells l o wx _ h.res; have h2 := putL_list l o (n : Array Value).toList hl; rw [he] at h2; have h3 : putL ↑n o l = ↑n' := h2; rw [h3] at h1; exact h1), h.gt, jV (by omega) l o wx h.bel⟩
theorem RN.below {w wx wy : World} {g : Nat} {m n : Mm} (h : RN w wx g m n) (hb : Below wx.heap.size wx wy) : RN w wy g m n :=
 ⟨jD h.msg hb, jD h.res hb, h.gt, h.bel.trans (hb.mono h.bel.size)⟩
theorem there_rn {w wx : World} {g : Nat} {m n : Mm} (h : RN w wx g m n) (o k : Nat) (hk : o + k ≤ 44) : wx.there g o k := fun j hj => by
 refine ⟨?_, ?_⟩
 ·
  rw [jA h.res]; have : o + j < 44 := by omega
  simp; omega
 ·
  exact jE h.res _
theorem RN.made {w wx wy : World} {m : Mm} (h1 : wx.heap[w.heap.size]? = some (.cells ↑m 38 (0, 0))) (h2 : Below w.heap.size w wx) (h3 : wy = wx.alloc (.cells ↑m 38)) : RN w wy wx.heap.size m m := by
 have hl := jB h1
 subst h3
 exact ⟨yE _ hl h1, jT _ _ rfl, hl, h2.alloc (Nat.le_of_lt hl) _⟩
theorem same_kept (m : Mm) : sameAll (keptM m) m = sameMm (keptM m) m := by
 unfold sameAll sameMm keptM onlyM
 dsimp only
 simp only [decide_true, Bool.true_and]
 rcases Bool.eq_false_or_eq_true (sameCv (if hC m.kd m.st = true then m.c else zCm).val m.c.val) with h | h <;> rw [h] <;> simp
def fE2 (m : Mm) : Int := if errI (chk m.i) = 0 then balE m.b.1 m.b.2 else errI (chk m.i)
def fE3 (m : Mm) : Int := if fE2 m = 0 then balE m.vv.1 m.vv.2 else fE2 m
def fE4 (m : Mm) : Int := if fE3 m = 0 then (if 1048576 < m.an then 2 else 0) else fE3 m
def fE5 (m : Mm) : Int := if fE4 m = 0 then errI (vchk m.av) else fE4 m
def fE6 (m : Mm) : Int := if fE5 m = 0 then cmdErr m.c.val else fE5 m
theorem fE6_eq (m : Mm) : fE6 m = fieldsE m := by
 unfold fE6 fE5 fE4 fE3 fE2 fieldsE
 generalize errI (chk m.i) = a
 generalize balE m.b.1 m.b.2 = b
 generalize balE m.vv.1 m.vv.2 = c
 generalize errI (vchk m.av) = d
 generalize cmdErr m.c.val = e
 by_cases ha : a = 0
 ·
  subst ha
  by_cases hb : b = 0
  ·
   subst hb
   by_cases hc : c = 0
   ·
    subst hc
    by_cases hn : 1048576 < m.an
    ·
     simp [hn]
    ·
     by_cases hd : d = 0
     ·
      simp [hn, hd]
     ·
      simp [hn, hd]
   ·
    simp [hc]
  ·
   simp [hb]
 ·
  simp [ha]
set_option maxRecDepth 100000 in
set_option maxHeartbeats 16000000 in
theorem rimchk_any (m : Mm) (w : World) (hF : m.Fit w) :
 Calls Tryz.prog 9 #[.agg ↑m] w fun e w' => e = .returned (.int .i64 (msgErr m)) ∧ Below w.heap.size w w' := by
 generalize hr : msgErr m = q
 unfold msgErr at hr
 have cM := jH (fun n w' => who_any n w')
 have cI := jH (fun w' => rchk_any m.i hF.i w')
 have cB := jH (fun w' => rbchk_any m.b.1 m.b.2 w')
 have cU := jH (fun w' => rbchk_any m.vv.1 m.vv.2 w')
 have cV := jH (fun w' => rvcheck_any m.av w')
 have cC := jH (fun w' (h : Below w.heap.size w w') => rchkcmd_any m.c w' (hF.c.below h))
 have cS := jH (fun hb hs hv hc ha w' (h : Below w.heap.size w w') => rsameM_any (onlyM hb hs hv hc ha m) m w' (onlyM_ok ((hF.c.ok.below h).more h.size)) ((hF.c.ok.below h).more h.size))
 have hb0 : Below w.heap.size w (w.alloc (.cells ↑m 38)) := (Below.refl _ w).alloc (Nat.le_refl _) _
 have hbA : (w.alloc (.cells ↑m 38)).heap[w.heap.size]? = some (.cells ↑m 38 (0, 0)) := jT _ _ rfl
 generalize hW : (w.alloc (.cells ↑m 38)) = W at hb0 hbA
 have hz0 := hb0.size
 have hltA := jB hbA
 have p0 := jA hbA 0
 have p1 := jA hbA 1
 have p2 := jA hbA 2
 have p3 := jA hbA 3
 have p8 := jA hbA 8
 simp at p0 p1 p2 p3 p8
 have hbAH := jH hbA
 have hrH := jH hr
 clear hbA hr hF
 by_cases h1 : m.kd < 1
 case pos =>
  have h1d : decide (m.kd < 1) = true := decide_eq_true h1
  have hT : Hid ((5 : Int) = q) := jH (by rw [← hrH.out, if_pos h1])
  clear h1
  go_enter Tryz.func9, Tryz.ntmps9
  go_wp2
  go_ret
  exact ⟨jR hT.out, hb0⟩
 have h1d : decide (m.kd < 1) = false := decide_eq_false h1
 by_cases h8 : 8 < m.kd
 case pos =>
  have h8d : decide (8 < m.kd) = true := decide_eq_true h8
  have hT : Hid ((5 : Int) = q) := jH (by rw [← hrH.out, if_neg h1, if_pos h8])
  clear h1 h8
  go_enter Tryz.func9, Tryz.ntmps9
  go_wp2
  go_ret
  exact ⟨jR hT.out, hb0⟩
 have h8d : decide (8 < m.kd) = false := decide_eq_false h8
 have hq1 : Hid ((if rangeBad m = true then 2 else if fieldsE m ≠ 0 then fieldsE m else if sameMm (keptM m) m = true then 0 else 3) = q) := jH (by rw [← hrH.out, if_neg h1, if_neg h8])
 clear h1 h8
 cases hf : membP m.fr with
 | false =>
  have hT : Hid ((2 : Int) = q) := jH (by rw [← hq1.out, if_pos (by simp [rangeBad, hf])])
  have c1 := jH (fun w' => cM.out m.fr w')
  rw [hf] at c1
  clear hf
  go_enter Tryz.func9, Tryz.ntmps9
  go_wp2_with fail
  refine (c1.out _).mono ?_
  rintro e w1 ⟨rfl, hb1⟩
  have hG := hb0.trans (hb1.mono hz0)
  go_wp2
  go_ret
  exact ⟨jR hT.out, hG⟩
 | true =>
 cases hd : membP m.dst with
 | false =>
  have hT : Hid ((2 : Int) = q) := jH (by rw [← hq1.out, if_pos (by simp [rangeBad, hd])])
  have c1 := jH (fun w' => cM.out m.fr w')
  have c2 := jH (fun w' => cM.out m.dst w')
  rw [hf] at c1
  rw [hd] at c2
  clear hf hd
  go_enter Tryz.func9, Tryz.ntmps9
  go_wp2_with fail
  refine (c1.out _).mono ?_
  rintro e w1 ⟨rfl, hb1⟩
  have hG1 := hb0.trans (hb1.mono hz0)
  replace p0 := (hb1.cell (p := ⟨w.heap.size, 0, none⟩) (by show w.heap.size < _; omega)).trans p0
  replace p1 := (hb1.cell (p := ⟨w.heap.size, 1, none⟩) (by show w.heap.size < _; omega)).trans p1
  replace p2 := (hb1.cell (p := ⟨w.heap.size, 2, none⟩) (by show w.heap.size < _; omega)).trans p2
  replace p3 := (hb1.cell (p := ⟨w.heap.size, 3, none⟩) (by show w.heap.size < _; omega)).trans p3
  replace p8 := (hb1.cell (p := ⟨w.heap.size, 8, none⟩) (by show w.heap.size < _; omega)).trans p8
  go_wp2_with fail
  refine (c2.out _).mono ?_
  rintro e w2 ⟨rfl, hb2⟩
  have hG := hG1.trans (hb2.mono hG1.size)
  go_wp2
  go_ret
  exact ⟨jR hT.out, hG⟩
 | true =>
 have c1 := jH (fun w' => cM.out m.fr w')
 have c2 := jH (fun w' => cM.out m.dst w')
 rw [hf] at c1
 rw [hd] at c2
 by_cases he : 1048576 < m.ep
 case pos =>
  have hed : decide (1048576 < m.ep) = true := decide_eq_true he
  have hT : Hid ((2 : Int) = q) := jH (by rw [← hq1.out, if_pos (by simp [rangeBad, he])])
  clear hf hd he
  go_enter Tryz.func9, Tryz.ntmps9
  go_wp2_with fail
  refine (c1.out _).mono ?_
  rintro e w1 ⟨rfl, hb1⟩
  have hG1 := hb0.trans (hb1.mono hz0)
  replace p0 := (hb1.cell (p := ⟨w.heap.size, 0, none⟩) (by show w.heap.size < _; omega)).trans p0
  replace p1 := (hb1.cell (p := ⟨w.heap.size, 1, none⟩) (by show w.heap.size < _; omega)).trans p1
  replace p2 := (hb1.cell (p := ⟨w.heap.size, 2, none⟩) (by show w.heap.size < _; omega)).trans p2
  replace p3 := (hb1.cell (p := ⟨w.heap.size, 3, none⟩) (by show w.heap.size < _; omega)).trans p3
  replace p8 := (hb1.cell (p := ⟨w.heap.size, 8, none⟩) (by show w.heap.size < _; omega)).trans p8
  have hl1 := hb1.size
  go_wp2_with fail
  refine (c2.out _).mono ?_
  rintro e w2 ⟨rfl, hb2⟩
  replace p0 := (hb2.cell (p := ⟨w.heap.size, 0, none⟩) (by show w.heap.size < _; omega)).trans p0
  replace p1 := (hb2.cell (p := ⟨w.heap.size, 1, none⟩) (by show w.heap.size < _; omega)).trans p1
  replace p2 := (hb2.cell (p := ⟨w.heap.size, 2, none⟩) (by show w.heap.size < _; omega)).trans p2
  replace p3 := (hb2.cell (p := ⟨w.heap.size, 3, none⟩) (by show w.heap.size < _; omega)).trans p3
  replace p8 := (hb2.cell (p := ⟨w.heap.size, 8, none⟩) (by show w.heap.size < _; omega)).trans p8
  have hG := hG1.trans (hb2.mono hG1.size)
  go_wp2
  go_ret
  exact ⟨jR hT.out, hG⟩
 have hed : decide (1048576 < m.ep) = false := decide_eq_false he
 by_cases hs : m.st < 0
 case pos =>
  have hsd : decide (m.st < 0) = true := decide_eq_true hs
  have hT : Hid ((2 : Int) = q) := jH (by rw [← hq1.out, if_pos (by simp [rangeBad, hs])])
  clear hf hd he hs
  go_enter Tryz.func9, Tryz.ntmps9
  go_wp2_with fail
  refine (c1.out _).mono ?_
  rintro e w1 ⟨rfl, hb1⟩
  have hG1 := hb0.trans (hb1.mono hz0)
  replace p0 := (hb1.cell (p := ⟨w.heap.size, 0, none⟩) (by show w.heap.size < _; omega)).trans p0
  replace p1 := (hb1.cell (p := ⟨w.heap.size, 1, none⟩) (by show w.heap.size < _; omega)).trans p1
  replace p2 := (hb1.cell (p := ⟨w.heap.size, 2, none⟩) (by show w.heap.size < _; omega)).trans p2
  replace p3 := (hb1.cell (p := ⟨w.heap.size, 3, none⟩) (by show w.heap.size < _; omega)).trans p3
  replace p8 := (hb1.cell (p := ⟨w.heap.size, 8, none⟩) (by show w.heap.size < _; omega)).trans p8
  have hl1 := hb1.size
  go_wp2_with fail
  refine (c2.out _).mono ?_
  rintro e w2 ⟨rfl, hb2⟩
  replace p0 := (hb2.cell (p := ⟨w.heap.size, 0, none⟩) (by show w.heap.size < _; omega)).trans p0
  replace p1 := (hb2.cell (p := ⟨w.heap.size, 1, none⟩) (by show w.heap.size < _; omega)).trans p1
  replace p2 := (hb2.cell (p := ⟨w.heap.size, 2, none⟩) (by show w.heap.size < _; omega)).trans p2
  replace p3 := (hb2.cell (p := ⟨w.heap.size, 3, none⟩) (by show w.heap.size < _; omega)).trans p3
  replace p8 := (hb2.cell (p := ⟨w.heap.size, 8, none⟩) (by show w.heap.size < _; omega)).trans p8
  have hG := hG1.trans (hb2.mono hG1.size)
  go_wp2
  go_ret
  exact ⟨jR hT.out, hG⟩
 have hsd : decide (m.st < 0) = false := decide_eq_false hs
 by_cases h4 : 4 < m.st
 case pos =>
  have h4d : decide (4 < m.st) = true := decide_eq_true h4
  have hT : Hid ((2 : Int) = q) := jH (by rw [← hq1.out, if_pos (by simp [rangeBad, h4])])
  clear hf hd he hs h4
  go_enter Tryz.func9, Tryz.ntmps9
  go_wp2_with fail
  refine (c1.out _).mono ?_
  rintro e w1 ⟨rfl, hb1⟩
  have hG1 := hb0.trans (hb1.mono hz0)
  replace p0 := (hb1.cell (p := ⟨w.heap.size, 0, none⟩) (by show w.heap.size < _; omega)).trans p0
  replace p1 := (hb1.cell (p := ⟨w.heap.size, 1, none⟩) (by show w.heap.size < _; omega)).trans p1
  replace p2 := (hb1.cell (p := ⟨w.heap.size, 2, none⟩) (by show w.heap.size < _; omega)).trans p2
  replace p3 := (hb1.cell (p := ⟨w.heap.size, 3, none⟩) (by show w.heap.size < _; omega)).trans p3
  replace p8 := (hb1.cell (p := ⟨w.heap.size, 8, none⟩) (by show w.heap.size < _; omega)).trans p8
  have hl1 := hb1.size
  go_wp2_with fail
  refine (c2.out _).mono ?_
  rintro e w2 ⟨rfl, hb2⟩
  replace p0 := (hb2.cell (p := ⟨w.heap.size, 0, none⟩) (by show w.heap.size < _; omega)).trans p0
  replace p1 := (hb2.cell (p := ⟨w.heap.size, 1, none⟩) (by show w.heap.size < _; omega)).trans p1
  replace p2 := (hb2.cell (p := ⟨w.heap.size, 2, none⟩) (by show w.heap.size < _; omega)).trans p2
  replace p3 := (hb2.cell (p := ⟨w.heap.size, 3, none⟩) (by show w.heap.size < _; omega)).trans p3
  replace p8 := (hb2.cell (p := ⟨w.heap.size, 8, none⟩) (by show w.heap.size < _; omega)).trans p8
  have hG := hG1.trans (hb2.mono hG1.size)
  go_wp2
  go_ret
  exact ⟨jR hT.out, hG⟩
 have h4d : decide (4 < m.st) = false := decide_eq_false h4
 have hrb : rangeBad m = false := by unfold rangeBad; rw [hf, hd, decide_eq_false he, decide_eq_false hs, decide_eq_false h4]; rfl
 have hq2 : Hid ((if fieldsE m ≠ 0 then fieldsE m else if sameMm (keptM m) m = true then 0 else 3) = q) := jH (by have h := hq1.out; rw [hrb, if_neg (show ¬ (false = true) by decide)] at h; exact h)
 clear hrb
 have hst : 0 ≤ m.st := by omega
 have cHB := jH (fun w' => rhasB_any m w')
 have cHV := jH (fun w' => rhasV_any m hst w')
 have cHC := jH (fun w' => rhasC_any m hst w')
 have cHA := jH (fun w' => rhasA_any m hst w')
 have hq5 : Hid ((if fE6 m ≠ 0 then fE6 m else if sameMm (keptM m) m = true then 0 else 3) = q) := jH (by rw [fE6_eq]; exact hq2.out)
 clear hf hd he hs h4 hst hq2
 go_enter Tryz.func9, Tryz.ntmps9
 go_wp2_with fail
 refine (c1.out _).mono ?_
 rintro e w1 ⟨rfl, hb1⟩
 have hG1 := hb0.trans (hb1.mono hz0)
 replace p0 := (hb1.cell (p := ⟨w.heap.size, 0, none⟩) (by show w.heap.size < _; omega)).trans p0
 replace p1 := (hb1.cell (p := ⟨w.heap.size, 1, none⟩) (by show w.heap.size < _; omega)).trans p1
 replace p2 := (hb1.cell (p := ⟨w.heap.size, 2, none⟩) (by show w.heap.size < _; omega)).trans p2
 replace p3 := (hb1.cell (p := ⟨w.heap.size, 3, none⟩) (by show w.heap.size < _; omega)).trans p3
 replace p8 := (hb1.cell (p := ⟨w.heap.size, 8, none⟩) (by show w.heap.size < _; omega)).trans p8
 have hl1 := hb1.size
 go_wp2_with fail
 refine (c2.out _).mono ?_
 rintro e w2 ⟨rfl, hb2⟩
 replace p0 := (hb2.cell (p := ⟨w.heap.size, 0, none⟩) (by show w.heap.size < _; omega)).trans p0
 replace p1 := (hb2.cell (p := ⟨w.heap.size, 1, none⟩) (by show w.heap.size < _; omega)).trans p1
 replace p2 := (hb2.cell (p := ⟨w.heap.size, 2, none⟩) (by show w.heap.size < _; omega)).trans p2
 replace p3 := (hb2.cell (p := ⟨w.heap.size, 3, none⟩) (by show w.heap.size < _; omega)).trans p3
 replace p8 := (hb2.cell (p := ⟨w.heap.size, 8, none⟩) (by show w.heap.size < _; omega)).trans p8
 have hG := hG1.trans (hb2.mono hG1.size)
 have hG2 := hb1.trans (hb2.mono hb1.size)
 clear hb1 hb2 hG hG1 hl1
 have hF0 : Hid (fieldsE m = (if errI (chk m.i) ≠ 0 then errI (chk m.i) else (if balE m.b.1 m.b.2 ≠ 0 then balE m.b.1 m.b.2 else (if balE m.vv.1 m.vv.2 ≠ 0 then balE m.vv.1 m.vv.2 else (if 1048576 < m.an then 2 else (if errI (vchk m.av) ≠ 0 then errI (vchk m.av) else cmdErr m.c.val)))))) := jH rfl
 have hq7 : Hid ((if fieldsE m ≠ 0 then fieldsE m else if sameMm (keptM m) m = true then 0 else 3) = q) := jH (by rw [← fE6_eq]; exact hq5.out)
 have hbS := jD hbAH.out hG2
 have hlS := jB hbS
 have hzS := hG2.size
 have p4 := jA hbS 4
 have p5 := jA hbS 5
 simp at p4 p5
 go_upto_region 5 with (fail)
 clear p0 p1 p2 p3 p8
 obtain ⟨e0, he0⟩ : ∃ e, errI (chk m.i) = e := ⟨_, rfl⟩
 have hFx : Hid (fieldsE m = (if e0 ≠ 0 then e0 else (if balE m.b.1 m.b.2 ≠ 0 then balE m.b.1 m.b.2 else (if balE m.vv.1 m.vv.2 ≠ 0 then balE m.vv.1 m.vv.2 else (if 1048576 < m.an then 2 else (if errI (vchk m.av) ≠ 0 then errI (vchk m.av) else cmdErr m.c.val)))))) := jH (by rw [← he0]; exact hF0.out)
 rw [he0] at cI
 clear he0 hF0
 clear hbS
 go_wp2_with fail
 refine (cI.out _).mono ?_
 rintro e x0 ⟨rfl, hby⟩
 have hGy0 := hG2.trans (hby.mono hzS)
 clear p4 p5
 clear hby hlS hzS hG2
 by_cases hE : e0 = 0
 case neg =>
  have hEd : (e0 == 0) = false := by simpa using hE
  have hEn : (e0 != 0) = true := by simpa using hE
  have hT : Hid (e0 = q) := jH (by rw [← hq7.out, hFx.out, if_pos hE, if_pos hE])
  have hG := hb0.trans (hGy0.mono hz0)
  go_wp2
  go_ret
  exact ⟨jR hT.out, hG⟩
 subst hE
 have hF1 : Hid (fieldsE m = (if balE m.b.1 m.b.2 ≠ 0 then balE m.b.1 m.b.2 else (if balE m.vv.1 m.vv.2 ≠ 0 then balE m.vv.1 m.vv.2 else (if 1048576 < m.an then 2 else (if errI (vchk m.av) ≠ 0 then errI (vchk m.av) else cmdErr m.c.val))))) := jH (by rw [hFx.out, if_neg (show ¬ ((0 : Int) ≠ 0) by simp)])
 clear hFx
 have hbS := jD hbAH.out hGy0
 have hlS := jB hbS
 have hzS := hGy0.size
 have p6 := jA hbS 6
 have p7 := jA hbS 7
 simp at p6 p7
 obtain ⟨e1, he1⟩ : ∃ e, balE m.b.1 m.b.2 = e := ⟨_, rfl⟩
 have hFx : Hid (fieldsE m = (if e1 ≠ 0 then e1 else (if balE m.vv.1 m.vv.2 ≠ 0 then balE m.vv.1 m.vv.2 else (if 1048576 < m.an then 2 else (if errI (vchk m.av) ≠ 0 then errI (vchk m.av) else cmdErr m.c.val))))) := jH (by rw [← he1]; exact hF1.out)
 rw [he1] at cB
 clear he1 hF1
 clear hbS
 go_wp2_with fail
 refine (cB.out _).mono ?_
 rintro e x1 ⟨rfl, hby⟩
 have hGy1 := hGy0.trans (hby.mono hzS)
 clear p6 p7
 clear hby hlS hzS hGy0
 by_cases hE : e1 = 0
 case neg =>
  have hEd : (e1 == 0) = false := by simpa using hE
  have hEn : (e1 != 0) = true := by simpa using hE
  have hT : Hid (e1 = q) := jH (by rw [← hq7.out, hFx.out, if_pos hE, if_pos hE])
  have hG := hb0.trans (hGy1.mono hz0)
  go_wp2
  go_ret
  exact ⟨jR hT.out, hG⟩
 subst hE
 have hF2 : Hid (fieldsE m = (if balE m.vv.1 m.vv.2 ≠ 0 then balE m.vv.1 m.vv.2 else (if 1048576 < m.an then 2 else (if errI (vchk m.av) ≠ 0 then errI (vchk m.av) else cmdErr m.c.val)))) := jH (by rw [hFx.out, if_neg (show ¬ ((0 : Int) ≠ 0) by simp)])
 clear hFx
 have hbS := jD hbAH.out hGy1
 have hlS := jB hbS
 have hzS := hGy1.size
 have p9 := jA hbS 9
 have p10 := jA hbS 10
 simp at p9 p10
 obtain ⟨e2, he2⟩ : ∃ e, balE m.vv.1 m.vv.2 = e := ⟨_, rfl⟩
 have hFx : Hid (fieldsE m = (if e2 ≠ 0 then e2 else (if 1048576 < m.an then 2 else (if errI (vchk m.av) ≠ 0 then errI (vchk m.av) else cmdErr m.c.val)))) := jH (by rw [← he2]; exact hF2.out)
 rw [he2] at cU
 clear he2 hF2
 clear hbS
 go_wp2_with fail
 refine (cU.out _).mono ?_
 rintro e x2 ⟨rfl, hby⟩
 have hGy2 := hGy1.trans (hby.mono hzS)
 clear p9 p10
 clear hby hlS hzS hGy1
 by_cases hE : e2 = 0
 case neg =>
  have hEd : (e2 == 0) = false := by simpa using hE
  have hEn : (e2 != 0) = true := by simpa using hE
  have hT : Hid (e2 = q) := jH (by rw [← hq7.out, hFx.out, if_pos hE, if_pos hE])
  have hG := hb0.trans (hGy2.mono hz0)
  go_wp2
  go_ret
  exact ⟨jR hT.out, hG⟩
 subst hE
 have hF3 : Hid (fieldsE m = (if 1048576 < m.an then 2 else (if errI (vchk m.av) ≠ 0 then errI (vchk m.av) else cmdErr m.c.val))) := jH (by rw [hFx.out, if_neg (show ¬ ((0 : Int) ≠ 0) by simp)])
 clear hFx
 have hbS := jD hbAH.out hGy2
 have hlS := jB hbS
 have hzS := hGy2.size
 have p35 := jA hbS 35
 simp at p35
 clear hbS
 by_cases hn : 1048576 < m.an
 case pos =>
  have hnd : decide (1048576 < m.an) = true := decide_eq_true hn
  have hT : Hid ((2 : Int) = q) := jH (by rw [← hq7.out, hF3.out, if_pos hn]; rfl)
  have hG := hb0.trans (hGy2.mono hz0)
  clear hn
  go_wp2
  go_ret
  exact ⟨jR hT.out, hG⟩
 have hnd : decide (1048576 < m.an) = false := decide_eq_false hn
 have hF4 : Hid (fieldsE m = (if errI (vchk m.av) ≠ 0 then errI (vchk m.av) else cmdErr m.c.val)) := jH (by rw [hF3.out, if_neg hn])
 clear hn hF3
 have hbS := jD hbAH.out hGy2
 have hlS := jB hbS
 have hzS := hGy2.size
 have p36 := jA hbS 36
 have p37 := jA hbS 37
 have p38 := jA hbS 38
 have p39 := jA hbS 39
 have p40 := jA hbS 40
 have p41 := jA hbS 41
 have p42 := jA hbS 42
 have p43 := jA hbS 43
 simp at p36 p37 p38 p39 p40 p41 p42 p43
 obtain ⟨e4, he4⟩ : ∃ e, errI (vchk m.av) = e := ⟨_, rfl⟩
 have hFx : Hid (fieldsE m = (if e4 ≠ 0 then e4 else cmdErr m.c.val)) := jH (by rw [← he4]; exact hF4.out)
 rw [he4] at cV
 clear he4 hF4
 clear hbS
 go_wp2_with fail
 refine (cV.out _).mono ?_
 rintro e x4 ⟨rfl, hby⟩
 have hGy4 := hGy2.trans (hby.mono hzS)
 clear p36 p37 p38 p39 p40 p41 p42 p43
 clear hby hlS hzS hGy2
 by_cases hE : e4 = 0
 case neg =>
  have hEd : (e4 == 0) = false := by simpa using hE
  have hEn : (e4 != 0) = true := by simpa using hE
  have hT : Hid (e4 = q) := jH (by rw [← hq7.out, hFx.out, if_pos hE, if_pos hE])
  have hG := hb0.trans (hGy4.mono hz0)
  go_wp2
  go_ret
  exact ⟨jR hT.out, hG⟩
 subst hE
 have hF5 : Hid (fieldsE m = cmdErr m.c.val) := jH (by rw [hFx.out, if_neg (show ¬ ((0 : Int) ≠ 0) by simp)])
 clear hFx
 have hbS := jD hbAH.out hGy4
 have hlS := jB hbS
 have hzS := hGy4.size
 obtain ⟨e5, he5⟩ : ∃ e, cmdErr m.c.val = e := ⟨_, rfl⟩
 have hFx : Hid (fieldsE m = e5) := jH (by rw [← he5]; exact hF5.out)
 rw [he5] at cC
 clear he5 hF5
 replace hbS := jH hbS
 go_upto_region 15 with (fail)
 refine wp_region_list ?_
 refine wpList_step (fun K hK => ?_)
 rw [if_pos (by kernel_rfl)]
 go_simp
 refine hK _ _ ?_
 clear hK K
 refine wpList_load_midG (by kernel_rfl) _ _ rfl (w.heap.size) 11 rfl ↑m.c _ (rangeQ hbS.out 11 ↑m.c rfl) Tryz.underlying34 rfl (by kernel_rfl) ?_
 (try simp only [Act.put, List.setIfInBounds_toArray, List.set_cons_zero, List.set_cons_succ])
 go_wp2_with fail
 refine (cC.out _ (hb0.trans (hGy4.mono hz0))).mono ?_
 rintro e x5 ⟨rfl, hby⟩
 have hGy5 := hGy4.trans (hby.mono hzS)
 clear hby hlS hzS hGy4 hnd
 by_cases hE : e5 = 0
 case neg =>
  have hEd : (e5 == 0) = false := by simpa using hE
  have hEn : (e5 != 0) = true := by simpa using hE
  have hT : Hid (e5 = q) := jH (by rw [← hq7.out, hFx.out, if_pos hE])
  have hG := hb0.trans (hGy5.mono hz0)
  go_wp2
  go_ret
  exact ⟨jR hT.out, hG⟩
 subst hE
 have hq6 : Hid ((if sameMm (keptM m) m = true then (0 : Int) else 3) = q) := jH (by have h := hq7.out; rw [hFx.out, if_neg (show ¬ ((0 : Int) ≠ 0) by simp)] at h; exact h)
 clear hq7 hFx hq5
 have hbS := jH (jD hbAH.out hGy5)
 have hGS := jH (hb0.trans (hGy5.mono hz0))
 obtain ⟨w8, hw8⟩ : ∃ x, x = x5 := ⟨_, rfl⟩
 obtain rfl := hw8
 go_upto_region 18 with (fail)
 refine wp_region_list ?_
 refine wpList_load_row rfl _ _ rfl (w.heap.size) rfl 38 _ (0, 0) _ hbS.out Tryz.underlying38 rfl (by kernel_rfl) ?_
 refine wpList_plain rfl (fun K hK => ?_)
 go_simp
 refine hK _ _ ?_
 clear hK K
 refine wpList_store_row rfl _ _ _ rfl (w8.heap.size) ↑m rfl rfl 38 ↑Zm.mk (jT _ _ rfl) (by kernel_rfl) rfl (by simp [Value.oneCell']) ?_
 have hsr := World.setRow_alloc_new w8 ↑Zm.mk ↑m 38
 rw [hsr]
 clear hsr
 obtain ⟨w9, hw9⟩ : ∃ x, x = w8.alloc (.cells ↑m 38) := ⟨_, rfl⟩
 rw [← hw9]
 have hR0 := RN.made hbS.out hGS.out hw9
 have hk : ∃ g, g = w8.heap.size := ⟨_, rfl⟩
 obtain ⟨g, hg⟩ := hk
 rw [← hg] at hR0 ⊢
 clear hw9 hg hGy5 hbS hGS
 (try simp only [Act.put])
 obtain ⟨f1, hf1⟩ : ∃ b, b = hB m.kd := ⟨_, rfl⟩
 have c1 := jH (fun w' => cHB.out w')
 rw [← hf1] at c1
 replace hf1 := jH hf1
 have hRH1 := jH hR0
 have hzR := hR0.bel.size
 have hltR := jB hR0.msg
 have hltG := jB hR0.res
 clear hR0
 go_upto_region 19 with (fail)
 refine wp_region_list ?_
 refine wpList_load_row rfl _ _ rfl (w.heap.size) rfl 38 _ (0, 0) _ hRH1.out.msg Tryz.underlying38 rfl (by kernel_rfl) ?_
 (try simp only [Act.put, List.setIfInBounds_toArray, List.set_cons_zero, List.set_cons_succ])
 go_wp2_with fail
 refine (c1.out _).mono ?_
 rintro e wy ⟨rfl, hby⟩
 have hRy := jH (hRH1.out.below hby)
 have hltR := jB hRy.out.msg
 have hltG := jB hRy.out.res
 have hfG := jE hRy.out.res
 go_upto_if 76 with (fail)
 go_cut [] (fun wx => RN w wx g m (m.uB f1))
 case first =>
  cases f1 with
  | true =>
   go_wp2_with fail
   go_meet
   exact hRy.out
  | false =>
   go_upto_region 20 with (fail)
   refine wp_region_list ?_
   refine wpList_buildK rfl _ _ rfl (cells := #[.int .u32 0, .int .i64 0]) (by kernel_rfl) ?_
   refine wpList_step (fun K hK => ?_)
   rw [if_pos (by kernel_rfl)]
   go_simp
   refine hK _ _ ?_
   clear hK K
   refine wpList_store_mid rfl _ _ _ rfl g 6 #[.int .u32 0, .int .i64 0] rfl rfl (there_rn hRy.out 6 2 (by decide)) (by kernel_rfl) (by simp [Value.oneCell']) ?_
   (try simp only [Act.put])
   go_wp2_with fail
   go_meet
   exact hRy.out.store 6 [.int .u32 0, .int .i64 0] (by simp) rfl
 case rest =>
 obtain ⟨x1, hx1⟩ : ∃ x, x = wc := ⟨_, rfl⟩
 obtain rfl := hx1
 have hR1 := hcut
 clear hcut hRy hby hzR hltR hltG hfG hRH1 c1
 obtain ⟨m1, hm1⟩ : ∃ x, x = (m.uB f1) := ⟨_, rfl⟩
 rw [← hm1] at hR1
 replace hm1 := jH hm1
 obtain ⟨f2, hf2⟩ : ∃ b, b = hS m.kd := ⟨_, rfl⟩
 have hsd : (m.kd == 7) = f2 := hf2.symm
 have hsn : (m.kd != 7) = !f2 := by rw [← hsd]; rfl
 replace hf2 := jH hf2
 have hRy := jH hR1
 have hby := trivial
 have hzR := hR1.bel.size
 have hltR := jB hR1.msg
 have hltG := jB hR1.res
 have hfG := jE hR1.res
 have p0 := jA hR1.msg 0
 have r8 := jA hR1.res 8
 simp at p0 r8
 clear hR1
 go_upto_if 81 with (fail)
 go_cut [] (fun wx => RN w wx g m (m1.uS f2))
 case first =>
  cases f2 with
  | true =>
   go_wp2_with fail
   go_meet
   exact hRy.out
  | false =>
   go_wp2_with fail
   go_meet
   exact hRy.out.store 8 [.int .i64 0] (by simp) rfl
 case rest =>
 obtain ⟨x2, hx2⟩ : ∃ x, x = wc := ⟨_, rfl⟩
 obtain rfl := hx2
 have hR2 := hcut
 clear hcut hRy hby hzR hltR hltG hfG p0 r8 hsd hsn
 obtain ⟨m2, hm2⟩ : ∃ x, x = (m1.uS f2) := ⟨_, rfl⟩
 rw [← hm2] at hR2
 replace hm2 := jH hm2
 obtain ⟨f3, hf3⟩ : ∃ b, b = hV m.kd m.st := ⟨_, rfl⟩
 have c3 := jH (fun w' => cHV.out w')
 rw [← hf3] at c3
 replace hf3 := jH hf3
 have hRH3 := jH hR2
 have hzR := hR2.bel.size
 have hltR := jB hR2.msg
 have hltG := jB hR2.res
 clear hR2
 go_upto_region 23 with (fail)
 refine wp_region_list ?_
 refine wpList_load_row rfl _ _ rfl (w.heap.size) rfl 38 _ (0, 0) _ hRH3.out.msg Tryz.underlying38 rfl (by kernel_rfl) ?_
 (try simp only [Act.put, List.setIfInBounds_toArray, List.set_cons_zero, List.set_cons_succ])
 go_wp2_with fail
 refine (c3.out _).mono ?_
 rintro e wy ⟨rfl, hby⟩
 have hRy := jH (hRH3.out.below hby)
 have hltR := jB hRy.out.msg
 have hltG := jB hRy.out.res
 have hfG := jE hRy.out.res
 go_upto_if 85 with (fail)
 go_cut [] (fun wx => RN w wx g m (m2.uV f3))
 case first =>
  cases f3 with
  | true =>
   go_wp2_with fail
   go_meet
   exact hRy.out
  | false =>
   go_upto_region 24 with (fail)
   refine wp_region_list ?_
   refine wpList_buildK rfl _ _ rfl (cells := #[.int .u32 0, .int .i64 0]) (by kernel_rfl) ?_
   refine wpList_step (fun K hK => ?_)
   rw [if_pos (by kernel_rfl)]
   go_simp
   refine hK _ _ ?_
   clear hK K
   refine wpList_store_mid rfl _ _ _ rfl g 9 #[.int .u32 0, .int .i64 0] rfl rfl (there_rn hRy.out 9 2 (by decide)) (by kernel_rfl) (by simp [Value.oneCell']) ?_
   (try simp only [Act.put])
   go_wp2_with fail
   go_meet
   exact hRy.out.store 9 [.int .u32 0, .int .i64 0] (by simp) rfl
 case rest =>
 obtain ⟨x3, hx3⟩ : ∃ x, x = wc := ⟨_, rfl⟩
 obtain rfl := hx3
 have hR3 := hcut
 clear hcut hRy hby hzR hltR hltG hfG hRH3 c3
 obtain ⟨m3, hm3⟩ : ∃ x, x = (m2.uV f3) := ⟨_, rfl⟩
 rw [← hm3] at hR3
 replace hm3 := jH hm3
 obtain ⟨f4, hf4⟩ : ∃ b, b = hC m.kd m.st := ⟨_, rfl⟩
 have c4 := jH (fun w' => cHC.out w')
 rw [← hf4] at c4
 replace hf4 := jH hf4
 have hRH4 := jH hR3
 have hzR := hR3.bel.size
 have hltR := jB hR3.msg
 have hltG := jB hR3.res
 clear hR3
 go_upto_region 25 with (fail)
 refine wp_region_list ?_
 refine wpList_load_row rfl _ _ rfl (w.heap.size) rfl 38 _ (0, 0) _ hRH4.out.msg Tryz.underlying38 rfl (by kernel_rfl) ?_
 (try simp only [Act.put, List.setIfInBounds_toArray, List.set_cons_zero, List.set_cons_succ])
 go_wp2_with fail
 refine (c4.out _).mono ?_
 rintro e wy ⟨rfl, hby⟩
 have hRy := jH (hRH4.out.below hby)
 have hltR := jB hRy.out.msg
 have hltG := jB hRy.out.res
 have hfG := jE hRy.out.res
 go_upto_if 90 with (fail)
 go_cut [] (fun wx => RN w wx g m (m3.uC f4))
 case first =>
  cases f4 with
  | true =>
   go_wp2_with fail
   go_meet
   exact hRy.out
  | false =>
   go_upto_region 26 with (fail)
   refine wp_region_list ?_
   refine wpList_buildK rfl _ _ rfl (cells := ↑Zc.mk) (by kernel_rfl) ?_
   refine wpList_step (fun K hK => ?_)
   rw [if_pos (by kernel_rfl)]
   go_simp
   refine hK _ _ ?_
   clear hK K
   refine wpList_store_mid rfl _ _ _ rfl g 11 ↑Zc.mk rfl rfl (there_rn hRy.out 11 24 (by decide)) (by kernel_rfl) (by simp [Value.oneCell']) ?_
   (try simp only [Act.put])
   go_wp2_with fail
   go_meet
   exact hRy.out.store 11 [.int .i64 0, .int .i64 0, .int .u32 0, .int .u32 0, .int .u32 0, .int .u32 0, .int .u32 0, .int .u32 0, .int .u32 0, .int .u32 0, .int .u32 0, .bool false, .slice none 0 0, .int .i64 0, .int .i64 0, .slice none 0 0, .int .u32 0, .int .u32 0, .int .u32 0, .int .u32 0, .int .u32 0, .int .u32 0, .int .u32 0, .int .u32 0] (by simp) rfl
 case rest =>
 obtain ⟨x4, hx4⟩ : ∃ x, x = wc := ⟨_, rfl⟩
 obtain rfl := hx4
 have hR4 := hcut
 clear hcut hRy hby hzR hltR hltG hfG hRH4 c4
 obtain ⟨m4, hm4⟩ : ∃ x, x = (m3.uC f4) := ⟨_, rfl⟩
 rw [← hm4] at hR4
 replace hm4 := jH hm4
 obtain ⟨f5, hf5⟩ : ∃ b, b = hA m.kd m.st := ⟨_, rfl⟩
 have c5 := jH (fun w' => cHA.out w')
 rw [← hf5] at c5
 replace hf5 := jH hf5
 have hRH5 := jH hR4
 have hzR := hR4.bel.size
 have hltR := jB hR4.msg
 have hltG := jB hR4.res
 clear hR4
 go_upto_region 27 with (fail)
 refine wp_region_list ?_
 refine wpList_load_row rfl _ _ rfl (w.heap.size) rfl 38 _ (0, 0) _ hRH5.out.msg Tryz.underlying38 rfl (by kernel_rfl) ?_
 (try simp only [Act.put, List.setIfInBounds_toArray, List.set_cons_zero, List.set_cons_succ])
 go_wp2_with fail
 refine (c5.out _).mono ?_
 rintro e wy ⟨rfl, hby⟩
 have hRy := jH (hRH5.out.below hby)
 have hltR := jB hRy.out.msg
 have hltG := jB hRy.out.res
 have hfG := jE hRy.out.res
 go_upto_if 95 with (fail)
 go_cut [] (fun wx => RN w wx g m (m4.uA f5))
 case first =>
  cases f5 with
  | true =>
   go_wp2_with fail
   go_meet
   exact hRy.out
  | false =>
   go_upto_region 28 with (fail)
   refine wp_region_list ?_
   refine wpList_buildK rfl _ _ rfl (cells := #[.int .u32 0, .int .u32 0, .int .u32 0, .int .u32 0, .int .u32 0, .int .u32 0, .int .u32 0, .int .u32 0, .int .u32 0]) (by kernel_rfl) ?_
   refine wpList_step (fun K hK => ?_)
   rw [if_pos (by kernel_rfl)]
   go_simp
   refine hK _ _ ?_
   clear hK K
   refine wpList_store_mid rfl _ _ _ rfl g 35 #[.int .u32 0, .int .u32 0, .int .u32 0, .int .u32 0, .int .u32 0, .int .u32 0, .int .u32 0, .int .u32 0, .int .u32 0] rfl rfl (there_rn hRy.out 35 9 (by decide)) (by kernel_rfl) (by simp [Value.oneCell']) ?_
   (try simp only [Act.put])
   go_wp2_with fail
   go_meet
   exact hRy.out.store 35 [.int .u32 0, .int .u32 0, .int .u32 0, .int .u32 0, .int .u32 0, .int .u32 0, .int .u32 0, .int .u32 0, .int .u32 0] (by simp) rfl
 case rest =>
 obtain ⟨x5, hx5⟩ : ∃ x, x = wc := ⟨_, rfl⟩
 obtain rfl := hx5
 have hR5 := hcut
 clear hcut hRy hby hzR hltR hltG hfG hRH5 c5
 obtain ⟨m5, hm5⟩ : ∃ x, x = (m4.uA f5) := ⟨_, rfl⟩
 rw [← hm5] at hR5
 replace hm5 := jH hm5
 have hon : m5 = onlyM f1 f2 f3 f4 f5 m := by rw [hm5.out, hm4.out, hm3.out, hm2.out, hm1.out]; exact onlyM_u _ _ _ _ _ _
 have hcS := cS.out f1 f2 f3 f4 f5
 rw [← hon] at hcS
 have hsm : sameAll m5 m = sameMm (keptM m) m := by
  rw [← same_kept, hon, hf1.out, hf2.out, hf3.out, hf4.out, hf5.out]; rfl
 rw [hsm] at hcS
 replace hcS := jH hcS
 generalize sameMm (keptM m) m = sm at hcS hq6
 have hRH := jH hR5
 have hGx := jH hR5.bel
 clear hsm hon hm1 hm2 hm3 hm4 hm5 hf1 hf2 hf3 hf4 hf5 cS hR5
 go_upto_region 29 with (fail)
 refine wp_region_list ?_
 refine wpList_load_row rfl _ _ rfl (g) rfl 38 _ (0, 0) _ hRH.out.res Tryz.underlying38 rfl (by kernel_rfl) ?_
 refine wpList_load_row rfl _ _ rfl (w.heap.size) rfl 38 _ (0, 0) _ hRH.out.msg Tryz.underlying38 rfl (by kernel_rfl) ?_
 (try simp only [Act.put, List.setIfInBounds_toArray, List.set_cons_zero, List.set_cons_succ])
 go_wp2_with fail
 refine (hcS.out _ hGx.out).mono ?_
 rintro e wy ⟨rfl, hby⟩
 have hG := hGx.out.trans (hby.mono hGx.out.size)
 cases sm with
 | true =>
  have hT : Hid ((0 : Int) = q) := jH (by rw [← hq6.out, if_pos rfl])
  go_wp2
  go_ret
  exact ⟨jR hT.out, hG⟩
 | false =>
  have hT : Hid ((3 : Int) = q) := jH (by rw [← hq6.out, if_neg (by decide)])
  go_wp2
  go_ret
  exact ⟨jR hT.out, hG⟩
end Go.Proofs.YtfhandglpjnonaaGreatDoor
