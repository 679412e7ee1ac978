/- inst.checkFields. (inst.has).only. -/
import Derived.Test.YtfhandglpjnonaaGreatDoorN21
import Derived.Laws.CopyOwn
set_option maxRecDepth 100000
set_option maxHeartbeats 16000000
namespace Go.Proofs.YtfhandglpjnonaaGreatDoor
open Go.RowKit
def fieldsE (m : Mm) : Int := if errI (chk m.i) ≠ 0 then errI (chk m.i) else if balE m.b.1 m.b.2 ≠ 0 then balE m.b.1 m.b.2 else if balE m.vv.1 m.vv.2 ≠ 0 then balE m.vv.1 m.vv.2 else
 if 1048576 < m.an then 2 else if errI (vchk m.av) ≠ 0 then errI (vchk m.av) else cmdErr m.c.val
structure Mm.Fit (w : World) (m : Mm) : Prop where
 c : m.c.Fit w
 i : m.i.wf
 av : m.av.wf
theorem Mm.Fit.below {w w' : World} {m : Mm} (h : m.Fit w) (hb : Below w.heap.size w w') : m.Fit w' := ⟨h.c.below hb, h.i, h.av⟩
theorem fields_any (m : Mm) (w : World) (hA : m.Fit w) (hV : VarM w) :
 Calls Tryz.prog 27 #[.agg ↑m] w fun e w' => e = .returned (.int .i64 (fieldsE m)) ∧ Below w.heap.size w w' := by
 generalize hr : fieldsE m = q
 unfold fieldsE at hr
 have cI := jH (fun w' => chk_any m.i hA.i w')
 have cB := jH (fun a b w' => bchk_any a b w')
 have cV := jH (fun w' => vcheck_any m.av w')
 have cC := jH (fun w' (h : Below w.heap.size w w') => chkcmd_any m.c w' (hA.c.below h) (hV.below h hV.lt))
 have hb0 : Below w.heap.size w (w.alloc (.cells ↑m 50)) := (Below.refl _ w).alloc (Nat.le_refl _) _
 have hbA : (w.alloc (.cells ↑m 50)).heap[w.heap.size]? = some (.cells ↑m 50 (0, 0)) := jT _ _ rfl
 generalize hW : (w.alloc (.cells ↑m 50)) = W at hb0 hbA
 have hz0 := hb0.size
 have hltA := jB hbA
 have p4 := jA hbA 4
 have p5 := jA hbA 5
 have p6 := jA hbA 6
 have p7 := jA hbA 7
 simp at p4 p5 p6 p7
 have hbAH := jH hbA
 have hrH := jH hr
 clear hbA hr hA
 obtain ⟨eI, heI⟩ : ∃ eI, errI (chk m.i) = eI := ⟨_, rfl⟩
 rw [heI] at cI hrH
 clear heI
 by_cases hI : eI = 0
 case neg =>
  have hd : (eI == 0) = false := by simpa using hI
  have hT : Hid (eI = q) := jH (by rw [← hrH.out, if_pos hI])
  go_enter Tryz.func27, Tryz.ntmps27
  go_wp2_with fail
  refine (cI.out _).mono ?_
  rintro e w1 ⟨rfl, hb1⟩
  have hG := hb0.trans (hb1.mono hz0)
  clear p4 p5 p6 p7
  go_wp2
  go_ret
  exact ⟨jR hT.out, hG⟩
 subst hI
 have hq1 : Hid ((if balE m.b.1 m.b.2 ≠ 0 then balE m.b.1 m.b.2 else if balE m.vv.1 m.vv.2 ≠ 0 then balE m.vv.1 m.vv.2 else if 1048576 < m.an then 2 else if errI (vchk m.av) ≠ 0 then errI (vchk m.av) else cmdErr m.c.val) = q) := jH (by
  have h := hrH.out
  rw [if_neg (show ¬ ((0 : Int) ≠ 0) by simp)] at h
  exact h)
 go_enter Tryz.func27, Tryz.ntmps27
 go_wp2_with fail
 refine (cI.out _).mono ?_
 rintro e w1 ⟨rfl, hb1⟩
 have hb01 := hb0.trans (hb1.mono hz0)
 have hz1 := hb01.size
 have hbA1 := jD hbAH.out hb1
 clear p4 p5 p6 p7
 have p6 := jA hbA1 6
 have p7 := jA hbA1 7
 have p8 := jA hbA1 8
 have p9 := jA hbA1 9
 have p10 := jA hbA1 10
 simp at p6 p7 p8 p9 p10
 have hlA1 := jB hbA1
 have hbA1H := jH hbA1
 clear hbA1
 go_wp2_with fail
 go_loopg [19] 3 (fun gg iv wr => ∃ (j : Nat), j ≤ 2 ∧ gg = 3 - j ∧ iv = .int .i64 (j : Int) ∧ (0 < j → balE m.b.1 m.b.2 = 0) ∧ (1 < j → balE m.vv.1 m.vv.2 = 0) ∧ Below W.heap.size W wr)
 case atStart => exact ⟨0, Nat.zero_le _, rfl, rfl, by omega, by omega, hb1⟩
 case round =>
  obtain ⟨j, hj, rfl, rfl, hj1, hj2, hbr⟩ := hrel
  clear p6 p7 p8 p9 p10
  have hb0v := hb0.trans (hbr.mono hz0)
  have hzv := hb0v.size
  have hj1H := jH hj1
  have hj2H := jH hj2
  clear hj1 hj2
  have hj3 : j = 0 ∨ j = 1 ∨ j = 2 := by omega
  have ix0 : ∀ w', (Instr.index 152 (.agg #[.int .u32 m.b.1, .int .i64 m.b.2, .int .u32 m.vv.1, .int .i64 m.vv.2]) (.int .i64 0)).run Tryz.prog w' = .ok (.agg #[.int .u32 m.b.1, .int .i64 m.b.2]) w' := fun _ => by kernel_rfl
  have ix1 : ∀ w', (Instr.index 152 (.agg #[.int .u32 m.b.1, .int .i64 m.b.2, .int .u32 m.vv.1, .int .i64 m.vv.2]) (.int .i64 1)).run Tryz.prog w' = .ok (.agg #[.int .u32 m.vv.1, .int .i64 m.vv.2]) w' := fun _ => by kernel_rfl
  rcases hj3 with rfl | rfl | rfl
  ·
   have hjj : (0 : Int) < 2 := by decide
   obtain ⟨eB, heB⟩ : ∃ eB, balE m.b.1 m.b.2 = eB := ⟨_, rfl⟩
   have hTn : Hid (eB ≠ 0 → eB = q) := jH (fun hn => by rw [← hq1.out, heB, if_pos hn])
   have cb := jH (fun w' => cB.out m.b.1 m.b.2 w')
   rw [heB] at cb
   by_cases hB : eB = 0
   case neg =>
    have hd : (eB == 0) = false := by simpa using hB
    have hT : Hid (eB = q) := jH (hTn.out hB)
    clear heB
    go_wp2_with fail
    refine (cb.out _).mono ?_
    rintro e w2 ⟨rfl, hb2⟩
    have hG := (hb0v.alloc hzv _).trans (hb2.mono (by simp; omega))
    go_wp2
    go_ret
    exact ⟨jR hT.out, hG⟩
   subst hB
   replace heB := jH heB
   go_wp2_with fail
   refine (cb.out _).mono ?_
   rintro e w2 ⟨rfl, hb2⟩
   have hG := (hbr.alloc hbr.size _).trans (hb2.mono (by have := hbr.size; simp; omega))
   go_wp2
   go_roundg (3 - 1)
   case measure => omega
   case rel => exact ⟨1, by omega, rfl, rfl, fun _ => heB.out, by omega, hG⟩
  ·
   have hjj : (1 : Int) < 2 := by decide
   obtain ⟨eB, heB⟩ : ∃ eB, balE m.vv.1 m.vv.2 = eB := ⟨_, rfl⟩
   have hq1b : Hid ((if balE m.vv.1 m.vv.2 ≠ 0 then balE m.vv.1 m.vv.2 else if 1048576 < m.an then 2 else if errI (vchk m.av) ≠ 0 then errI (vchk m.av) else cmdErr m.c.val) = q) := jH (by
    have h := hq1.out
    rw [hj1H.out (by omega), if_neg (show ¬ ((0 : Int) ≠ 0) by simp)] at h
    exact h)
   have hTn : Hid (eB ≠ 0 → eB = q) := jH (fun hn => by rw [← hq1b.out, heB, if_pos hn])
   have cb := jH (fun w' => cB.out m.vv.1 m.vv.2 w')
   rw [heB] at cb
   by_cases hB : eB = 0
   case neg =>
    have hd : (eB == 0) = false := by simpa using hB
    have hT : Hid (eB = q) := jH (hTn.out hB)
    clear heB
    go_wp2_with fail
    refine (cb.out _).mono ?_
    rintro e w2 ⟨rfl, hb2⟩
    have hG := (hb0v.alloc hzv _).trans (hb2.mono (by simp; omega))
    go_wp2
    go_ret
    exact ⟨jR hT.out, hG⟩
   subst hB
   replace heB := jH heB
   go_wp2_with fail
   refine (cb.out _).mono ?_
   rintro e w2 ⟨rfl, hb2⟩
   have hG := (hbr.alloc hbr.size _).trans (hb2.mono (by have := hbr.size; simp; omega))
   go_wp2
   go_roundg (3 - 2)
   case measure => omega
   case rel => exact ⟨2, by omega, rfl, rfl, fun _ => hj1H.out (by omega), fun _ => heB.out, hG⟩
  ·
   have hq2 : Hid ((if 1048576 < m.an then 2 else if errI (vchk m.av) ≠ 0 then errI (vchk m.av) else cmdErr m.c.val) = q) := jH (by
    have h := hq1.out
    rw [hj1H.out (by omega), if_neg (show ¬ ((0 : Int) ≠ 0) by simp), hj2H.out (by omega), if_neg (show ¬ ((0 : Int) ≠ 0) by simp)] at h
    exact h)
   have hbA2 := jD hbAH.out hbr
   have hlA2 := jB hbA2
   have p35 := jA hbA2 35
   have p36 := jA hbA2 36
   have p37 := jA hbA2 37
   have p38 := jA hbA2 38
   have p39 := jA hbA2 39
   have p40 := jA hbA2 40
   have p41 := jA hbA2 41
   have p42 := jA hbA2 42
   have p43 := jA hbA2 43
   simp at p35 p36 p37 p38 p39 p40 p41 p42 p43
   clear hbA2
   by_cases hn : 1048576 < m.an
   ·
    have hd : decide ((1048576 : Int) < m.an) = true := decide_eq_true hn
    have hT : Hid ((2 : Int) = q) := jH (by rw [← hq2.out, if_pos hn])
    go_wp2
    go_ret
    exact ⟨jR hT.out, hb0v⟩
   have hd : decide ((1048576 : Int) < m.an) = false := decide_eq_false hn
   have hq3 : Hid ((if errI (vchk m.av) ≠ 0 then errI (vchk m.av) else cmdErr m.c.val) = q) := jH (by rw [← hq2.out, if_neg hn])
   obtain ⟨eV, heV⟩ : ∃ eV, errI (vchk m.av) = eV := ⟨_, rfl⟩
   rw [heV] at cV hq3
   clear heV
   by_cases hv : eV = 0
   case neg =>
    have hdv : (eV == 0) = false := by simpa using hv
    have hT : Hid (eV = q) := jH (by rw [← hq3.out, if_pos hv])
    go_wp2_with fail
    refine (cV.out _).mono ?_
    rintro e w2 ⟨rfl, hb2⟩
    have hG := hb0v.trans (hb2.mono hzv)
    clear p35 p36 p37 p38 p39 p40 p41 p42 p43
    go_wp2
    go_ret
    exact ⟨jR hT.out, hG⟩
   subst hv
   have hq4 : Hid (cmdErr m.c.val = q) := jH (by rw [← hq3.out, if_neg (by simp)])
   go_wp2_with fail
   refine (cV.out _).mono ?_
   rintro e w2 ⟨rfl, hb2⟩
   have hb02 := hb0v.trans (hb2.mono hzv)
   have hbA3 := jH (jD hbAH.out (hbr.trans (hb2.mono hbr.size)))
   clear p35 p36 p37 p38 p39 p40 p41 p42 p43
   go_upto_region 16 with (fail)
   refine wp_region_list ?_
   refine wpList_step (fun K hK => ?_)
   rw [if_pos (by kernel_rfl)]
   go_simp
   refine hK _ _ ?_
   clear hK K
   refine wpList_load_midG (by kernel_rfl) _ _ rfl (w.heap.size) 11 rfl ↑m.c _ (rangeQ hbA3.out 11 ↑m.c rfl) Tryz.underlying47 rfl (by kernel_rfl) ?_
   (try simp only [Act.put, List.setIfInBounds_toArray, List.set_cons_zero, List.set_cons_succ])
   go_wp2_with fail
   refine (cC.out _ hb02).mono ?_
   rintro e w3 ⟨rfl, hb3⟩
   have hG := hb02.trans (hb3.mono hb02.size)
   go_wp2
   go_ret
   exact ⟨jR hq4.out, hG⟩
def putL (cs : Array Value) : Nat → List Value → Array Value
 | _, [] => cs
 | o, v :: r => putL (cs.setIfInBounds o v) (o + 1) r
theorem putL_list : ∀ (l : List Value) (o : Nat) (cs : List Value), o + l.length ≤ cs.length → putL cs.toArray o l = (cs.take o ++ (l ++ cs.drop (o + l.length))).toArray
 | [], o, cs, h => by simp [putL]
 | v :: r, o, cs, h => by
  have h' : o + 1 + r.length ≤ cs.length := by simp at h; omega
  unfold putL
  rw [List.setIfInBounds_toArray, putL_list r (o + 1) (cs.set o v) (by simpa using h')]
  congr 1
  have e : cs.set o v = cs.take o ++ v :: cs.drop (o + 1) := by rw [List.set_eq_take_append_cons_drop, if_pos (by omega)]
  have hl : (cs.take o).length = o := by simp; omega
  have e1 : (cs.set o v).take (o + 1) = cs.take o ++ [v] := by
   rw [e, List.take_append, hl, show o + 1 - o = 1 by omega, List.take_of_length_le (by omega)]
   rfl
  have e2 : (cs.set o v).drop (o + 1 + r.length) = cs.drop (o + (v :: r).length) := by
   rw [List.drop_set_of_lt (by omega)]
   congr 1; simp; omega
  rw [e1, e2]; simp
theorem blk_setCells {b : Nat} {t : TypeId} : ∀ (l : List Value) (o : Nat) (w : World) (cs : Array Value), w.heap[b]? = some (.cells cs t (0, 0)) → (w.setCells b o l).heap[b]? = some (.cells (putL cs o l) t (0, 0))
 | [], _, _, _, h => h
 | v :: r, o, _w, _cs, h => blk_setCells r (o + 1) _ _ (jO h o v)
theorem jX {b k : Nat} {x : Option Obj} (hb : b ≠ k) : ∀ (l : List Value) (o : Nat) (w : World), w.heap[k]? = x → (w.setCells b o l).heap[k]? = x
 | [], _, _, h => h
 | _ :: r, o, _, h => jX hb r (o + 1) _ (yG hb h)
theorem jV {B b : Nat} {a : World} (hb : B ≤ b) : ∀ (l : List Value) (o : Nat) (w : World), Below B a w → Below B a (w.setCells b o l)
 | [], _, _, h => h
 | _ :: r, o, _, h => jV hb r (o + 1) _ (h.setCell hb _)
theorem results_cellQ {P : Program} {fn : Func} {tmps : Array Value} {v : Value} {w : World} (a : Nat) (t : TypeId) (hf : fn.results = #[ResultVar.cell a t]) (g : Nat) (hx : tmps.getD a undef = .pointer (some ⟨g, 0, none⟩))
 (h : (loadVar t ⟨g, 0, none⟩).run P w = .ok v w) : (results fn tmps).run P w = .ok v w := by
 unfold results
 rw [hf]
 have hx' : tmps[a]?.getD undef = .pointer (some ⟨g, 0, none⟩) := by simpa using hx
 rw [show ∀ f : ResultVar → Sem Value, (#[ResultVar.cell a t].mapM f : Sem (Array Value)) = (do let x ← f (ResultVar.cell a t); pure #[x]) from fun f => by simp [Array.mapM_eq_mapM_toList]]
 simp only [hx, asAddr, Sem.run_bind, Sem.run_pure, Result.andThen_ok, h]
 rfl
def zCm : Cm := ⟨0, (0, 0), zeroQ, false, none, 0, 0, [], 0, 0, none, 0, 0, [], zeroQ⟩
def Mm.uB (m : Mm) (h : Bool) : Mm := ⟨m.kd, m.fr, m.dst, m.ep, m.i, if h then m.b else (0, 0), m.st, m.vv, m.c, m.an, m.av⟩
def Mm.uS (m : Mm) (h : Bool) : Mm := ⟨m.kd, m.fr, m.dst, m.ep, m.i, m.b, if h then m.st else 0, m.vv, m.c, m.an, m.av⟩
def Mm.uV (m : Mm) (h : Bool) : Mm := ⟨m.kd, m.fr, m.dst, m.ep, m.i, m.b, m.st, if h then m.vv else (0, 0), m.c, m.an, m.av⟩
def Mm.uC (m : Mm) (h : Bool) : Mm := ⟨m.kd, m.fr, m.dst, m.ep, m.i, m.b, m.st, m.vv, if h then m.c else zCm, m.an, m.av⟩
def Mm.uA (m : Mm) (h : Bool) : Mm := ⟨m.kd, m.fr, m.dst, m.ep, m.i, m.b, m.st, m.vv, m.c, if h then m.an else 0, if h then m.av else zeroQ⟩
def onlyM (hb hs hv hc ha : Bool) (m : Mm) : Mm := ⟨m.kd, m.fr, m.dst, m.ep, m.i, if hb then m.b else (0, 0), if hs then m.st else 0, if hv then m.vv else (0, 0), if hc then m.c else zCm, if ha then m.an else 0, if ha then m.av else zeroQ⟩
theorem onlyM_u (hb hs hv hc ha : Bool) (m : Mm) : ((((m.uB hb).uS hs).uV hv).uC hc).uA ha = onlyM hb hs hv hc ha m := rfl
def OnlyP (hb hs hv hc ha : Bool) (m : Mm) (e : Ending) : Prop := ∃ n, n = onlyM hb hs hv hc ha m ∧ e = .returned (.agg ↑n)
structure ON (w wx : World) (hb hs hv hc ha : Bool) (n : Mm) : Prop where
 has : wx.heap[w.heap.size]? = some (.cells #[.bool hb, .bool hs, .bool hv, .bool hc, .bool ha] 83 (0, 0))
 msg : wx.heap[w.heap.size + 1]? = some (.cells ↑n 50 (0, 0))
 res : wx.heap[w.heap.size + 2]? = some (.cells ↑Zm.mk 50 (0, 0))
 bel : Below w.heap.size w wx
theorem ON.store {w wx : World} {hb hs hv hc ha : Bool} {n n' : Mm} (h : ON w wx hb hs hv hc ha n) (o : Nat) (l : List Value) (hl : o + l.length ≤ 44) (he : (n : Array Value).toList.take o ++ (l ++ (n : Array Value).toList.drop (o + l.length)) = (n' : Array Value).toList) : ON w (wx.setCells (w.heap.size + 1) o l) hb hs hv hc ha n' :=
 ⟨jX (by omega) l o wx h.has, (by have h1 := blk_setCells l o wx _ h.msg; have h2 := putL_list l o (n : Array Value).toList hl; rw [he] at h2; have h3 : putL ↑n o l = ↑n' := h2; rw [h3] at h1; exact h1), jX (by omega) l o wx h.res, jV (by omega) l o wx h.bel⟩
theorem there_msg {w wx : World} {hb hs hv hc ha : Bool} {n : Mm} (h : ON w wx hb hs hv hc ha n) (o k : Nat) (hk : o + k ≤ 44) : wx.there (w.heap.size + 1) o k := fun j hj => by
 refine ⟨?_, ?_⟩
 ·
  rw [jA h.msg]; have : o + j < 44 := by omega
  simp; omega
 ·
  exact jE h.msg _
theorem only_any (hb hs hv hc ha : Bool) (m : Mm) (w : World) :
 Calls Tryz.prog 30 #[.agg #[.bool hb, .bool hs, .bool hv, .bool hc, .bool ha], .agg ↑m] w fun e w' => OnlyP hb hs hv hc ha m e ∧ Below w.heap.size w w' := by
 have hO : ON w (((w.alloc (.cells #[.bool hb, .bool hs, .bool hv, .bool hc, .bool ha] 83)).alloc (.cells ↑m 50)).alloc (.cells ↑Zm.mk 50)) hb hs hv hc ha m := ⟨yE _ (by simp; try omega) (yE _ (by simp) (jT _ _ rfl)), yE _ (by simp) (jT _ _ (by simp)), jT _ _ (by simp), (((Below.refl _ w).alloc (Nat.le_refl _) _).alloc (by simp) _).alloc (by simp; omega) _⟩
 generalize hW : (((w.alloc (.cells #[.bool hb, .bool hs, .bool hv, .bool hc, .bool ha] 83)).alloc (.cells ↑m 50)).alloc (.cells ↑Zm.mk 50)) = W at hO
 go_enter Tryz.func30, Tryz.ntmps30
 go_upto_region 1 with (fail)
 clear hW
 have p0 := jA hO.has 0
 simp at p0
 have hlH := jB hO.has
 have hlM := jB hO.msg
 have hfM := jE hO.msg
 have hOH := jH hO
 clear hO
 go_upto_if 7 with (fail)
 go_cut [] (fun wx => ON w wx hb hs hv hc ha (m.uB hb))
 case first =>
  cases hb with
  | true =>
   go_wp2_with fail
   go_meet
   exact hOH.out
  | false =>
   go_upto_region 2 with (fail)
   refine wp_region_list ?_
   refine wpList_buildK rfl _ _ rfl (cells := #[.int .u32 0, .int .i64 0]) (by kernel_rfl) ?_
   refine wpList_step (fun K hK => ?_)
   rw [if_pos (by kernel_rfl)]
   go_simp
   refine hK _ _ ?_
   clear hK K
   refine wpList_store_mid rfl _ _ _ rfl (w.heap.size + 1) 6 #[.int .u32 0, .int .i64 0] rfl rfl (there_msg hOH.out 6 2 (by decide)) (by kernel_rfl) (by simp [Value.oneCell']) ?_
   (try simp only [Act.put])
   go_wp2_with fail
   go_meet
   exact hOH.out.store 6 [.int .u32 0, .int .i64 0] (by simp) (by rfl)
 case rest =>
 obtain ⟨w1, hw1⟩ : ∃ x, x = wc := ⟨_, rfl⟩
 obtain rfl := hw1
 have hO1 := hcut
 clear hcut p0 hlH hlM hfM hOH
 obtain ⟨m1, hm1⟩ : ∃ x, x = (m.uB hb) := ⟨_, rfl⟩
 rw [← hm1] at hO1
 have hm1H := jH hm1
 clear hm1
 have p1 := jA hO1.has 1
 simp at p1
 have hlH := jB hO1.has
 have hlM := jB hO1.msg
 have hfM := jE hO1.msg
 have hO1H := jH hO1
 clear hO1
 go_upto_if 12 with (fail)
 go_cut [] (fun wx => ON w wx hb hs hv hc ha (m1.uS hs))
 case first =>
  cases hs with
  | true =>
   go_wp2_with fail
   go_meet
   exact hO1H.out
  | false =>
   have p8 := jA hO1H.out.msg 8
   simp at p8
   go_wp2_with fail
   go_meet
   exact hO1H.out.store 8 [.int .i64 0] (by simp) (by rfl)
 case rest =>
 obtain ⟨w2, hw2⟩ : ∃ x, x = wc := ⟨_, rfl⟩
 obtain rfl := hw2
 have hO2 := hcut
 clear hcut p1 hlH hlM hfM hO1H
 obtain ⟨m2, hm2⟩ : ∃ x, x = (m1.uS hs) := ⟨_, rfl⟩
 rw [← hm2] at hO2
 have hm2H := jH hm2
 clear hm2
 have p2 := jA hO2.has 2
 simp at p2
 have hlH := jB hO2.has
 have hlM := jB hO2.msg
 have hfM := jE hO2.msg
 have hO2H := jH hO2
 clear hO2
 go_upto_if 16 with (fail)
 go_cut [] (fun wx => ON w wx hb hs hv hc ha (m2.uV hv))
 case first =>
  cases hv with
  | true =>
   go_wp2_with fail
   go_meet
   exact hO2H.out
  | false =>
   go_upto_region 6 with (fail)
   refine wp_region_list ?_
   refine wpList_buildK rfl _ _ rfl (cells := #[.int .u32 0, .int .i64 0]) (by kernel_rfl) ?_
   refine wpList_step (fun K hK => ?_)
   rw [if_pos (by kernel_rfl)]
   go_simp
   refine hK _ _ ?_
   clear hK K
   refine wpList_store_mid rfl _ _ _ rfl (w.heap.size + 1) 9 #[.int .u32 0, .int .i64 0] rfl rfl (there_msg hO2H.out 9 2 (by decide)) (by kernel_rfl) (by simp [Value.oneCell']) ?_
   (try simp only [Act.put])
   go_wp2_with fail
   go_meet
   exact hO2H.out.store 9 [.int .u32 0, .int .i64 0] (by simp) (by rfl)
 case rest =>
 obtain ⟨w3, hw3⟩ : ∃ x, x = wc := ⟨_, rfl⟩
 obtain rfl := hw3
 have hO3 := hcut
 clear hcut p2 hlH hlM hfM hO2H
 obtain ⟨m3, hm3⟩ : ∃ x, x = (m2.uV hv) := ⟨_, rfl⟩
 rw [← hm3] at hO3
 have hm3H := jH hm3
 clear hm3
 have p3 := jA hO3.has 3
 simp at p3
 have hlH := jB hO3.has
 have hlM := jB hO3.msg
 have hfM := jE hO3.msg
 have hO3H := jH hO3
 clear hO3
 go_upto_if 21 with (fail)
 go_cut [] (fun wx => ON w wx hb hs hv hc ha (m3.uC hc))
 case first =>
  cases hc with
  | true =>
   go_wp2_with fail
   go_meet
   exact hO3H.out
  | false =>
   go_upto_region 8 with (fail)
   refine wp_region_list ?_
   refine wpList_buildK rfl _ _ rfl (cells := ↑Zc.mk) (by kernel_rfl) ?_
   refine wpList_step (fun K hK => ?_)
   rw [if_pos (by kernel_rfl)]
   go_simp
   refine hK _ _ ?_
   clear hK K
   refine wpList_store_mid rfl _ _ _ rfl (w.heap.size + 1) 11 ↑Zc.mk rfl rfl (there_msg hO3H.out 11 24 (by decide)) (by kernel_rfl) (by simp [Value.oneCell']) ?_
   (try simp only [Act.put])
   go_wp2_with fail
   go_meet
   exact hO3H.out.store 11 [.int .i64 0, .int .i64 0, .int .u32 0, .int .u32 0, .int .u32 0, .int .u32 0, .int .u32 0, .int .u32 0, .int .u32 0, .int .u32 0, .int .u32 0, .bool false, .slice none 0 0, .int .i64 0, .int .i64 0, .slice none 0 0, .int .u32 0, .int .u32 0, .int .u32 0, .int .u32 0, .int .u32 0, .int .u32 0, .int .u32 0, .int .u32 0] (by simp) (by rfl)
 case rest =>
 obtain ⟨w4, hw4⟩ : ∃ x, x = wc := ⟨_, rfl⟩
 obtain rfl := hw4
 have hO4 := hcut
 clear hcut p3 hlH hlM hfM hO3H
 obtain ⟨m4, hm4⟩ : ∃ x, x = (m3.uC hc) := ⟨_, rfl⟩
 rw [← hm4] at hO4
 have hm4H := jH hm4
 clear hm4
 have p4 := jA hO4.has 4
 simp at p4
 have hlH := jB hO4.has
 have hlM := jB hO4.msg
 have hfM := jE hO4.msg
 have hO4H := jH hO4
 clear hO4
 go_upto_if 26 with (fail)
 go_cut [] (fun wx => ON w wx hb hs hv hc ha (m4.uA ha))
 case first =>
  cases ha with
  | true =>
   go_wp2_with fail
   go_meet
   exact hO4H.out
  | false =>
   go_upto_region 10 with (fail)
   refine wp_region_list ?_
   refine wpList_buildK rfl _ _ rfl (cells := #[.int .u32 0, .int .u32 0, .int .u32 0, .int .u32 0, .int .u32 0, .int .u32 0, .int .u32 0, .int .u32 0, .int .u32 0]) (by kernel_rfl) ?_
   refine wpList_step (fun K hK => ?_)
   rw [if_pos (by kernel_rfl)]
   go_simp
   refine hK _ _ ?_
   clear hK K
   refine wpList_store_mid rfl _ _ _ rfl (w.heap.size + 1) 35 #[.int .u32 0, .int .u32 0, .int .u32 0, .int .u32 0, .int .u32 0, .int .u32 0, .int .u32 0, .int .u32 0, .int .u32 0] rfl rfl (there_msg hO4H.out 35 9 (by decide)) (by kernel_rfl) (by simp [Value.oneCell']) ?_
   (try simp only [Act.put])
   go_wp2_with fail
   go_meet
   exact hO4H.out.store 35 [.int .u32 0, .int .u32 0, .int .u32 0, .int .u32 0, .int .u32 0, .int .u32 0, .int .u32 0, .int .u32 0, .int .u32 0] (by simp) (by rfl)
 case rest =>
 obtain ⟨w5, hw5⟩ : ∃ x, x = wc := ⟨_, rfl⟩
 obtain rfl := hw5
 have hO5 := hcut
 clear hcut p4 hlH hlM hfM hO4H
 obtain ⟨m5, hm5⟩ : ∃ x, x = (m4.uA ha) := ⟨_, rfl⟩
 rw [← hm5] at hO5
 have hon : Hid (m5 = onlyM hb hs hv hc ha m) := jH (by rw [hm5, hm4H.out, hm3H.out, hm2H.out, hm1H.out]; exact onlyM_u _ _ _ _ _ _)
 clear hm5
 have hO5H := jH hO5
 clear hO5
 go_upto_region 11 with (fail)
 refine wp_region_list ?_
 refine wpList_load_row rfl _ _ rfl (w.heap.size + 1) rfl 50 _ (0, 0) _ hO5H.out.msg Tryz.underlying50 rfl (by kernel_rfl) ?_
 refine wpList_store_row rfl _ _ _ rfl (w.heap.size + 2) ↑m5 rfl rfl 50 ↑Zm.mk hO5H.out.res (by kernel_rfl) rfl (by simp [Value.oneCell']) ?_
 have hR := setRow_heap w5 (w.heap.size + 2) ↑Zm.mk ↑m5 50 (0, 0) hO5H.out.res
 have hBl := below_setRow hO5H.out.bel (show w.heap.size ≤ w.heap.size + 2 by omega) ↑m5
 generalize hwy : w5.setRow (w.heap.size + 2) ↑m5 = wy at hR hBl ⊢
 clear hwy
 (try simp only [Act.put, List.setIfInBounds_toArray, List.set_cons_zero, List.set_cons_succ])
 go_wp2_with fail
 exact bodyPost_ret (v := .agg ↑m5) (results_cellQ 4 50 (by kernel_rfl) (w.heap.size + 2) rfl (run_loadVar_row _ _ _ _ _ _ _ hR Tryz.underlying50 rfl (by kernel_rfl))) rfl ⟨⟨m5, hon.out, rfl⟩, hBl⟩
end Go.Proofs.YtfhandglpjnonaaGreatDoor
