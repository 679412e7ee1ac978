/- (inst.has).only. inst.Check: what is wrong with a message. -/
import Derived.Test.YtfhandglpjnonaaGreatDoorN19
import Derived.Laws.CopyOwn
import Derived.Deep.QuietTactic
import Derived.BigQuiet
set_option maxRecDepth 100000
set_option maxHeartbeats 16000000
namespace Go.Proofs.YtfhandglpjnonaaGreatDoor
open Go.RowKit
def putL (cs : Array Value) : Nat → List Value → Array Value
 | _, [] => cs
 | o, v :: r => putL (cs.setIfInBounds o v) (o + 1) r
theorem putL_list : ∀ (l : List Value) (o : Nat) (cs : List Value), o + l.length ≤ cs.length → putL cs.toArray o l = (cs.take o ++ (l ++ cs.drop (o + l.length))).toArray
 | [], o, cs, h => by simp [putL]
 | v :: r, o, cs, h => by
  have h' : o + 1 + r.length ≤ cs.length := by simp at h; omega
  unfold putL
  rw [List.setIfInBounds_toArray, putL_list r (o + 1) (cs.set o v) (by simpa using h')]
  congr 1
  have e : cs.set o v = cs.take o ++ v :: cs.drop (o + 1) := by rw [List.set_eq_take_append_cons_drop, if_pos (by omega)]
  have hl : (cs.take o).length = o := by simp; omega
  have e1 : (cs.set o v).take (o + 1) = cs.take o ++ [v] := by
   rw [e, List.take_append, hl, show o + 1 - o = 1 by omega, List.take_of_length_le (by omega)]
   rfl
  have e2 : (cs.set o v).drop (o + 1 + r.length) = cs.drop (o + (v :: r).length) := by
   rw [List.drop_set_of_lt (by omega)]
   congr 1; simp; omega
  rw [e1, e2]; simp
theorem blk_setCells {b : Nat} {t : TypeId} : ∀ (l : List Value) (o : Nat) (w : World) (cs : Array Value), w.heap[b]? = some (.cells cs t (0, 0)) → (w.setCells b o l).heap[b]? = some (.cells (putL cs o l) t (0, 0))
 | [], _, _, _, h => h
 | v :: r, o, _w, _cs, h => blk_setCells r (o + 1) _ _ (jO h o v)
theorem jX {b k : Nat} {x : Option Obj} (hb : b ≠ k) : ∀ (l : List Value) (o : Nat) (w : World), w.heap[k]? = x → (w.setCells b o l).heap[k]? = x
 | [], _, _, h => h
 | _ :: r, o, _, h => jX hb r (o + 1) _ (yG hb h)
theorem jV {B b : Nat} {a : World} (hb : B ≤ b) : ∀ (l : List Value) (o : Nat) (w : World), Below B a w → Below B a (w.setCells b o l)
 | [], _, _, h => h
 | _ :: r, o, _, h => jV hb r (o + 1) _ (h.setCell hb _)
theorem results_cellQ {P : Program} {fn : Func} {tmps : Array Value} {v : Value} {w : World} (a : Nat) (t : TypeId) (hf : fn.results = #[ResultVar.cell a t]) (g : Nat) (hx : tmps.getD a undef = .pointer (some ⟨g, 0, none⟩))
 (h : (loadVar t ⟨g, 0, none⟩).run P w = .ok v w) : (results fn tmps).run P w = .ok v w := by
 unfold results
 rw [hf]
 have hx' : tmps[a]?.getD undef = .pointer (some ⟨g, 0, none⟩) := by simpa using hx
 rw [show ∀ f : ResultVar → Sem Value, (#[ResultVar.cell a t].mapM f : Sem (Array Value)) = (do let x ← f (ResultVar.cell a t); pure #[x]) from fun f => by simp [Array.mapM_eq_mapM_toList]]
 simp only [hx, asAddr, Sem.run_bind, Sem.run_pure, Result.andThen_ok, h]
 rfl
def zCm : Cm := ⟨0, (0, 0), zeroQ, false, none, 0, 0, [], 0, 0, none, 0, 0, [], zeroQ⟩
def Mm.uB (m : Mm) (h : Bool) : Mm := ⟨m.kd, m.fr, m.dst, m.ep, m.i, if h then m.b else (0, 0), m.st, m.vv, m.c, m.an, m.av⟩
def Mm.uS (m : Mm) (h : Bool) : Mm := ⟨m.kd, m.fr, m.dst, m.ep, m.i, m.b, if h then m.st else 0, m.vv, m.c, m.an, m.av⟩
def Mm.uV (m : Mm) (h : Bool) : Mm := ⟨m.kd, m.fr, m.dst, m.ep, m.i, m.b, m.st, if h then m.vv else (0, 0), m.c, m.an, m.av⟩
def Mm.uC (m : Mm) (h : Bool) : Mm := ⟨m.kd, m.fr, m.dst, m.ep, m.i, m.b, m.st, m.vv, if h then m.c else zCm, m.an, m.av⟩
def Mm.uA (m : Mm) (h : Bool) : Mm := ⟨m.kd, m.fr, m.dst, m.ep, m.i, m.b, m.st, m.vv, m.c, if h then m.an else 0, if h then m.av else zeroQ⟩
def onlyM (hb hs hv hc ha : Bool) (m : Mm) : Mm := ⟨m.kd, m.fr, m.dst, m.ep, m.i, if hb then m.b else (0, 0), if hs then m.st else 0, if hv then m.vv else (0, 0), if hc then m.c else zCm, if ha then m.an else 0, if ha then m.av else zeroQ⟩
theorem onlyM_u (hb hs hv hc ha : Bool) (m : Mm) : ((((m.uB hb).uS hs).uV hv).uC hc).uA ha = onlyM hb hs hv hc ha m := rfl
def OnlyP (hb hs hv hc ha : Bool) (m : Mm) (e : Ending) : Prop := ∃ n, n = onlyM hb hs hv hc ha m ∧ e = .returned (.agg ↑n)
structure ON (w wx : World) (hb hs hv hc ha : Bool) (n : Mm) : Prop where
 has : wx.heap[w.heap.size]? = some (.cells #[.bool hb, .bool hs, .bool hv, .bool hc, .bool ha] 83 (0, 0))
 msg : wx.heap[w.heap.size + 1]? = some (.cells ↑n 50 (0, 0))
 res : wx.heap[w.heap.size + 2]? = some (.cells ↑Zm.mk 50 (0, 0))
 bel : Below w.heap.size w wx
theorem ON.store {w wx : World} {hb hs hv hc ha : Bool} {n n' : Mm} (h : ON w wx hb hs hv hc ha n) (o : Nat) (l : List Value) (hl : o + l.length ≤ 44) (he : (n : Array Value).toList.take o ++ (l ++ (n : Array Value).toList.drop (o + l.length)) = (n' : Array Value).toList) : ON w (wx.setCells (w.heap.size + 1) o l) hb hs hv hc ha n' :=
 ⟨jX (by omega) l o wx h.has, (by have h1 := blk_setCells l o wx _ h.msg; have h2 := putL_list l o (n : Array Value).toList hl; rw [he] at h2; have h3 : putL ↑n o l = ↑n' := h2; rw [h3] at h1; exact h1), jX (by omega) l o wx h.res, jV (by omega) l o wx h.bel⟩
theorem there_msg {w wx : World} {hb hs hv hc ha : Bool} {n : Mm} (h : ON w wx hb hs hv hc ha n) (o k : Nat) (hk : o + k ≤ 44) : wx.there (w.heap.size + 1) o k := fun j hj => by
 refine ⟨?_, ?_⟩
 ·
  rw [jA h.msg]; have : o + j < 44 := by omega
  simp; omega
 ·
  exact jE h.msg _
theorem only_any (hb hs hv hc ha : Bool) (m : Mm) (w : World) :
 Calls Tryz.prog 30 #[.agg #[.bool hb, .bool hs, .bool hv, .bool hc, .bool ha], .agg ↑m] w fun e w' => OnlyP hb hs hv hc ha m e ∧ Below w.heap.size w w' := by
 have hO : ON w (((w.alloc (.cells #[.bool hb, .bool hs, .bool hv, .bool hc, .bool ha] 83)).alloc (.cells ↑m 50)).alloc (.cells ↑Zm.mk 50)) hb hs hv hc ha m := ⟨yE _ (by simp; try omega) (yE _ (by simp) (jT _ _ rfl)), yE _ (by simp) (jT _ _ (by simp)), jT _ _ (by simp), (((Below.refl _ w).alloc (Nat.le_refl _) _).alloc (by simp) _).alloc (by simp; omega) _⟩
 generalize hW : (((w.alloc (.cells #[.bool hb, .bool hs, .bool hv, .bool hc, .bool ha] 83)).alloc (.cells ↑m 50)).alloc (.cells ↑Zm.mk 50)) = W at hO
 go_enter Tryz.func30, Tryz.ntmps30
 go_upto_region 1 with (fail)
 clear hW
 have p0 := jA hO.has 0
 simp at p0
 have hlH := jB hO.has
 have hlM := jB hO.msg
 have hfM := jE hO.msg
 have hOH := jH hO
 clear hO
 go_upto_if 7 with (fail)
 go_cut [] (fun wx => ON w wx hb hs hv hc ha (m.uB hb))
 case first =>
  cases hb with
  | true =>
   go_wp2_with fail
   go_meet
   exact hOH.out
  | false =>
   go_upto_region 2 with (fail)
   refine wp_region_list ?_
   refine wpList_buildK rfl _ _ rfl (cells := #[.int .u32 0, .int .i64 0]) (by kernel_rfl) ?_
   refine wpList_step (fun K hK => ?_)
   rw [if_pos (by kernel_rfl)]
   go_simp
   refine hK _ _ ?_
   clear hK K
   refine wpList_store_mid rfl _ _ _ rfl (w.heap.size + 1) 6 #[.int .u32 0, .int .i64 0] rfl rfl (there_msg hOH.out 6 2 (by decide)) (by kernel_rfl) (by simp [Value.oneCell']) ?_
   (try simp only [Act.put])
   go_wp2_with fail
   go_meet
   exact hOH.out.store 6 [.int .u32 0, .int .i64 0] (by simp) (by rfl)
 case rest =>
 obtain ⟨w1, hw1⟩ : ∃ x, x = wc := ⟨_, rfl⟩
 obtain rfl := hw1
 have hO1 := hcut
 clear hcut p0 hlH hlM hfM hOH
 obtain ⟨m1, hm1⟩ : ∃ x, x = (m.uB hb) := ⟨_, rfl⟩
 rw [← hm1] at hO1
 have hm1H := jH hm1
 clear hm1
 have p1 := jA hO1.has 1
 simp at p1
 have hlH := jB hO1.has
 have hlM := jB hO1.msg
 have hfM := jE hO1.msg
 have hO1H := jH hO1
 clear hO1
 go_upto_if 12 with (fail)
 go_cut [] (fun wx => ON w wx hb hs hv hc ha (m1.uS hs))
 case first =>
  cases hs with
  | true =>
   go_wp2_with fail
   go_meet
   exact hO1H.out
  | false =>
   have p8 := jA hO1H.out.msg 8
   simp at p8
   go_wp2_with fail
   go_meet
   exact hO1H.out.store 8 [.int .i64 0] (by simp) (by rfl)
 case rest =>
 obtain ⟨w2, hw2⟩ : ∃ x, x = wc := ⟨_, rfl⟩
 obtain rfl := hw2
 have hO2 := hcut
 clear hcut p1 hlH hlM hfM hO1H
 obtain ⟨m2, hm2⟩ : ∃ x, x = (m1.uS hs) := ⟨_, rfl⟩
 rw [← hm2] at hO2
 have hm2H := jH hm2
 clear hm2
 have p2 := jA hO2.has 2
 simp at p2
 have hlH := jB hO2.has
 have hlM := jB hO2.msg
 have hfM := jE hO2.msg
 have hO2H := jH hO2
 clear hO2
 go_upto_if 16 with (fail)
 go_cut [] (fun wx => ON w wx hb hs hv hc ha (m2.uV hv))
 case first =>
  cases hv with
  | true =>
   go_wp2_with fail
   go_meet
   exact hO2H.out
  | false =>
   go_upto_region 6 with (fail)
   refine wp_region_list ?_
   refine wpList_buildK rfl _ _ rfl (cells := #[.int .u32 0, .int .i64 0]) (by kernel_rfl) ?_
   refine wpList_step (fun K hK => ?_)
   rw [if_pos (by kernel_rfl)]
   go_simp
   refine hK _ _ ?_
   clear hK K
   refine wpList_store_mid rfl _ _ _ rfl (w.heap.size + 1) 9 #[.int .u32 0, .int .i64 0] rfl rfl (there_msg hO2H.out 9 2 (by decide)) (by kernel_rfl) (by simp [Value.oneCell']) ?_
   (try simp only [Act.put])
   go_wp2_with fail
   go_meet
   exact hO2H.out.store 9 [.int .u32 0, .int .i64 0] (by simp) (by rfl)
 case rest =>
 obtain ⟨w3, hw3⟩ : ∃ x, x = wc := ⟨_, rfl⟩
 obtain rfl := hw3
 have hO3 := hcut
 clear hcut p2 hlH hlM hfM hO2H
 obtain ⟨m3, hm3⟩ : ∃ x, x = (m2.uV hv) := ⟨_, rfl⟩
 rw [← hm3] at hO3
 have hm3H := jH hm3
 clear hm3
 have p3 := jA hO3.has 3
 simp at p3
 have hlH := jB hO3.has
 have hlM := jB hO3.msg
 have hfM := jE hO3.msg
 have hO3H := jH hO3
 clear hO3
 go_upto_if 21 with (fail)
 go_cut [] (fun wx => ON w wx hb hs hv hc ha (m3.uC hc))
 case first =>
  cases hc with
  | true =>
   go_wp2_with fail
   go_meet
   exact hO3H.out
  | false =>
   go_upto_region 8 with (fail)
   refine wp_region_list ?_
   refine wpList_buildK rfl _ _ rfl (cells := ↑Zc.mk) (by kernel_rfl) ?_
   refine wpList_step (fun K hK => ?_)
   rw [if_pos (by kernel_rfl)]
   go_simp
   refine hK _ _ ?_
   clear hK K
   refine wpList_store_mid rfl _ _ _ rfl (w.heap.size + 1) 11 ↑Zc.mk rfl rfl (there_msg hO3H.out 11 24 (by decide)) (by kernel_rfl) (by simp [Value.oneCell']) ?_
   (try simp only [Act.put])
   go_wp2_with fail
   go_meet
   exact hO3H.out.store 11 [.int .i64 0, .int .i64 0, .int .u32 0, .int .u32 0, .int .u32 0, .int .u32 0, .int .u32 0, .int .u32 0, .int .u32 0, .int .u32 0, .int .u32 0, .bool false, .slice none 0 0, .int .i64 0, .int .i64 0, .slice none 0 0, .int .u32 0, .int .u32 0, .int .u32 0, .int .u32 0, .int .u32 0, .int .u32 0, .int .u32 0, .int .u32 0] (by simp) (by rfl)
 case rest =>
 obtain ⟨w4, hw4⟩ : ∃ x, x = wc := ⟨_, rfl⟩
 obtain rfl := hw4
 have hO4 := hcut
 clear hcut p3 hlH hlM hfM hO3H
 obtain ⟨m4, hm4⟩ : ∃ x, x = (m3.uC hc) := ⟨_, rfl⟩
 rw [← hm4] at hO4
 have hm4H := jH hm4
 clear hm4
 have p4 := jA hO4.has 4
 simp at p4
 have hlH := jB hO4.has
 have hlM := jB hO4.msg
 have hfM := jE hO4.msg
 have hO4H := jH hO4
 clear hO4
 go_upto_if 26 with (fail)
 go_cut [] (fun wx => ON w wx hb hs hv hc ha (m4.uA ha))
 case first =>
  cases ha with
  | true =>
   go_wp2_with fail
   go_meet
   exact hO4H.out
  | false =>
   go_upto_region 10 with (fail)
   refine wp_region_list ?_
   refine wpList_buildK rfl _ _ rfl (cells := #[.int .u32 0, .int .u32 0, .int .u32 0, .int .u32 0, .int .u32 0, .int .u32 0, .int .u32 0, .int .u32 0, .int .u32 0]) (by kernel_rfl) ?_
   refine wpList_step (fun K hK => ?_)
   rw [if_pos (by kernel_rfl)]
   go_simp
   refine hK _ _ ?_
   clear hK K
   refine wpList_store_mid rfl _ _ _ rfl (w.heap.size + 1) 35 #[.int .u32 0, .int .u32 0, .int .u32 0, .int .u32 0, .int .u32 0, .int .u32 0, .int .u32 0, .int .u32 0, .int .u32 0] rfl rfl (there_msg hO4H.out 35 9 (by decide)) (by kernel_rfl) (by simp [Value.oneCell']) ?_
   (try simp only [Act.put])
   go_wp2_with fail
   go_meet
   exact hO4H.out.store 35 [.int .u32 0, .int .u32 0, .int .u32 0, .int .u32 0, .int .u32 0, .int .u32 0, .int .u32 0, .int .u32 0, .int .u32 0] (by simp) (by rfl)
 case rest =>
 obtain ⟨w5, hw5⟩ : ∃ x, x = wc := ⟨_, rfl⟩
 obtain rfl := hw5
 have hO5 := hcut
 clear hcut p4 hlH hlM hfM hO4H
 obtain ⟨m5, hm5⟩ : ∃ x, x = (m4.uA ha) := ⟨_, rfl⟩
 rw [← hm5] at hO5
 have hon : Hid (m5 = onlyM hb hs hv hc ha m) := jH (by rw [hm5, hm4H.out, hm3H.out, hm2H.out, hm1H.out]; exact onlyM_u _ _ _ _ _ _)
 clear hm5
 have hO5H := jH hO5
 clear hO5
 go_upto_region 11 with (fail)
 refine wp_region_list ?_
 refine wpList_load_row rfl _ _ rfl (w.heap.size + 1) rfl 50 _ (0, 0) _ hO5H.out.msg Tryz.underlying50 rfl (by kernel_rfl) ?_
 refine wpList_store_row rfl _ _ _ rfl (w.heap.size + 2) ↑m5 rfl rfl 50 ↑Zm.mk hO5H.out.res (by kernel_rfl) rfl (by simp [Value.oneCell']) ?_
 have hR := setRow_heap w5 (w.heap.size + 2) ↑Zm.mk ↑m5 50 (0, 0) hO5H.out.res
 have hBl := below_setRow hO5H.out.bel (show w.heap.size ≤ w.heap.size + 2 by omega) ↑m5
 generalize hwy : w5.setRow (w.heap.size + 2) ↑m5 = wy at hR hBl ⊢
 clear hwy
 (try simp only [Act.put, List.setIfInBounds_toArray, List.set_cons_zero, List.set_cons_succ])
 go_wp2_with fail
 exact bodyPost_ret (v := .agg ↑m5) (results_cellQ 4 50 (by kernel_rfl) (w.heap.size + 2) rfl (run_loadVar_row _ _ _ _ _ _ _ hR Tryz.underlying50 rfl (by kernel_rfl))) rfl ⟨⟨m5, hon.out, rfl⟩, hBl⟩
def rangeBad (m : Mm) : Bool := !membP m.fr || !membP m.dst || decide (1048576 < m.ep) || decide (m.st < 0) || decide (4 < m.st)
def keptM (m : Mm) : Mm := onlyM (hB m.kd) (hS m.kd) (hV m.kd m.st) (hC m.kd m.st) (hA m.kd m.st) m
def msgErr (m : Mm) : Int := if m.kd < 1 then 5 else if 8 < m.kd then 5 else if rangeBad m = true then 2 else if fieldsE m ≠ 0 then fieldsE m else if sameMm (keptM m) m = true then 0 else 3
theorem zCm_ok (w : World) (B : Nat) : zCm.Ok w B := ⟨RdE.nil_, Rd.nil_, Nat.zero_le _, Nat.zero_le _, by simp [zCm]⟩
theorem onlyM_ok {hb hs hv hc ha : Bool} {m : Mm} {w : World} {B : Nat} (h : m.c.Ok w B) : (onlyM hb hs hv hc ha m).c.Ok w B := by
 cases hc with
 | true => exact h
 | false => exact zCm_ok w B
theorem yields_row {P : Program} {ops : Array Oper} {C : World → Prop} {oi : Oper} {a : Act} {ty : TypeId} {x : Operand} (hw : Region.wanted oi (yielded ops a.tmps) = true) (ho : oi.op = .load ty x) (g : Nat) (hx : a.eval x = .pointer (some ⟨g, 0, none⟩))
 (t : TypeId) (cs : Array Value) (fr : Nat × Nat) (d : TypeDesc) (hg : ∀ w, C w → w.heap[g]? = some (.cells cs t fr)) (hu : P.underlying ty = some d) (hd : (match d with | .struct _ | .array _ _ => true | _ => false) = true) (hi : (P.info? ty).map (·.size) = some cs.size) :
 YieldsIf P ops C oi (.agg cs) a := Or.inl ⟨hw, fun w hC => by
  unfold execOp
  simp only [ho, hx, Instr.loadAt, Instr.sureAddr, Sem.run_bind, Sem.run_pure, Result.andThen_ok, run_loadVar_row w g t ty cs fr d (hg w hC) hu hd hi]⟩
theorem imchk_any (m : Mm) (w : World) (hF : m.Fit w) (hVM : VarM w) :
 Calls Tryz.prog 7 #[.agg ↑m] w fun e w' => e = .returned (.int .i64 (msgErr m)) ∧ Below w.heap.size w w' := by
 generalize hr : msgErr m = q
 unfold msgErr at hr
 have cM := jH (fun n w' => member_any n w')
 have cF := jH (fun w' (h : Below w.heap.size w w') => fields_any m w' (hF.below h) (hVM.below h hVM.lt))
 have cG := jH (fun w' => form_any m.kd m.st w')
 have cO := jH (fun hb hs hv hc ha w' => only_any hb hs hv hc ha m w')
 have cS := jH (fun hb hs hv hc ha w' (h : Below w.heap.size w w') => sameP_any (onlyM hb hs hv hc ha m) m w' (onlyM_ok ((hF.c.ok.below h).more h.size)) ((hF.c.ok.below h).more h.size))
 have hb0 : Below w.heap.size w (w.alloc (.cells ↑m 50)) := (Below.refl _ w).alloc (Nat.le_refl _) _
 have hbA : (w.alloc (.cells ↑m 50)).heap[w.heap.size]? = some (.cells ↑m 50 (0, 0)) := jT _ _ rfl
 generalize hW : (w.alloc (.cells ↑m 50)) = W at hb0 hbA
 have hz0 := hb0.size
 have hltA := jB hbA
 have p0 := jA hbA 0
 have p1 := jA hbA 1
 have p2 := jA hbA 2
 have p3 := jA hbA 3
 have p8 := jA hbA 8
 simp at p0 p1 p2 p3 p8
 have hbAH := jH hbA
 have hrH := jH hr
 clear hbA hr hF hVM
 by_cases h1 : m.kd < 1
 case pos =>
  have h1d : decide (m.kd < 1) = true := decide_eq_true h1
  have hT : Hid ((5 : Int) = q) := jH (by rw [← hrH.out, if_pos h1])
  clear h1
  go_enter Tryz.func7, Tryz.ntmps7
  go_wp2
  go_ret
  exact ⟨jR hT.out, hb0⟩
 have h1d : decide (m.kd < 1) = false := decide_eq_false h1
 by_cases h8 : 8 < m.kd
 case pos =>
  have h8d : decide (8 < m.kd) = true := decide_eq_true h8
  have hT : Hid ((5 : Int) = q) := jH (by rw [← hrH.out, if_neg h1, if_pos h8])
  clear h1 h8
  go_enter Tryz.func7, Tryz.ntmps7
  go_wp2
  go_ret
  exact ⟨jR hT.out, hb0⟩
 have h8d : decide (8 < m.kd) = false := decide_eq_false h8
 have hq1 : Hid ((if rangeBad m = true then 2 else if fieldsE m ≠ 0 then fieldsE m else if sameMm (keptM m) m = true then 0 else 3) = q) := jH (by rw [← hrH.out, if_neg h1, if_neg h8])
 clear h1 h8
 cases hf : membP m.fr with
 | false =>
  have hT : Hid ((2 : Int) = q) := jH (by rw [← hq1.out, if_pos (by simp [rangeBad, hf])])
  have c1 := jH (fun w' => cM.out m.fr w')
  rw [hf] at c1
  clear hf
  go_enter Tryz.func7, Tryz.ntmps7
  go_wp2_with fail
  refine (c1.out _).mono ?_
  rintro e w1 ⟨rfl, hb1⟩
  have hG := hb0.trans (hb1.mono hz0)
  go_wp2
  go_ret
  exact ⟨jR hT.out, hG⟩
 | true =>
 cases hd : membP m.dst with
 | false =>
  have hT : Hid ((2 : Int) = q) := jH (by rw [← hq1.out, if_pos (by simp [rangeBad, hd])])
  have c1 := jH (fun w' => cM.out m.fr w')
  have c2 := jH (fun w' => cM.out m.dst w')
  rw [hf] at c1
  rw [hd] at c2
  clear hf hd
  go_enter Tryz.func7, Tryz.ntmps7
  go_wp2_with fail
  refine (c1.out _).mono ?_
  rintro e w1 ⟨rfl, hb1⟩
  have hG1 := hb0.trans (hb1.mono hz0)
  replace p0 := (hb1.cell (p := ⟨w.heap.size, 0, none⟩) (by show w.heap.size < _; omega)).trans p0
  replace p1 := (hb1.cell (p := ⟨w.heap.size, 1, none⟩) (by show w.heap.size < _; omega)).trans p1
  replace p2 := (hb1.cell (p := ⟨w.heap.size, 2, none⟩) (by show w.heap.size < _; omega)).trans p2
  replace p3 := (hb1.cell (p := ⟨w.heap.size, 3, none⟩) (by show w.heap.size < _; omega)).trans p3
  replace p8 := (hb1.cell (p := ⟨w.heap.size, 8, none⟩) (by show w.heap.size < _; omega)).trans p8
  go_wp2_with fail
  refine (c2.out _).mono ?_
  rintro e w2 ⟨rfl, hb2⟩
  have hG := hG1.trans (hb2.mono hG1.size)
  go_wp2
  go_ret
  exact ⟨jR hT.out, hG⟩
 | true =>
 have c1 := jH (fun w' => cM.out m.fr w')
 have c2 := jH (fun w' => cM.out m.dst w')
 rw [hf] at c1
 rw [hd] at c2
 by_cases he : 1048576 < m.ep
 case pos =>
  have hed : decide (1048576 < m.ep) = true := decide_eq_true he
  have hT : Hid ((2 : Int) = q) := jH (by rw [← hq1.out, if_pos (by simp [rangeBad, he])])
  clear hf hd he
  go_enter Tryz.func7, Tryz.ntmps7
  go_wp2_with fail
  refine (c1.out _).mono ?_
  rintro e w1 ⟨rfl, hb1⟩
  have hG1 := hb0.trans (hb1.mono hz0)
  replace p0 := (hb1.cell (p := ⟨w.heap.size, 0, none⟩) (by show w.heap.size < _; omega)).trans p0
  replace p1 := (hb1.cell (p := ⟨w.heap.size, 1, none⟩) (by show w.heap.size < _; omega)).trans p1
  replace p2 := (hb1.cell (p := ⟨w.heap.size, 2, none⟩) (by show w.heap.size < _; omega)).trans p2
  replace p3 := (hb1.cell (p := ⟨w.heap.size, 3, none⟩) (by show w.heap.size < _; omega)).trans p3
  replace p8 := (hb1.cell (p := ⟨w.heap.size, 8, none⟩) (by show w.heap.size < _; omega)).trans p8
  have hl1 := hb1.size
  go_wp2_with fail
  refine (c2.out _).mono ?_
  rintro e w2 ⟨rfl, hb2⟩
  replace p0 := (hb2.cell (p := ⟨w.heap.size, 0, none⟩) (by show w.heap.size < _; omega)).trans p0
  replace p1 := (hb2.cell (p := ⟨w.heap.size, 1, none⟩) (by show w.heap.size < _; omega)).trans p1
  replace p2 := (hb2.cell (p := ⟨w.heap.size, 2, none⟩) (by show w.heap.size < _; omega)).trans p2
  replace p3 := (hb2.cell (p := ⟨w.heap.size, 3, none⟩) (by show w.heap.size < _; omega)).trans p3
  replace p8 := (hb2.cell (p := ⟨w.heap.size, 8, none⟩) (by show w.heap.size < _; omega)).trans p8
  have hG := hG1.trans (hb2.mono hG1.size)
  go_wp2
  go_ret
  exact ⟨jR hT.out, hG⟩
 have hed : decide (1048576 < m.ep) = false := decide_eq_false he
 by_cases hs : m.st < 0
 case pos =>
  have hsd : decide (m.st < 0) = true := decide_eq_true hs
  have hT : Hid ((2 : Int) = q) := jH (by rw [← hq1.out, if_pos (by simp [rangeBad, hs])])
  clear hf hd he hs
  go_enter Tryz.func7, Tryz.ntmps7
  go_wp2_with fail
  refine (c1.out _).mono ?_
  rintro e w1 ⟨rfl, hb1⟩
  have hG1 := hb0.trans (hb1.mono hz0)
  replace p0 := (hb1.cell (p := ⟨w.heap.size, 0, none⟩) (by show w.heap.size < _; omega)).trans p0
  replace p1 := (hb1.cell (p := ⟨w.heap.size, 1, none⟩) (by show w.heap.size < _; omega)).trans p1
  replace p2 := (hb1.cell (p := ⟨w.heap.size, 2, none⟩) (by show w.heap.size < _; omega)).trans p2
  replace p3 := (hb1.cell (p := ⟨w.heap.size, 3, none⟩) (by show w.heap.size < _; omega)).trans p3
  replace p8 := (hb1.cell (p := ⟨w.heap.size, 8, none⟩) (by show w.heap.size < _; omega)).trans p8
  have hl1 := hb1.size
  go_wp2_with fail
  refine (c2.out _).mono ?_
  rintro e w2 ⟨rfl, hb2⟩
  replace p0 := (hb2.cell (p := ⟨w.heap.size, 0, none⟩) (by show w.heap.size < _; omega)).trans p0
  replace p1 := (hb2.cell (p := ⟨w.heap.size, 1, none⟩) (by show w.heap.size < _; omega)).trans p1
  replace p2 := (hb2.cell (p := ⟨w.heap.size, 2, none⟩) (by show w.heap.size < _; omega)).trans p2
  replace p3 := (hb2.cell (p := ⟨w.heap.size, 3, none⟩) (by show w.heap.size < _; omega)).trans p3
  replace p8 := (hb2.cell (p := ⟨w.heap.size, 8, none⟩) (by show w.heap.size < _; omega)).trans p8
  have hG := hG1.trans (hb2.mono hG1.size)
  go_wp2
  go_ret
  exact ⟨jR hT.out, hG⟩
 have hsd : decide (m.st < 0) = false := decide_eq_false hs
 by_cases h4 : 4 < m.st
 case pos =>
  have h4d : decide (4 < m.st) = true := decide_eq_true h4
  have hT : Hid ((2 : Int) = q) := jH (by rw [← hq1.out, if_pos (by simp [rangeBad, h4])])
  clear hf hd he hs h4
  go_enter Tryz.func7, Tryz.ntmps7
  go_wp2_with fail
  refine (c1.out _).mono ?_
  rintro e w1 ⟨rfl, hb1⟩
  have hG1 := hb0.trans (hb1.mono hz0)
  replace p0 := (hb1.cell (p := ⟨w.heap.size, 0, none⟩) (by show w.heap.size < _; omega)).trans p0
  replace p1 := (hb1.cell (p := ⟨w.heap.size, 1, none⟩) (by show w.heap.size < _; omega)).trans p1
  replace p2 := (hb1.cell (p := ⟨w.heap.size, 2, none⟩) (by show w.heap.size < _; omega)).trans p2
  replace p3 := (hb1.cell (p := ⟨w.heap.size, 3, none⟩) (by show w.heap.size < _; omega)).trans p3
  replace p8 := (hb1.cell (p := ⟨w.heap.size, 8, none⟩) (by show w.heap.size < _; omega)).trans p8
  have hl1 := hb1.size
  go_wp2_with fail
  refine (c2.out _).mono ?_
  rintro e w2 ⟨rfl, hb2⟩
  replace p0 := (hb2.cell (p := ⟨w.heap.size, 0, none⟩) (by show w.heap.size < _; omega)).trans p0
  replace p1 := (hb2.cell (p := ⟨w.heap.size, 1, none⟩) (by show w.heap.size < _; omega)).trans p1
  replace p2 := (hb2.cell (p := ⟨w.heap.size, 2, none⟩) (by show w.heap.size < _; omega)).trans p2
  replace p3 := (hb2.cell (p := ⟨w.heap.size, 3, none⟩) (by show w.heap.size < _; omega)).trans p3
  replace p8 := (hb2.cell (p := ⟨w.heap.size, 8, none⟩) (by show w.heap.size < _; omega)).trans p8
  have hG := hG1.trans (hb2.mono hG1.size)
  go_wp2
  go_ret
  exact ⟨jR hT.out, hG⟩
 have h4d : decide (4 < m.st) = false := decide_eq_false h4
 have hrb : rangeBad m = false := by unfold rangeBad; rw [hf, hd, decide_eq_false he, decide_eq_false hs, decide_eq_false h4]; rfl
 have hq2 : Hid ((if fieldsE m ≠ 0 then fieldsE m else if sameMm (keptM m) m = true then 0 else 3) = q) := jH (by have h := hq1.out; rw [hrb, if_neg (show ¬ (false = true) by decide)] at h; exact h)
 clear hrb
 clear hf hd he hs h4
 generalize fieldsE m = eF at cF hq2
 go_enter Tryz.func7, Tryz.ntmps7
 go_wp2_with fail
 refine (c1.out _).mono ?_
 rintro e w1 ⟨rfl, hb1⟩
 have hG1 := hb0.trans (hb1.mono hz0)
 replace p0 := (hb1.cell (p := ⟨w.heap.size, 0, none⟩) (by show w.heap.size < _; omega)).trans p0
 replace p1 := (hb1.cell (p := ⟨w.heap.size, 1, none⟩) (by show w.heap.size < _; omega)).trans p1
 replace p2 := (hb1.cell (p := ⟨w.heap.size, 2, none⟩) (by show w.heap.size < _; omega)).trans p2
 replace p3 := (hb1.cell (p := ⟨w.heap.size, 3, none⟩) (by show w.heap.size < _; omega)).trans p3
 replace p8 := (hb1.cell (p := ⟨w.heap.size, 8, none⟩) (by show w.heap.size < _; omega)).trans p8
 have hl1 := hb1.size
 go_wp2_with fail
 refine (c2.out _).mono ?_
 rintro e w2 ⟨rfl, hb2⟩
 replace p0 := (hb2.cell (p := ⟨w.heap.size, 0, none⟩) (by show w.heap.size < _; omega)).trans p0
 replace p1 := (hb2.cell (p := ⟨w.heap.size, 1, none⟩) (by show w.heap.size < _; omega)).trans p1
 replace p2 := (hb2.cell (p := ⟨w.heap.size, 2, none⟩) (by show w.heap.size < _; omega)).trans p2
 replace p3 := (hb2.cell (p := ⟨w.heap.size, 3, none⟩) (by show w.heap.size < _; omega)).trans p3
 replace p8 := (hb2.cell (p := ⟨w.heap.size, 8, none⟩) (by show w.heap.size < _; omega)).trans p8
 have hG := hG1.trans (hb2.mono hG1.size)
 have hbA2 := jH (jD hbAH.out (hb1.trans (hb2.mono hb1.size)))
 have hl2 := jB hbA2.out
 go_upto_region 5 with (fail)
 clear p0 p1 p2 p3 p8
 refine wp_region_list ?_
 refine wpList_load_row rfl _ _ rfl (w.heap.size) rfl 50 _ (0, 0) _ hbA2.out Tryz.underlying50 rfl (by kernel_rfl) ?_
 (try simp only [Act.put, List.setIfInBounds_toArray, List.set_cons_zero, List.set_cons_succ])
 go_wp2_with fail
 refine (cF.out _ hG).mono ?_
 rintro e w3 ⟨rfl, hb3⟩
 have hG3 := hG.trans (hb3.mono hG.size)
 have hbA3 := jH (jD hbA2.out hb3)
 have hl3 := jB hbA3.out
 by_cases hE : eF = 0
 case neg =>
  have hEd : (eF == 0) = false := by simpa using hE
  have hEn : (eF != 0) = true := by simpa using hE
  have hT : Hid (eF = q) := jH (by rw [← hq2.out, if_pos hE])
  go_wp2
  go_ret
  exact ⟨jR hT.out, hG3⟩
 subst hE
 have hq3 : Hid ((if sameMm (keptM m) m = true then (0 : Int) else 3) = q) := jH (by have h := hq2.out; rw [if_neg (show ¬ ((0 : Int) ≠ 0) by simp)] at h; exact h)
 clear hb1 hb2 hb3 hbA2 hl2
 have hG3H := jH hG3
 obtain ⟨b1, hb1⟩ : ∃ b, b = hB m.kd := ⟨_, rfl⟩
 obtain ⟨b2, hb2⟩ : ∃ b, b = hS m.kd := ⟨_, rfl⟩
 obtain ⟨b3, hb3⟩ : ∃ b, b = hV m.kd m.st := ⟨_, rfl⟩
 obtain ⟨b4, hb4⟩ : ∃ b, b = hC m.kd m.st := ⟨_, rfl⟩
 obtain ⟨b5, hb5⟩ : ∃ b, b = hA m.kd m.st := ⟨_, rfl⟩
 have hq4 : Hid ((if sameMm (onlyM b1 b2 b3 b4 b5 m) m = true then (0 : Int) else 3) = q) := jH (by rw [hb1, hb2, hb3, hb4, hb5]; exact hq3.out)
 rw [← hb1, ← hb2, ← hb3, ← hb4, ← hb5] at cG
 clear hb1 hb2 hb3 hb4 hb5 hq3
 have cS := jH (fun w' h => cS.out b1 b2 b3 b4 b5 w' h)
 generalize sameMm (onlyM b1 b2 b3 b4 b5 m) m = sm at cS hq4
 go_upto_region 8 with (fail)
 have p0 := jA hbA3.out 0
 have p8 := jA hbA3.out 8
 simp at p0 p8
 have hrow := jH (fun w' (h : KQ w3.heap.size w3 w') => jD hbA3.out h.1)
 refine jW (fun w' => KQ w3.heap.size w3 w') (fun _ => True) 99 (by kernel_rfl) (kq (Below.refl _ _).drew) trivial ?_
 intro hcl
 have hC : KQ w3.heap.size w3 w3.drew := kq (Below.refl _ _).drew
 have hE := trivial
 (refine mT 0 ?_ rfl hcl hC hE ?_ ?_; rotate_left; (· (intro w hSw; (try dsimp only at hSw); go_simp; (try with_reducible rfl))); clear hcl; intro hcl; (try simp only [Act.put, List.getElem_toArray, List.getElem_cons_zero, List.setIfInBounds_toArray, List.set_cons_zero, List.set_cons_succ]))
 (refine mT 1 ?_ rfl hcl hC hE ?_ ?_; rotate_left; (· (intro w hSw; (try dsimp only at hSw); go_simp; (try with_reducible rfl))); clear hcl; intro hcl; (try simp only [Act.put, nA, nB, nC, nD, nE, nF]))
 (refine mT 2 ?_ rfl hcl hC hE ?_ ?_; rotate_left; (· (intro w hSw; (try dsimp only at hSw); go_simp; (try with_reducible rfl))); clear hcl; intro hcl; (try simp only [Act.put, nA, nB, nC, nD, nE, nF]))
 (refine mT 3 ?_ rfl hcl hC hE ?_ ?_; rotate_left; (· (intro w hSw; (try dsimp only at hSw); go_simp; (try with_reducible rfl))); clear hcl; intro hcl; (try simp only [Act.put, nA, nB, nC, nD, nE, nF]))
 refine wpM_take (i := 5) (v := .agg ↑m) rfl (by kernel_rfl) (by kernel_rfl) (by kernel_rfl) (by decide) (fun _ _ _ h => h) hcl hC (fun _ => hE) (yields_row (by kernel_rfl) rfl (w.heap.size) rfl 50 ↑m (0, 0) _ hrow.out Tryz.underlying50 rfl (by kernel_rfl)) ?_
 clear hcl
 intro hcl
 (try simp only [Act.put, nA, nB, nC, nD, nE, nF])
 refine wpM_take (i := 7) (v := .agg ↑m) rfl (by kernel_rfl) (by kernel_rfl) (by kernel_rfl) (by decide) (fun _ _ _ h => h) hcl hC (fun _ => hE) (yields_row (by kernel_rfl) rfl (w.heap.size) rfl 50 ↑m (0, 0) _ hrow.out Tryz.underlying50 rfl (by kernel_rfl)) ?_
 clear hcl
 intro hcl
 (try simp only [Act.put, nA, nB, nC, nD, nE, nF])
 refine jK (i := 4) rfl (by kernel_rfl) hcl (fun K hK => ?_)
 go_simp
 refine (cG.out _).mono ?_
 rintro e v1 ⟨rfl, hv1⟩
 have hC' := jP hC (Nat.le_refl _) hv1
 refine hK.out _ _ hC' trivial ?_
 clear hK K
 clear hcl
 intro hcl
 (try simp only [Act.put, nA, nB, nC, nD, nE, nF])
 clear hC
 have hC := hC'
 clear hC'
 refine jK (i := 6) rfl (by kernel_rfl) hcl (fun K hK => ?_)
 go_simp
 refine (cO.out _ _ _ _ _ _).mono ?_
 rintro e v2 ⟨hp2, hv2⟩
 obtain ⟨n2, hn2, rfl⟩ := hp2
 have hC' := jP hC (Nat.le_refl _) hv2
 refine hK.out _ _ hC' trivial ?_
 clear hK K
 clear hcl
 intro hcl
 (try simp only)
 clear hC
 have hC := hC'
 clear hC'
 subst hn2
 refine jK (i := 8) rfl (by kernel_rfl) hcl (fun K hK => ?_)
 go_simp
 refine (cS.out _ (hG3H.out.trans (hC.1.mono hG3H.out.size))).mono ?_
 rintro e v3 ⟨rfl, hv3⟩
 have hC' := jP hC (Nat.le_refl _) hv3
 refine hK.out _ _ hC' trivial ?_
 clear hK K
 clear hcl
 intro hcl
 (try simp only [Act.put, nA, nB, nC, nD, nE, nF])
 clear hC
 have hC := hC'
 clear hC'
 (refine mT 9 ?_ rfl hcl hC hE ?_ ?_; rotate_left; (· (intro w hSw; (try dsimp only at hSw); go_simp; (try with_reducible rfl))); clear hcl; intro hcl; (try simp only [Act.put, nA, nB, nC, nD, nE, nF]))
 refine wpM_done (by kernel_rfl) ?_
 clear hcl
 try simp only [Act.put, nA, nB, nC, nD, nE, nF]
 have hGE := hG3H.out.trans (hC.1.mono hG3H.out.size)
 clear hC p0 p8
 cases sm with
 | true =>
  have hT : Hid ((0 : Int) = q) := jH (by rw [← hq4.out, if_pos rfl])
  go_wp2
  go_ret
  exact ⟨jR hT.out, hGE⟩
 | false =>
  have hT : Hid ((3 : Int) = q) := jH (by rw [← hq4.out, if_neg (by decide)])
  go_wp2
  go_ret
  exact ⟨jR hT.out, hGE⟩
end Go.Proofs.YtfhandglpjnonaaGreatDoor
