/- The law's own words on commands and messages: To of ballots, Cmd, Attr, To of messages, Great. -/
import Derived.Test.YtfhandglpjnonaaGreatDoorN24
import Derived.Test.YtfhandglpjnonaaGreatDoorM39
import Derived.Test.YtfhandglpjnonaaGreatDoorN25
set_option maxRecDepth 100000
set_option maxHeartbeats 16000000
namespace Go.Proofs.YtfhandglpjnonaaGreatDoor
open Go.RowKit
theorem infoIntQ : (Tryz.prog.info? 3).map (fun i => (i.zero, i.size, i.bytes)) = some (some (.int .i64 0), 1, 8) := by kernel_rfl
theorem eIntQ : ElemInfo Tryz.prog 32 3 1 8 := by
 obtain ⟨i, hi, h0, h1, h2⟩ := info_parts infoIntQ
 exact ⟨Tryz.underlying32, ⟨i, _, hi, h0, h1, h2, rfl⟩, by decide⟩
theorem yields_mid {P : Program} {ops : Array Oper} {C : World → Prop} {oi : Oper} {a : Act} {ty : TypeId} {x : Operand} (hw : Region.wanted oi (yielded ops a.tmps) = true) (ho : oi.op = .load ty x) (b k : Nat) (hx : a.eval x = .pointer (some ⟨b, k, none⟩))
 (cs : List Value) (d : TypeDesc) (hc : ∀ w, C w → w.rangeAt b k cs) (hu : P.underlying ty = some d) (hd : d.isRow = true) (hi : (P.info? ty).map (·.size) = some cs.length) :
 YieldsIf P ops C oi (.agg cs.toArray) a := Or.inl ⟨hw, fun w hC => by
  unfold execOp
  simp only [ho, hx, Instr.loadAt, Instr.sureAddr, Sem.run_bind, Sem.run_pure, Result.andThen_ok, run_loadVar_mid w b k ty cs d (hc w hC) hu hd hi]⟩
theorem yields_build {P : Program} {ops : Array Oper} {C : World → Prop} {oi : Oper} {a : Act} (hw : Region.wanted oi (yielded ops a.tmps) = true) (t : TypeId) (parts : Array (Nat × Operand)) (ho : oi.op = .build t parts) {cells : Array Value}
 (hc : P.built t (parts.map fun (i, x) => (i, a.eval x)).toList = some cells) : YieldsIf P ops C oi (.agg cells) a := Or.inl ⟨hw, fun w _ => by
  unfold execOp
  simp only [ho, Sem.run_bind, Result.andThen_ok, run_build w t _ cells hc, Sem.run_pure]⟩
section
variable {P : Program} {ops : Array Oper} {Q : Exit → Act → World → Prop} {md : Region.Mode} {C E : World → Prop} {m : Nat}
theorem wpM_twoQ {i j : Nat} {o o' : Oper} {f : Nat} {L : Array Bool} {a : Act} {w : World} (ho : ops[i]? = some o) (ho' : ops[j]? = some o') (hr : Region.ready md ops L = [i, j]) (hcl : ClosedL md ops L)
 (h : ∀ K : Act → World → Prop, Shut (∀ a w, C w → E w → (ClosedL md ops (L.setIfInBounds i true) → wpAnyM P md ops Q C E m f (L.setIfInBounds i true) a w) → K a w) →
  if Region.wanted o (yielded ops a.tmps) = true then Oper.wp P o a w K Q else K (a.put o.dst undef) w)
 (h' : ∀ K : Act → World → Prop, Shut (∀ a w, C w → E w → (ClosedL md ops (L.setIfInBounds j true) → wpAnyM P md ops Q C E m f (L.setIfInBounds j true) a w) → K a w) →
  if Region.wanted o' (yielded ops a.tmps) = true then Oper.wp P o' a w K Q else K (a.put o'.dst undef) w) : wpAnyM P md ops Q C E m (f + 1) L a w := by
 refine ⟨fun h0 => (by rw [hr] at h0; cases h0), fun k hk => ?_⟩
 have hcl' := hcl.set hk
 rw [hr] at hk
 rcases List.mem_cons.1 hk with rfl | hk
 ·
  exact wpOp_step ho (fun K hK => h K fun a w hc he hh => hK a w ⟨hc, fun _ => he, hh hcl'⟩)
 ·
  obtain rfl : k = j := by simpa using hk
  exact wpOp_step ho' (fun K hK => h' K fun a w hc he hh => hK a w ⟨hc, fun _ => he, hh hcl'⟩)
end
theorem blk_all {b : Nat} {t : TypeId} {w : World} {cs : Array Value} (h : w.heap[b]? = some (.cells cs t (0, 0))) (ns : Array Value) (hl : ns.size = cs.size) : (w.setCells b 0 ns.toList).heap[b]? = some (.cells ns t (0, 0)) := by
 have h1 := blk_setCells ns.toList 0 w cs h
 have h2 := putL_list ns.toList 0 cs.toList (by simp [hl])
 rw [show cs.toList.toArray = cs from by simp] at h2
 rw [h2] at h1
 simpa [hl, List.drop_of_length_le] using h1
theorem there_all {b : Nat} {t : TypeId} {w : World} {cs : Array Value} (h : w.heap[b]? = some (.cells cs t (0, 0))) (n : Nat) (hn : n ≤ cs.size) : w.there b 0 n := fun j hj => by
 refine ⟨?_, jE h _⟩
 rw [Nat.zero_add, jA h, Array.getElem?_eq_getElem (by omega)]; rfl
theorem Ow.setCells {b base : Nat} {e : TypeId} {sz : Nat} {v : Value} {xs : List (List Value)} (hb : b < base) : ∀ (l : List Value) (o : Nat) {w : World}, Ow w base e sz v xs → Ow (w.setCells b o l) base e sz v xs
 | [], _, _, h => h
 | _ :: r, o, _, h => Ow.setCells hb r (o + 1) (h.setCell hb _)
theorem OwE.setCells {t : TypeId} {b base n c : Nat} {A : Option Addr} {ps : List Pe} {w : World} (hb : b < base) (l : List Value) (o : Nat) (h : OwE t w base A n c ps) : OwE t (w.setCells b o l) base A n c ps :=
 ⟨Ow.setCells hb l o h.1, fun p hp => Ow.setCells hb l o (h.2 p hp)⟩
theorem OwE.other {t e2 : TypeId} {w w' : World} {b1 b2 n c s2 : Nat} {A : Option Addr} {ps : List Pe} {v2 : Value} {ys : List (List Value)} (h : OwE t w b1 A n c ps) (h2 : Ow w b2 e2 s2 v2 ys) (hne : t ≠ e2) (hn2 : 131 ≠ e2) (hg : w.grownBy w' v2.ownBlock) : OwE t w' b1 A n c ps :=
 ⟨Ow.other h.1 h2 hne hg, fun p hp => Ow.other (h.2 p hp) h2 hn2 hg⟩
structure Cv.Sml (c : Cv) : Prop where
 l : c.t.parts.length ≤ 30
 m : c.mem.length ≤ 30
 ok : okPs 500 100 c.t.parts
 wf : ∀ p ∈ c.t.parts, p.2.wf
 x : c.t.id.wf
 v : c.t.deps.wf
 u : c.since.wf
structure Cm.Sml (w : World) (c : Cm) : Prop where
 ok : c.Ok w w.heap.size
 v : c.val.Sml
theorem Cm.Sml.below {w w' : World} {c : Cm} (h : c.Sml w) (hb : Below w.heap.size w w') : c.Sml w' := ⟨(h.ok.below hb).more hb.size, h.v⟩
theorem Cm.Sml.fit {w : World} {c : Cm} (h : c.Sml w) : c.Fit w := ⟨h.ok, fun p hp => by
 have hm : p.core ∈ c.val.t.parts := List.mem_map.2 ⟨p, hp, rfl⟩
 have h1 := h.v.ok p.core hm
 exact ⟨h.ok.rdE.2 p hp, h.v.wf p.core hm, Nat.le_trans h1.1 (by decide), Nat.le_trans h1.2.2 (by decide), Nat.le_trans (okPs.le h.v.ok h.ok.rdE p hp) (by decide)⟩, h.v.x, h.v.v, h.v.u⟩
theorem Cm.Sml.k {w : World} {c : Cm} (h : c.Sml w) : c.k ≤ 30 := by have h1 := h.v.l; have h2 := h.ok.rdE.len; simp [Cm.val] at h1; omega
theorem Cm.Sml.m {w : World} {c : Cm} (h : c.Sml w) : c.m ≤ 30 := by have h1 := h.v.m; have h2 := h.ok.rdM.1; simp [Cm.val] at h1; simp at h2; omega
theorem Cm.Sml.p {w : World} {c : Cm} (h : c.Sml w) : ∀ p ∈ c.ps, p.l ≤ 100 := okPs.le h.v.ok h.ok.rdE
structure Cm.Own (w : World) (base : Nat) (c : Cm) : Prop where
 e : OwE 159 w base c.T c.k c.kc c.ps
 i : Ow w base 3 1 (.slice c.B c.m c.mc) (c.ms.map eZ)
 lk : c.k ≤ maxLen
 lm : c.m ≤ maxLen
 pl : ∀ p ∈ c.ps, p.l ≤ maxLen
theorem Cm.Own.ok {w : World} {base : Nat} {c : Cm} (h : c.Own w base) : c.Ok w w.heap.size := ⟨h.e.rd, h.i.rd.1, h.lk, h.lm, h.pl⟩
theorem Cm.Own.below {w w' : World} {base : Nat} {c : Cm} (h : c.Own w base) (hb : Below w.heap.size w w') : c.Own w' base := ⟨h.e.below hb, h.i.below hb, h.lk, h.lm, h.pl⟩
theorem Cm.Own.base {w : World} {b b' : Nat} {c : Cm} (h : c.Own w b) (hb : b' ≤ b) : c.Own w b' := ⟨h.e.base hb, h.i.base hb, h.lk, h.lm, h.pl⟩
theorem Cm.Own.setCells {w : World} {base b : Nat} {c : Cm} (hb : b < base) (l : List Value) (o : Nat) (h : c.Own w base) : c.Own (w.setCells b o l) base := ⟨OwE.setCells hb l o h.e, Ow.setCells hb l o h.i, h.lk, h.lm, h.pl⟩
def CmdP (c : Cm) (w : World) (e : Ending) (w' : World) : Prop := ∃ c' : Cm, e = .returned (.agg ↑c') ∧ c'.val = c.val ∧ c'.Own w' w.heap.size ∧ Below w.heap.size w w'
def grC (c : Cm) : Bool := fgr15 c.ps || decide (30 < c.m)
theorem great25_any (c : Cm) (w : World) (hA : c.Ok w w.heap.size) : Calls Tryz.prog 6 #[.agg ↑c] w fun e w' => e = .returned (.bool (grC c)) ∧ Below w.heap.size w w' := by
 obtain ⟨kd, x, v, t, T, k, kc, ps, sn, wh, B, m, mc, ms, u⟩ := c
 have hE := hA.rdE
 have hk := hA.lk
 dsimp only at hE hk
 generalize hr : grC ⟨kd, x, v, t, T, k, kc, ps, sn, wh, B, m, mc, ms, u⟩ = q
 unfold grC at hr
 dsimp only at hr
 have hb0 : Below w.heap.size w (w.alloc (.cells #[.int .i64 kd, .int .i64 x.1, .int .u32 x.2, .int .u32 v.d0, .int .u32 v.d1, .int .u32 v.d2, .int .u32 v.d3, .int .u32 v.d4, .int .u32 v.d5, .int .u32 v.d6, .int .u32 v.d7, .bool t, .slice T k kc, .int .i64 sn, .int .i64 wh, .slice B m mc, .int .u32 u.d0, .int .u32 u.d1, .int .u32 u.d2, .int .u32 u.d3, .int .u32 u.d4, .int .u32 u.d5, .int .u32 u.d6, .int .u32 u.d7] 34)) := (Below.refl _ w).alloc (Nat.le_refl _) _
 have hbA : (w.alloc (.cells #[.int .i64 kd, .int .i64 x.1, .int .u32 x.2, .int .u32 v.d0, .int .u32 v.d1, .int .u32 v.d2, .int .u32 v.d3, .int .u32 v.d4, .int .u32 v.d5, .int .u32 v.d6, .int .u32 v.d7, .bool t, .slice T k kc, .int .i64 sn, .int .i64 wh, .slice B m mc, .int .u32 u.d0, .int .u32 u.d1, .int .u32 u.d2, .int .u32 u.d3, .int .u32 u.d4, .int .u32 u.d5, .int .u32 u.d6, .int .u32 u.d7] 34)).heap[w.heap.size]? = some (.cells #[.int .i64 kd, .int .i64 x.1, .int .u32 x.2, .int .u32 v.d0, .int .u32 v.d1, .int .u32 v.d2, .int .u32 v.d3, .int .u32 v.d4, .int .u32 v.d5, .int .u32 v.d6, .int .u32 v.d7, .bool t, .slice T k kc, .int .i64 sn, .int .i64 wh, .slice B m mc, .int .u32 u.d0, .int .u32 u.d1, .int .u32 u.d2, .int .u32 u.d3, .int .u32 u.d4, .int .u32 u.d5, .int .u32 u.d6, .int .u32 u.d7] 34 (0, 0)) := jT _ _ rfl
 generalize hW : (w.alloc (.cells #[.int .i64 kd, .int .i64 x.1, .int .u32 x.2, .int .u32 v.d0, .int .u32 v.d1, .int .u32 v.d2, .int .u32 v.d3, .int .u32 v.d4, .int .u32 v.d5, .int .u32 v.d6, .int .u32 v.d7, .bool t, .slice T k kc, .int .i64 sn, .int .i64 wh, .slice B m mc, .int .u32 u.d0, .int .u32 u.d1, .int .u32 u.d2, .int .u32 u.d3, .int .u32 u.d4, .int .u32 u.d5, .int .u32 u.d6, .int .u32 u.d7] 34)) = W at hb0 hbA
 have hz0 := hb0.size
 have hltA := jB hbA
 have p1 := jA hbA 1
 have p2 := jA hbA 2
 have p3 := jA hbA 3
 have p4 := jA hbA 4
 have p5 := jA hbA 5
 have p6 := jA hbA 6
 have p7 := jA hbA 7
 have p8 := jA hbA 8
 have p9 := jA hbA 9
 have p10 := jA hbA 10
 have p11 := jA hbA 11
 have p12 := jA hbA 12
 have p13 := jA hbA 13
 have p14 := jA hbA 14
 have p15 := jA hbA 15
 simp at p1 p2 p3 p4 p5 p6 p7 p8 p9 p10 p11 p12 p13 p14 p15
 have hbAH := jH hbA
 have hrH := jH hr
 have cG := jH (fgreat15_any (.int .i64 x.1) (.int .u32 x.2) (.int .u32 v.d0) (.int .u32 v.d1) (.int .u32 v.d2) (.int .u32 v.d3) (.int .u32 v.d4) (.int .u32 v.d5) (.int .u32 v.d6) (.int .u32 v.d7) (.bool t) T k kc ps W ((hE.below hb0).more hb0.size).1 hk)
 generalize fgr15 ps = bg at cG hrH
 clear hbA hr hA hE
 cases bg with
 | true =>
  have hT : Hid (true = q) := jH (by rw [← hrH.out]; rfl)
  go_enter Tryz.func6, Tryz.ntmps6
  go_wp2_with fail
  refine cG.out.mono ?_
  rintro e w1 ⟨rfl, hb1⟩
  have hG := hb0.trans (hb1.mono hz0)
  clear p1 p2 p3 p4 p5 p6 p7 p8 p9 p10 p11 p12 p13 p14 p15
  go_wp2
  go_ret
  exact ⟨jQ hT.out, hG⟩
 | false =>
  by_cases h30 : 30 < m
  ·
   have hd : decide ((30 : Int) < (m : Int)) = true := decide_eq_true (by omega)
   have hi : (30 : Int) < (m : Int) := by omega
   have hT : Hid (true = q) := jH (by rw [← hrH.out, decide_eq_true h30]; rfl)
   clear h30
   go_enter Tryz.func6, Tryz.ntmps6
   go_wp2_with fail
   refine cG.out.mono ?_
   rintro e w1 ⟨rfl, hb1⟩
   have hG := hb0.trans (hb1.mono hz0)
   have hbA1 := jD hbAH.out hb1
   have hltA1 := jB hbA1
   clear p1 p2 p3 p4 p5 p6 p7 p8 p9 p10 p11 p12 p13 p14 p15
   have p15 := jA hbA1 15
   simp at p15
   clear hbA1
   go_wp2
   go_ret
   exact ⟨jQ hT.out, hG⟩
  ·
   have hd : decide ((30 : Int) < (m : Int)) = false := decide_eq_false (by omega)
   have hi : ¬ (30 : Int) < (m : Int) := by omega
   have hT : Hid (false = q) := jH (by rw [← hrH.out, decide_eq_false h30]; rfl)
   clear h30
   go_enter Tryz.func6, Tryz.ntmps6
   go_wp2_with fail
   refine cG.out.mono ?_
   rintro e w1 ⟨rfl, hb1⟩
   have hG := hb0.trans (hb1.mono hz0)
   have hbA1 := jD hbAH.out hb1
   have hltA1 := jB hbA1
   clear p1 p2 p3 p4 p5 p6 p7 p8 p9 p10 p11 p12 p13 p14 p15
   have p15 := jA hbA1 15
   simp at p15
   clear hbA1
   go_wp2
   go_ret
   exact ⟨jQ hT.out, hG⟩
theorem cmd25_any (c : Cm) (w : World) (hA : c.Sml w) : Calls Tryz.prog 11 #[.agg ↑c] w fun e w' => CmdP c w e w' := by
 have hk := hA.k
 have hm := hA.m
 have hp := hA.p
 obtain ⟨kd, x, v, t, T, k, kc, ps, sn, wh, B, m, mc, ms, u⟩ := c
 have hE := hA.ok.rdE
 have hM := hA.ok.rdM
 dsimp only at hE hM hk hm hp
 have cT := jH (fun w' (h : Below w.heap.size w w') => txto_any x v t T k kc ps w' ((hE.below h).more h.size) (by omega) (fun p h => Nat.le_trans (hp p h) (by decide)))
 have hpl := jH (fun (A' : Option Addr) (qs : List Pe) w' (hr : RdE w' w'.heap.size A' k qs) (hq : qs.map Pe.core = ps.map Pe.core) => okPs.le (by rw [hq]; exact hA.v.ok) hr)
 have hMr := jH (fun w' (h : Below w.heap.size w w') => hM.below h)
 have hb0 : Below w.heap.size w ((w.alloc (.cells #[.int .i64 kd, .int .i64 x.1, .int .u32 x.2, .int .u32 v.d0, .int .u32 v.d1, .int .u32 v.d2, .int .u32 v.d3, .int .u32 v.d4, .int .u32 v.d5, .int .u32 v.d6, .int .u32 v.d7, .bool t, .slice T k kc, .int .i64 sn, .int .i64 wh, .slice B m mc, .int .u32 u.d0, .int .u32 u.d1, .int .u32 u.d2, .int .u32 u.d3, .int .u32 u.d4, .int .u32 u.d5, .int .u32 u.d6, .int .u32 u.d7] 34)).alloc (.cells ↑Zc.mk 47)) := ((Below.refl _ w).alloc (Nat.le_refl _) _).alloc (by simp) _
 have hbA : ((w.alloc (.cells #[.int .i64 kd, .int .i64 x.1, .int .u32 x.2, .int .u32 v.d0, .int .u32 v.d1, .int .u32 v.d2, .int .u32 v.d3, .int .u32 v.d4, .int .u32 v.d5, .int .u32 v.d6, .int .u32 v.d7, .bool t, .slice T k kc, .int .i64 sn, .int .i64 wh, .slice B m mc, .int .u32 u.d0, .int .u32 u.d1, .int .u32 u.d2, .int .u32 u.d3, .int .u32 u.d4, .int .u32 u.d5, .int .u32 u.d6, .int .u32 u.d7] 34)).alloc (.cells ↑Zc.mk 47)).heap[w.heap.size]? = some (.cells #[.int .i64 kd, .int .i64 x.1, .int .u32 x.2, .int .u32 v.d0, .int .u32 v.d1, .int .u32 v.d2, .int .u32 v.d3, .int .u32 v.d4, .int .u32 v.d5, .int .u32 v.d6, .int .u32 v.d7, .bool t, .slice T k kc, .int .i64 sn, .int .i64 wh, .slice B m mc, .int .u32 u.d0, .int .u32 u.d1, .int .u32 u.d2, .int .u32 u.d3, .int .u32 u.d4, .int .u32 u.d5, .int .u32 u.d6, .int .u32 u.d7] 34 (0, 0)) := yE _ (by simp) (jT _ _ rfl)
 have hbK : ((w.alloc (.cells #[.int .i64 kd, .int .i64 x.1, .int .u32 x.2, .int .u32 v.d0, .int .u32 v.d1, .int .u32 v.d2, .int .u32 v.d3, .int .u32 v.d4, .int .u32 v.d5, .int .u32 v.d6, .int .u32 v.d7, .bool t, .slice T k kc, .int .i64 sn, .int .i64 wh, .slice B m mc, .int .u32 u.d0, .int .u32 u.d1, .int .u32 u.d2, .int .u32 u.d3, .int .u32 u.d4, .int .u32 u.d5, .int .u32 u.d6, .int .u32 u.d7] 34)).alloc (.cells ↑Zc.mk 47)).heap[w.heap.size + 1]? = some (.cells ↑Zc.mk 47 (0, 0)) := jT _ _ (by simp)
 generalize hW : ((w.alloc (.cells #[.int .i64 kd, .int .i64 x.1, .int .u32 x.2, .int .u32 v.d0, .int .u32 v.d1, .int .u32 v.d2, .int .u32 v.d3, .int .u32 v.d4, .int .u32 v.d5, .int .u32 v.d6, .int .u32 v.d7, .bool t, .slice T k kc, .int .i64 sn, .int .i64 wh, .slice B m mc, .int .u32 u.d0, .int .u32 u.d1, .int .u32 u.d2, .int .u32 u.d3, .int .u32 u.d4, .int .u32 u.d5, .int .u32 u.d6, .int .u32 u.d7] 34)).alloc (.cells ↑Zc.mk 47)) = W at hb0 hbA hbK
 have hz0 := hb0.size
 have hltA := jB hbA
 have hltK := jB hbK
 have hn1 : w.heap.size + 1 ≤ W.heap.size := by omega
 have hn0 : w.heap.size ≤ w.heap.size + 1 := by omega
 have p0 := jA hbA 0
 have p1 := jA hbA 1
 have p2 := jA hbA 2
 have p3 := jA hbA 3
 have p4 := jA hbA 4
 have p5 := jA hbA 5
 have p6 := jA hbA 6
 have p7 := jA hbA 7
 have p8 := jA hbA 8
 have p9 := jA hbA 9
 have p10 := jA hbA 10
 have p11 := jA hbA 11
 have p12 := jA hbA 12
 have p13 := jA hbA 13
 have p14 := jA hbA 14
 have p15 := jA hbA 15
 have p16 := jA hbA 16
 have p17 := jA hbA 17
 have p18 := jA hbA 18
 have p19 := jA hbA 19
 have p20 := jA hbA 20
 have p21 := jA hbA 21
 have p22 := jA hbA 22
 have p23 := jA hbA 23
 simp at p0 p1 p2 p3 p4 p5 p6 p7 p8 p9 p10 p11 p12 p13 p14 p15 p16 p17 p18 p19 p20 p21 p22 p23
 have hbKH := jH hbK
 have hb0H := jH hb0
 have hGr := jH (fun w' (h : Below (w.heap.size + 1) W w') => hb0.trans (h.mono hn0))
 clear hbA hA hE hM hbK hb0 hp
 go_enter Tryz.func11, Tryz.ntmps11
 go_upto_region 1 with (fail)
 clear hW
 refine jW (fun w' => KQ (w.heap.size + 1) W w') (fun w' => w'.heap[w.heap.size + 1]? = some (.cells ↑Zc.mk 47 (0, 0))) 16 (by kernel_rfl) (kq (Below.refl _ _).drew) hbKH.out ?_
 intro hcl
 have hC : KQ (w.heap.size + 1) W W.drew := kq (Below.refl _ _).drew
 have hE : W.drew.heap[w.heap.size + 1]? = some (.cells ↑Zc.mk 47 (0, 0)) := hbKH.out
 (refine mT 0 ?_ rfl hcl hC hE ?_ ?_; rotate_left; (· (intro w hSw; (try dsimp only at hSw); go_simp; (try with_reducible rfl))); clear hcl; intro hcl; (try simp only [Act.put, List.getElem_toArray, List.getElem_cons_zero, List.setIfInBounds_toArray, List.set_cons_zero, List.set_cons_succ]))
 (refine mT 1 ?_ rfl hcl hC hE ?_ ?_; rotate_left; (· (intro w hSw; (try dsimp only at hSw); go_simp; (try with_reducible rfl))); clear hcl; intro hcl; (try simp only [Act.put, nA, nB, nC, nD, nE, nF]))
 (refine mT 2 ?_ rfl hcl hC hE ?_ ?_; rotate_left; (· (intro w hSw; (try dsimp only at hSw); go_simp; (try with_reducible rfl))); clear hcl; intro hcl; (try simp only [Act.put, nA, nB, nC, nD, nE, nF]))
 (refine mT 3 ?_ rfl hcl hC hE ?_ ?_; rotate_left; (· (intro w hSw; (try dsimp only at hSw); go_simp; (try with_reducible rfl))); clear hcl; intro hcl; (try simp only [Act.put, nA, nB, nC, nD, nE, nF]))
 (refine mT 5 ?_ rfl hcl hC hE ?_ ?_; rotate_left; (· (intro w hSw; (try dsimp only at hSw); go_simp; (try with_reducible rfl))); clear hcl; intro hcl; (try simp only [Act.put, nA, nB, nC, nD, nE, nF]))
 (refine mT 6 ?_ rfl hcl hC hE ?_ ?_; rotate_left; (· (intro w hSw; (try dsimp only at hSw); go_simp; (try with_reducible rfl))); clear hcl; intro hcl; (try simp only [Act.put, nA, nB, nC, nD, nE, nF]))
 (refine mT 7 ?_ rfl hcl hC hE ?_ ?_; rotate_left; (· (intro w hSw; (try dsimp only at hSw); go_simp; (try with_reducible rfl))); clear hcl; intro hcl; (try simp only [Act.put, nA, nB, nC, nD, nE, nF]))
 (refine mT 8 ?_ rfl hcl hC hE ?_ ?_; rotate_left; (· (intro w hSw; (try dsimp only at hSw); go_simp; (try with_reducible rfl))); clear hcl; intro hcl; (try simp only [Act.put, nA, nB, nC, nD, nE, nF]))
 (refine mT 10 ?_ rfl hcl hC hE ?_ ?_; rotate_left; (· (intro w hSw; (try dsimp only at hSw); go_simp; (try with_reducible rfl))); clear hcl; intro hcl; (try simp only [Act.put, nA, nB, nC, nD, nE, nF]))
 (refine mT 11 ?_ rfl hcl hC hE ?_ ?_; rotate_left; (· (intro w hSw; (try dsimp only at hSw); go_simp; (try with_reducible rfl))); clear hcl; intro hcl; (try simp only [Act.put, nA, nB, nC, nD, nE, nF]))
 (refine mT 13 ?_ rfl hcl hC hE ?_ ?_; rotate_left; (· (intro w hSw; (try dsimp only at hSw); go_simp; (try with_reducible rfl))); clear hcl; intro hcl; (try simp only [Act.put, nA, nB, nC, nD, nE, nF]))
 (refine mT 14 ?_ rfl hcl hC hE ?_ ?_; rotate_left; (· (intro w hSw; (try dsimp only at hSw); go_simp; (try with_reducible rfl))); clear hcl; intro hcl; (try simp only [Act.put, nA, nB, nC, nD, nE, nF]))
 refine wpM_twoQ (i := 4) (j := 9) rfl rfl (by kernel_rfl) hcl (fun K hK => ?_) (fun K hK => ?_)
 ·
  go_simp
  refine (cT.out _ (hGr.out _ hC.1)).mono ?_
  rintro e v1 ⟨A1, c1, qs, rfl, o1, hq1, hv1⟩
  have hcs := hC.1.size
  replace o1 := o1.base (show w.heap.size + 2 ≤ _ by omega)
  clear hcs
  have hC' := jP hC hn1 hv1
  have hE' := jD hE hv1
  refine hK.out _ _ hC' hE' ?_
  clear hK K
  clear hcl
  intro hcl
  (try simp only [Act.put, nA, nB, nC, nD, nE, nF])
  clear hC hE
  have hC := hC'
  have hE := hE'
  clear hC' hE'
  replace hq1 := jH hq1
  refine jK (i := 9) rfl (by kernel_rfl) hcl (fun K hK => ?_)
  go_simp
  have hva : Below v1.heap.size v1 (v1.alloc (.cells #[] 3)) := (Below.refl _ _).alloc (Nat.le_refl _) _
  have om := Ow.made0 v1 3 1 (base := w.heap.size + 2) (by have := hC.1.size; omega)
  have hC' := kq_alloc hC hn1 (.cells #[] 3)
  have hE' := jD hE hva
  refine hK.out _ _ hC' hE' ?_
  clear hK K
  clear hcl
  intro hcl
  (try simp only [Act.put, nA, nB, nC, nD, nE, nF])
  clear hC hE hva
  have hC := hC'
  have hE := hE'
  clear hC' hE'
  refine jK (i := 12) rfl (by kernel_rfl) hcl (fun K hK => ?_)
  have o1 := o1.below (show Below v1.heap.size v1 (v1.alloc (.cells #[] 3)) from (Below.refl _ _).alloc (Nat.le_refl _) _)
  refine step_append_rd _ rfl _ _ _ rfl eIntQ (base := w.heap.size + 2) (v := .slice (some ⟨v1.heap.size, 0, none⟩) 0 0) (xs := []) rfl om rfl (hMr.out _ (hGr.out _ hC.1)) eZ_len eZ_one (by unfold maxLen; simp; omega) (by simp; omega) (by have := hC.1.size; omega) ?_
  intro A5 n5 c5 w5 hn5 oi hg hat
  obtain rfl : n5 = m := by rw [hn5]; simp
  clear hn5
  have hE' : w5.heap[w.heap.size + 1]? = some (.cells ↑Zc.mk 47 (0, 0)) := (hg.block _ (jB hE) (fun e => by have := (om.block _ e.symm).1; omega)).trans hE
  have hC' := yB hC hn1 hg (fun k hk => by have := (om.block _ hk).1; omega)
  refine hK.out _ _ hC' hE' ?_
  clear hK K hC hE hcl
  intro hcl
  have hC := hC'
  have hE := hE'
  clear hC' hE'
  (try simp only [Act.put, List.setIfInBounds_toArray])
  have o1 := OwE.other o1 om (by decide) (by decide) hg
  refine wpM_take (i := 15) (v := .agg #[.int .i64 kd, .int .i64 x.1, .int .u32 x.2, .int .u32 v.d0, .int .u32 v.d1, .int .u32 v.d2, .int .u32 v.d3, .int .u32 v.d4, .int .u32 v.d5, .int .u32 v.d6, .int .u32 v.d7, .bool t, .slice A1 k c1, .int .i64 sn, .int .i64 wh, .slice A5 n5 c5, .int .u32 u.d0, .int .u32 u.d1, .int .u32 u.d2, .int .u32 u.d3, .int .u32 u.d4, .int .u32 u.d5, .int .u32 u.d6, .int .u32 u.d7]) rfl (by kernel_rfl) (by kernel_rfl) (by kernel_rfl) (by decide) (fun _ _ _ h => h) hcl hC (fun _ => hE) (yields_build (by kernel_rfl) _ _ rfl (by kernel_rfl)) ?_
  clear hcl
  intro hcl
  (try simp only [Act.put])
  refine wpM_last (i := 16) rfl (by kernel_rfl) hcl (by kernel_rfl) (fun K hK => ?_)
  rw [if_pos (by kernel_rfl)]
  refine wp_store_mid _ _ _ rfl (w.heap.size + 1) 0 #[.int .i64 kd, .int .i64 x.1, .int .u32 x.2, .int .u32 v.d0, .int .u32 v.d1, .int .u32 v.d2, .int .u32 v.d3, .int .u32 v.d4, .int .u32 v.d5, .int .u32 v.d6, .int .u32 v.d7, .bool t, .slice A1 k c1, .int .i64 sn, .int .i64 wh, .slice A5 n5 c5, .int .u32 u.d0, .int .u32 u.d1, .int .u32 u.d2, .int .u32 u.d3, .int .u32 u.d4, .int .u32 u.d5, .int .u32 u.d6, .int .u32 u.d7] rfl rfl (there_all hE _ (by simp)) (by kernel_rfl) (by simp [Value.oneCell']) ?_
  have hR := jH (blk_all hE #[.int .i64 kd, .int .i64 x.1, .int .u32 x.2, .int .u32 v.d0, .int .u32 v.d1, .int .u32 v.d2, .int .u32 v.d3, .int .u32 v.d4, .int .u32 v.d5, .int .u32 v.d6, .int .u32 v.d7, .bool t, .slice A1 k c1, .int .i64 sn, .int .i64 wh, .slice A5 n5 c5, .int .u32 u.d0, .int .u32 u.d1, .int .u32 u.d2, .int .u32 u.d3, .int .u32 u.d4, .int .u32 u.d5, .int .u32 u.d6, .int .u32 u.d7] (by simp))
  have hBl := jH (hGr.out _ (jV (Nat.le_refl _) (#[.int .i64 kd, .int .i64 x.1, .int .u32 x.2, .int .u32 v.d0, .int .u32 v.d1, .int .u32 v.d2, .int .u32 v.d3, .int .u32 v.d4, .int .u32 v.d5, .int .u32 v.d6, .int .u32 v.d7, .bool t, .slice A1 k c1, .int .i64 sn, .int .i64 wh, .slice A5 n5 c5, .int .u32 u.d0, .int .u32 u.d1, .int .u32 u.d2, .int .u32 u.d3, .int .u32 u.d4, .int .u32 u.d5, .int .u32 u.d6, .int .u32 u.d7] : Array Value).toList 0 _ hC.1))
  have hoE := jH (OwE.setCells (by omega) (#[.int .i64 kd, .int .i64 x.1, .int .u32 x.2, .int .u32 v.d0, .int .u32 v.d1, .int .u32 v.d2, .int .u32 v.d3, .int .u32 v.d4, .int .u32 v.d5, .int .u32 v.d6, .int .u32 v.d7, .bool t, .slice A1 k c1, .int .i64 sn, .int .i64 wh, .slice A5 n5 c5, .int .u32 u.d0, .int .u32 u.d1, .int .u32 u.d2, .int .u32 u.d3, .int .u32 u.d4, .int .u32 u.d5, .int .u32 u.d6, .int .u32 u.d7] : Array Value).toList 0 o1 (b := w.heap.size + 1))
  have hoI := jH (Ow.setCells (by omega) (#[.int .i64 kd, .int .i64 x.1, .int .u32 x.2, .int .u32 v.d0, .int .u32 v.d1, .int .u32 v.d2, .int .u32 v.d3, .int .u32 v.d4, .int .u32 v.d5, .int .u32 v.d6, .int .u32 v.d7, .bool t, .slice A1 k c1, .int .i64 sn, .int .i64 wh, .slice A5 n5 c5, .int .u32 u.d0, .int .u32 u.d1, .int .u32 u.d2, .int .u32 u.d3, .int .u32 u.d4, .int .u32 u.d5, .int .u32 u.d6, .int .u32 u.d7] : Array Value).toList 0 oi (b := w.heap.size + 1))
  refine hK.out _ _ (kq (jV (Nat.le_refl _) _ _ _ hC.1)) ?_
  clear hK K hcl
  intro hcl
  refine wpM_done (by kernel_rfl) ?_
  clear hcl hC hE o1 oi p0 p1 p2 p3 p4 p5 p6 p7 p8 p9 p10 p11 p12 p13 p14 p15 p16 p17 p18 p19 p20 p21 p22 p23
  (try simp only [Act.put])
  go_wp2_with fail
  exact bodyPost_ret (v := .agg #[.int .i64 kd, .int .i64 x.1, .int .u32 x.2, .int .u32 v.d0, .int .u32 v.d1, .int .u32 v.d2, .int .u32 v.d3, .int .u32 v.d4, .int .u32 v.d5, .int .u32 v.d6, .int .u32 v.d7, .bool t, .slice A1 k c1, .int .i64 sn, .int .i64 wh, .slice A5 n5 c5, .int .u32 u.d0, .int .u32 u.d1, .int .u32 u.d2, .int .u32 u.d3, .int .u32 u.d4, .int .u32 u.d5, .int .u32 u.d6, .int .u32 u.d7]) (results_cellQ 2 47 (by kernel_rfl) (w.heap.size + 1) rfl (run_loadVar_row _ _ _ _ _ _ _ hR.out Tryz.underlying47 rfl (by kernel_rfl))) rfl
   ⟨⟨kd, x, v, t, A1, k, c1, qs, sn, wh, A5, n5, c5, ms, u⟩, rfl, by unfold Cm.val; rw [hq1.out], ⟨hoE.out.base (by omega), hoI.out.base (by omega), Nat.le_trans hk (by decide), Nat.le_trans hm (by decide), fun p hp => Nat.le_trans (hpl.out A1 qs _ hoE.out.rd hq1.out p hp) (by decide)⟩, hBl.out⟩
 ·
  go_simp
  have hva : Below W.drew.heap.size W.drew (W.drew.alloc (.cells #[] 3)) := (Below.refl _ _).alloc (Nat.le_refl _) _
  have om := Ow.made0 W.drew 3 1 (base := w.heap.size + 2) (by have := hC.1.size; omega)
  have hC' := kq_alloc hC hn1 (.cells #[] 3)
  have hE' := jD hE hva
  refine hK.out _ _ hC' hE' ?_
  clear hK K
  clear hcl
  intro hcl
  (try simp only [Act.put, nA, nB, nC, nD, nE, nF])
  clear hC hE hva
  have hC := hC'
  have hE := hE'
  clear hC' hE'
  refine jK (i := 4) rfl (by kernel_rfl) hcl (fun K hK => ?_)
  go_simp
  refine (cT.out _ (hGr.out _ hC.1)).mono ?_
  rintro e v1 ⟨A1, c1, qs, rfl, o1, hq1, hv1⟩
  have hcs := hC.1.size
  replace o1 := o1.base (show w.heap.size + 2 ≤ _ by omega)
  clear hcs
  have hC' := jP hC hn1 hv1
  have hE' := jD hE hv1
  refine hK.out _ _ hC' hE' ?_
  clear hK K
  clear hcl
  intro hcl
  (try simp only [Act.put, nA, nB, nC, nD, nE, nF])
  clear hC hE
  have hC := hC'
  have hE := hE'
  clear hC' hE'
  replace hq1 := jH hq1
  have om := om.below hv1
  refine jK (i := 12) rfl (by kernel_rfl) hcl (fun K hK => ?_)
  refine step_append_rd _ rfl _ _ _ rfl eIntQ (base := w.heap.size + 2) (v := .slice (some ⟨W.heap.size, 0, none⟩) 0 0) (xs := []) rfl om rfl (hMr.out _ (hGr.out _ hC.1)) eZ_len eZ_one (by unfold maxLen; simp; omega) (by simp; omega) (by have := hC.1.size; omega) ?_
  intro A5 n5 c5 w5 hn5 oi hg hat
  obtain rfl : n5 = m := by rw [hn5]; simp
  clear hn5
  have hE' : w5.heap[w.heap.size + 1]? = some (.cells ↑Zc.mk 47 (0, 0)) := (hg.block _ (jB hE) (fun e => by have := (om.block _ e.symm).1; omega)).trans hE
  have hC' := yB hC hn1 hg (fun k hk => by have := (om.block _ hk).1; omega)
  refine hK.out _ _ hC' hE' ?_
  clear hK K hC hE hcl
  intro hcl
  have hC := hC'
  have hE := hE'
  clear hC' hE'
  (try simp only [Act.put, List.setIfInBounds_toArray])
  have o1 := OwE.other o1 om (by decide) (by decide) hg
  refine wpM_take (i := 15) (v := .agg #[.int .i64 kd, .int .i64 x.1, .int .u32 x.2, .int .u32 v.d0, .int .u32 v.d1, .int .u32 v.d2, .int .u32 v.d3, .int .u32 v.d4, .int .u32 v.d5, .int .u32 v.d6, .int .u32 v.d7, .bool t, .slice A1 k c1, .int .i64 sn, .int .i64 wh, .slice A5 n5 c5, .int .u32 u.d0, .int .u32 u.d1, .int .u32 u.d2, .int .u32 u.d3, .int .u32 u.d4, .int .u32 u.d5, .int .u32 u.d6, .int .u32 u.d7]) rfl (by kernel_rfl) (by kernel_rfl) (by kernel_rfl) (by decide) (fun _ _ _ h => h) hcl hC (fun _ => hE) (yields_build (by kernel_rfl) _ _ rfl (by kernel_rfl)) ?_
  clear hcl
  intro hcl
  (try simp only [Act.put])
  refine wpM_last (i := 16) rfl (by kernel_rfl) hcl (by kernel_rfl) (fun K hK => ?_)
  rw [if_pos (by kernel_rfl)]
  refine wp_store_mid _ _ _ rfl (w.heap.size + 1) 0 #[.int .i64 kd, .int .i64 x.1, .int .u32 x.2, .int .u32 v.d0, .int .u32 v.d1, .int .u32 v.d2, .int .u32 v.d3, .int .u32 v.d4, .int .u32 v.d5, .int .u32 v.d6, .int .u32 v.d7, .bool t, .slice A1 k c1, .int .i64 sn, .int .i64 wh, .slice A5 n5 c5, .int .u32 u.d0, .int .u32 u.d1, .int .u32 u.d2, .int .u32 u.d3, .int .u32 u.d4, .int .u32 u.d5, .int .u32 u.d6, .int .u32 u.d7] rfl rfl (there_all hE _ (by simp)) (by kernel_rfl) (by simp [Value.oneCell']) ?_
  have hR := jH (blk_all hE #[.int .i64 kd, .int .i64 x.1, .int .u32 x.2, .int .u32 v.d0, .int .u32 v.d1, .int .u32 v.d2, .int .u32 v.d3, .int .u32 v.d4, .int .u32 v.d5, .int .u32 v.d6, .int .u32 v.d7, .bool t, .slice A1 k c1, .int .i64 sn, .int .i64 wh, .slice A5 n5 c5, .int .u32 u.d0, .int .u32 u.d1, .int .u32 u.d2, .int .u32 u.d3, .int .u32 u.d4, .int .u32 u.d5, .int .u32 u.d6, .int .u32 u.d7] (by simp))
  have hBl := jH (hGr.out _ (jV (Nat.le_refl _) (#[.int .i64 kd, .int .i64 x.1, .int .u32 x.2, .int .u32 v.d0, .int .u32 v.d1, .int .u32 v.d2, .int .u32 v.d3, .int .u32 v.d4, .int .u32 v.d5, .int .u32 v.d6, .int .u32 v.d7, .bool t, .slice A1 k c1, .int .i64 sn, .int .i64 wh, .slice A5 n5 c5, .int .u32 u.d0, .int .u32 u.d1, .int .u32 u.d2, .int .u32 u.d3, .int .u32 u.d4, .int .u32 u.d5, .int .u32 u.d6, .int .u32 u.d7] : Array Value).toList 0 _ hC.1))
  have hoE := jH (OwE.setCells (by omega) (#[.int .i64 kd, .int .i64 x.1, .int .u32 x.2, .int .u32 v.d0, .int .u32 v.d1, .int .u32 v.d2, .int .u32 v.d3, .int .u32 v.d4, .int .u32 v.d5, .int .u32 v.d6, .int .u32 v.d7, .bool t, .slice A1 k c1, .int .i64 sn, .int .i64 wh, .slice A5 n5 c5, .int .u32 u.d0, .int .u32 u.d1, .int .u32 u.d2, .int .u32 u.d3, .int .u32 u.d4, .int .u32 u.d5, .int .u32 u.d6, .int .u32 u.d7] : Array Value).toList 0 o1 (b := w.heap.size + 1))
  have hoI := jH (Ow.setCells (by omega) (#[.int .i64 kd, .int .i64 x.1, .int .u32 x.2, .int .u32 v.d0, .int .u32 v.d1, .int .u32 v.d2, .int .u32 v.d3, .int .u32 v.d4, .int .u32 v.d5, .int .u32 v.d6, .int .u32 v.d7, .bool t, .slice A1 k c1, .int .i64 sn, .int .i64 wh, .slice A5 n5 c5, .int .u32 u.d0, .int .u32 u.d1, .int .u32 u.d2, .int .u32 u.d3, .int .u32 u.d4, .int .u32 u.d5, .int .u32 u.d6, .int .u32 u.d7] : Array Value).toList 0 oi (b := w.heap.size + 1))
  refine hK.out _ _ (kq (jV (Nat.le_refl _) _ _ _ hC.1)) ?_
  clear hK K hcl
  intro hcl
  refine wpM_done (by kernel_rfl) ?_
  clear hcl hC hE o1 oi p0 p1 p2 p3 p4 p5 p6 p7 p8 p9 p10 p11 p12 p13 p14 p15 p16 p17 p18 p19 p20 p21 p22 p23
  (try simp only [Act.put])
  go_wp2_with fail
  exact bodyPost_ret (v := .agg #[.int .i64 kd, .int .i64 x.1, .int .u32 x.2, .int .u32 v.d0, .int .u32 v.d1, .int .u32 v.d2, .int .u32 v.d3, .int .u32 v.d4, .int .u32 v.d5, .int .u32 v.d6, .int .u32 v.d7, .bool t, .slice A1 k c1, .int .i64 sn, .int .i64 wh, .slice A5 n5 c5, .int .u32 u.d0, .int .u32 u.d1, .int .u32 u.d2, .int .u32 u.d3, .int .u32 u.d4, .int .u32 u.d5, .int .u32 u.d6, .int .u32 u.d7]) (results_cellQ 2 47 (by kernel_rfl) (w.heap.size + 1) rfl (run_loadVar_row _ _ _ _ _ _ _ hR.out Tryz.underlying47 rfl (by kernel_rfl))) rfl
   ⟨⟨kd, x, v, t, A1, k, c1, qs, sn, wh, A5, n5, c5, ms, u⟩, rfl, by unfold Cm.val; rw [hq1.out], ⟨hoE.out.base (by omega), hoI.out.base (by omega), Nat.le_trans hk (by decide), Nat.le_trans hm (by decide), fun p hp => Nat.le_trans (hpl.out A1 qs _ hoE.out.rd hq1.out p hp) (by decide)⟩, hBl.out⟩
end Go.Proofs.YtfhandglpjnonaaGreatDoor
