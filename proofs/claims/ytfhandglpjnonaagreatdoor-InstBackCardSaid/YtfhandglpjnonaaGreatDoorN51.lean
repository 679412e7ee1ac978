/- Arguments of the statements on maps of puts, opened. Transactions as arguments, opened. Rows that name a variable of the library's: the world's shape handed to the contract; lists of texts opened. Commands and messages as arguments, opened. Messages as arguments, opened, with the bounds of their numbers. Rows that list the one variable of Go's library: what the condition gives; a world that meets it. Rows that list both the library's handle and its tables: what the condition gives; a world that meets it. -/
import Derived.Test.YtfhandglpjnonaaGreatDoorM5
import Derived.Test.YtfhandglpjnonaaGreatDoorN06
import Derived.Test.YtfhandglpjnonaaGreatDoorM39
import Derived.Test.YtfhandglpjnonaaGreatDoorN16
import Derived.ProofKit
import Derived.OpenShut
import Derived.LaidMore
import Derived.Lay
import Derived.ChangeSame
import Derived.ChangeVars
import Derived.JoinedOf
import Derived.RowKitTokens
import Derived.LaidLaws
import Derived.Stop.Joined
import Derived.Shelf.Vars
import Derived.Test.YtfhandglpjnonaaGreatDoorTwI
import Derived.Test.YtfhandglpjnonaaGreatDoorQw
import Derived.Test.YtfhandglpjnonaaGreatDoorAs
import Derived.LaidHandle
set_option maxRecDepth 100000
set_option maxHeartbeats 16000000
namespace Go.Proofs.YtfhandglpjnonaaGreatDoor
open Go.ChangeShapes Go.WideShapes Go.ChangeAt Go.RowKit
section
variable {H : Type} {enc : TypeId × Value → H} {w : World} {base : Nat} {spare : Nat → Bool} {held : Bool}
end
section
variable {H : Type} {enc : TypeId × Value → H} {w : World} {base : Nat} {spare : Nat → Bool} {held : Bool}
theorem reads_pe {cs : List Value} (hl : cs.length = 10) (h : Reads enc Tryz.prog w base spare held 138 cs) : ∃ p : Pe, cs = p.enc ∧ (p.Ok w w.heap.size ∧ p.e.wf ∧ p.key.length ≤ maxLen ∧ p.e.name.length ≤ maxLen ∧ p.l ≤ maxLen) := by
 obtain ⟨c0, c1, c2, c3, c4, c5, c6, c7, c8, c9, rfl⟩ := list10 hl
 obtain ⟨x0, rfl, k0⟩ := reads_string Tryz.underlying9 (jU 0 0 1 Tryz.underlying138 rfl rfl rfl (by kernel_rfl) h)
 have he := jU 1 1 9 Tryz.underlying138 rfl rfl rfl (by kernel_rfl) h
 obtain ⟨x1, rfl, a1, a2⟩ := reads_i64 Tryz.underlying3 (jU 0 0 1 Tryz.underlying136 rfl rfl rfl (by kernel_rfl) he)
 obtain ⟨x2, rfl, k2⟩ := reads_string Tryz.underlying9 (jU 1 1 1 Tryz.underlying136 rfl rfl rfl (by kernel_rfl) he)
 obtain ⟨x3, rfl, b1, b2⟩ := reads_i64 Tryz.underlying2 (jU 2 2 1 Tryz.underlying136 rfl rfl rfl (by kernel_rfl) he)
 obtain ⟨tg, htg, htw⟩ := reads_tm (cs := [c4, c5, c6]) rfl (jU 3 3 3 Tryz.underlying136 rfl rfl rfl (by kernel_rfl) he)
 have ha := jU 4 6 2 Tryz.underlying136 rfl rfl rfl (by kernel_rfl) he
 obtain ⟨x7, rfl, u1, u2⟩ := reads_u32 Tryz.underlying22 (jU 0 0 1 Tryz.underlying133 rfl rfl rfl (by kernel_rfl) ha)
 obtain ⟨x8, rfl⟩ := reads_int Tryz.underlying3 (jU 1 1 1 Tryz.underlying133 rfl rfl rfl (by kernel_rfl) ha)
 obtain ⟨A, l, c, ts, rfl, hR, hw, hlc, hcm⟩ := reads_slice Tm.enc Tm.wf Tryz.underlying134 (by kernel_rfl) (by decide) (fun cs hl h => reads_tm hl h) (jU 5 8 1 Tryz.underlying136 rfl rfl rfl (by kernel_rfl) he)
 simp only [Tm.enc, List.cons.injEq, and_true] at htg
 obtain ⟨rfl, rfl, rfl⟩ := htg
 exact ⟨⟨x0.data.toList, ⟨x1, x2.data.toList, x3, tg, (x7, x8), ts⟩, A, l, c⟩, by unfold Pe.enc; dsimp only; rw [bs_of, bs_of], hR, ⟨htw, ⟨u1, u2⟩, ⟨b1, b2⟩, hw, a1, a2⟩, by rw [Array.length_toList]; exact k0, by rw [Array.length_toList]; exact k2, Nat.le_trans hlc hcm⟩
theorem reads_txe {cs : List Value} (hl : cs.length = 12) (h : Reads enc Tryz.prog w base spare held 31 cs) :
 ∃ (x : Im) (v : Vm) (t : Bool) (A : Option Addr) (n c : Nat) (ps : List Pe), cs = [.int .i64 x.1, .int .u32 x.2, .int .u32 v.d0, .int .u32 v.d1, .int .u32 v.d2, .int .u32 v.d3, .int .u32 v.d4, .int .u32 v.d5, .int .u32 v.d6, .int .u32 v.d7, .bool t, .slice A n c] ∧ x.wf ∧ v.wf ∧ RdE w w.heap.size A n ps ∧ (∀ p ∈ ps, p.e.wf ∧ p.key.length ≤ maxLen ∧ p.e.name.length ≤ maxLen ∧ p.l ≤ maxLen) ∧ n ≤ maxLen := by
 obtain ⟨c0, c1, c2, c3, c4, c5, c6, c7, c8, c9, c10, c11, rfl⟩ := list12 hl
 obtain ⟨x, hx, hxw⟩ := reads_id (cs := [c0, c1]) rfl (jU 0 0 2 Tryz.underlying31 rfl rfl rfl (by kernel_rfl) h)
 obtain ⟨v, hv, hvw⟩ := reads_vec (cs := [c2, c3, c4, c5, c6, c7, c8, c9]) rfl (jU 1 2 8 Tryz.underlying31 rfl rfl rfl (by kernel_rfl) h)
 obtain ⟨t, rfl⟩ := reads_bool Tryz.underlying4 (jU 2 10 1 Tryz.underlying31 rfl rfl rfl (by kernel_rfl) h)
 obtain ⟨A, l, c, ps, rfl, hR, hQ, hlc, hcm⟩ := reads_slice Pe.enc (fun p => p.Ok w w.heap.size ∧ p.e.wf ∧ p.key.length ≤ maxLen ∧ p.e.name.length ≤ maxLen ∧ p.l ≤ maxLen) Tryz.underlying29 (by kernel_rfl) (by decide) (fun cs hl h => reads_pe hl h) (jU 3 11 1 Tryz.underlying31 rfl rfl rfl (by kernel_rfl) h)
 simp only [Im.enc, List.cons.injEq, and_true] at hx hv
 obtain ⟨rfl, rfl⟩ := hx
 obtain ⟨rfl, rfl, rfl, rfl, rfl, rfl, rfl, rfl⟩ := hv
 exact ⟨x, v, t, A, l, c, ps, rfl, hxw, hvw, ⟨hR, fun p hp => (hQ p hp).1⟩, fun p hp => (hQ p hp).2, Nat.le_trans hlc hcm⟩
end
section
variable {H : Type} {enc : TypeId × Value → H}
theorem returns_shaped {a : Assume} {C : Checked} {os : Os} {f : FuncId} {fn : Func} {s : ChangeSpec} {conds : List PathCond} {apart fresh handsOn again : Bool} {X : World → Array Value → Prop}
 (hX : ∀ (w w' : World) (args : Array Value), w.heap = w'.heap → X w args → X w' args)
 (own : ownKnob C.prog.godebug = none) (started : os.Started) (noInit : C.prog.inits.idxOf? f = none) (hfn : C.prog.funcs[f]? = some fn)
 (witness : ∃ (w : World) (tape : Tape) (i : Input), w.os = os ∧ (w.forCall tape i).Shaped C.prog ∧ i.vars = [] ∧ Input.okWide C.prog (w.forCall tape i) .any w.heap.size f i ∧
  ((s.pre enc C.prog fn conds apart (w.forCall tape i).memory i.args ∧ X (w.forCall tape i).memory i.args) ∧ sizedMet enc C.prog fn (OpenSpec.ofChange s) apart (w.forCall tape i).memory i.args) ∧ a.holds C.prog (lone (Frame.enter C.prog f i.args .normal) [] (w.forCall tape i)))
 (contract : ∀ (W : World) (base : Nat) (args : Array Value) (ds gs : List (DataW H)) (before : List MemPlace),
  (∀ (j : Nat) t v, fn.params[j]? = some t → args[j]? = some v → Value.okWide C.prog W .any base t v) →
  DataW.Whole enc C.prog fn.params.toList s.vars apart W args.toList ds gs before →
  conds.all (PathCond.test C.prog ⟨fn.params.toList, ds, s.plain.varTypes C.prog, gs⟩) = true →
  (DataW.weightsEach C.prog (fn.params.toList ++ s.plain.varTypes C.prog) (ds ++ gs)).all (· ≤ reachBytes) = true → X W args → W.ShapedOpen C.prog →
  a.holds C.prog (lone (Frame.enter C.prog f args .normal) [] W) →
  Calls C.prog f args W fun e W' => ∃ v, e = .returned v ∧ s.post enc C.prog fn apart fresh handsOn again W args v W') :
 ReturnsInHanded a C os f .any (fun w args => (s.pre enc C.prog fn conds apart w args ∧ X w args) ∧ sizedMet enc C.prog fn (OpenSpec.ofChange s) apart w args) (s.post enc C.prog fn apart fresh handsOn again) := by
 refine returnsInHanded_of_calls own started noInit witness ?_
 intro w tape i _ hsh _ hok hpre hholds
 obtain ⟨_, _, _, fn', hfn', _, _, _, _, hval⟩ := hok
 have e : fn' = fn := Option.some.inj (hfn'.symm.trans hfn)
 subst e
 obtain ⟨⟨⟨ds, gs, before, hw, hc⟩, hx⟩, hz⟩ := hpre
 have hw' := DataW.Whole.of_heap (w' := w.forCall tape i) (by rfl) hw
 refine (contract (w.forCall tape i) w.heap.size i.args ds gs before hval hw' hc (hz.weights hw) (hX _ _ _ (by rfl) hx) hsh hholds).mono fun e W' ⟨v, he, hp⟩ => ?_
 subst he
 exact ChangeSpec.post_blind hp
end
theorem varM_shaped {w : World} (h : w.ShapedOpen Tryz.prog) : VarM w :=
 cell_of_shapedOpen_int (g := 1) (t := 3) (zero := #[.int .i64 0]) h (of_decide_eq_true (by kernel_rfl)) (by kernel_rfl) rfl (by kernel_rfl) (by kernel_rfl) Tryz.underlying3
section
variable {H : Type} {enc : TypeId × Value → H} {w : World} {base : Nat} {spare : Nat → Bool} {held : Bool}
end
section
variable {H : Type} {enc : TypeId × Value → H} {w : World} {base : Nat} {spare : Nat → Bool} {held : Bool}
theorem list24 {l : List Value} (h : l.length = 24) : ∃ c0 c1 c2 c3 c4 c5 c6 c7 c8 c9 c10 c11 c12 c13 c14 c15 c16 c17 c18 c19 c20 c21 c22 c23, l = [c0, c1, c2, c3, c4, c5, c6, c7, c8, c9, c10, c11, c12, c13, c14, c15, c16, c17, c18, c19, c20, c21, c22, c23] := by
 obtain ⟨c0, c1, c2, c3, c4, c5, c6, c7, c8, c9, c10, c11, h1⟩ := list12 (l := l.take 12) (by rw [List.length_take]; omega)
 obtain ⟨c12, c13, c14, c15, c16, c17, c18, c19, c20, c21, c22, c23, h2⟩ := list12 (l := l.drop 12) (by rw [List.length_drop]; omega)
 have e := List.take_append_drop 12 l
 rw [h1, h2] at e
 exact ⟨_, _, _, _, _, _, _, _, _, _, _, _, _, _, _, _, _, _, _, _, _, _, _, _, e.symm⟩
theorem list44 {l : List Value} (h : l.length = 44) : ∃ c0 c1 c2 c3 c4 c5 c6 c7 c8 c9 c10 c11 c12 c13 c14 c15 c16 c17 c18 c19 c20 c21 c22 c23 c24 c25 c26 c27 c28 c29 c30 c31 c32 c33 c34 c35 c36 c37 c38 c39 c40 c41 c42 c43, l = [c0, c1, c2, c3, c4, c5, c6, c7, c8, c9, c10, c11, c12, c13, c14, c15, c16, c17, c18, c19, c20, c21, c22, c23, c24, c25, c26, c27, c28, c29, c30, c31, c32, c33, c34, c35, c36, c37, c38, c39, c40, c41, c42, c43] := by
 obtain ⟨c0, c1, c2, c3, c4, c5, c6, c7, c8, c9, c10, c11, c12, c13, c14, c15, c16, c17, c18, c19, c20, c21, c22, c23, h1⟩ := list24 (l := l.take 24) (by rw [List.length_take]; omega)
 obtain ⟨c24, c25, c26, c27, c28, c29, c30, c31, c32, c33, c34, c35, h2⟩ := list12 (l := (l.drop 24).take 12) (by rw [List.length_take, List.length_drop]; omega)
 obtain ⟨c36, c37, c38, c39, c40, c41, c42, c43, h3⟩ := list8 (l := (l.drop 24).drop 12) (by rw [List.length_drop, List.length_drop]; omega)
 have e := List.take_append_drop 24 l
 rw [← List.take_append_drop 12 (l.drop 24), h1, h2, h3] at e
 exact ⟨_, _, _, _, _, _, _, _, _, _, _, _, _, _, _, _, _, _, _, _, _, _, _, _, _, _, _, _, _, _, _, _, _, _, _, _, _, _, _, _, _, _, _, _, e.symm⟩
theorem reads_cmd {cs : List Value} (hl : cs.length = 24) (h : Reads enc Tryz.prog w base spare held 34 cs) : ∃ c : Cm, cs = ↑c ∧ c.Raw w := by
 obtain ⟨c0, c1, c2, c3, c4, c5, c6, c7, c8, c9, c10, c11, c12, c13, c14, c15, c16, c17, c18, c19, c20, c21, c22, c23, rfl⟩ := list24 hl
 obtain ⟨kd, rfl⟩ := reads_int Tryz.underlying3 (jU 0 0 1 Tryz.underlying34 rfl rfl rfl (by kernel_rfl) h)
 obtain ⟨x, v, t, T, k, kc, ps, hx, hxw, hvw, hT, hp, hk⟩ := reads_txe (cs := [c1, c2, c3, c4, c5, c6, c7, c8, c9, c10, c11, c12]) rfl (jU 1 1 12 Tryz.underlying34 rfl rfl rfl (by kernel_rfl) h)
 obtain ⟨sn, rfl⟩ := reads_int Tryz.underlying3 (jU 2 13 1 Tryz.underlying34 rfl rfl rfl (by kernel_rfl) h)
 obtain ⟨wh, rfl⟩ := reads_int Tryz.underlying3 (jU 3 14 1 Tryz.underlying34 rfl rfl rfl (by kernel_rfl) h)
 obtain ⟨B, m, mc, ms, rfl, hR, -, hlc, hcm⟩ := reads_slice (sz := 1) eZ (fun _ => True) Tryz.underlying32 (by kernel_rfl) (by decide) (fun cs hl h => by
  obtain ⟨a, rfl⟩ := List.length_eq_one_iff.1 hl
  obtain ⟨z, rfl⟩ := reads_int Tryz.underlying3 h
  exact ⟨z, rfl, trivial⟩) (jU 4 15 1 Tryz.underlying34 rfl rfl rfl (by kernel_rfl) h)
 obtain ⟨u, hu, huw⟩ := reads_vec (cs := [c16, c17, c18, c19, c20, c21, c22, c23]) rfl (jU 5 16 8 Tryz.underlying34 rfl rfl rfl (by kernel_rfl) h)
 simp only [List.cons.injEq, and_true] at hx hu
 obtain ⟨rfl, rfl, rfl, rfl, rfl, rfl, rfl, rfl, rfl, rfl, rfl, rfl⟩ := hx
 obtain ⟨rfl, rfl, rfl, rfl, rfl, rfl, rfl, rfl⟩ := hu
 exact ⟨⟨kd, x, v, t, T, k, kc, ps, sn, wh, B, m, mc, ms, u⟩, rfl, ⟨⟨hT, hR, hk, Nat.le_trans hlc hcm, fun p h => (hp p h).2.2.2⟩, fun p h => ⟨(hp p h).1, (hp p h).2.1, (hp p h).2.2.1⟩, hxw, hvw, huw⟩⟩
end
section
variable {H : Type} {enc : TypeId × Value → H} {w : World} {base : Nat} {spare : Nat → Bool} {held : Bool}
theorem reads_balN {cs : List Value} (hl : cs.length = 2) (h : Reads enc Tryz.prog w base spare held 26 cs) : ∃ b : Int × Int, cs = [.int .u32 b.1, .int .i64 b.2] ∧ 0 ≤ b.1 := by
 obtain ⟨a, b, rfl⟩ := list2 hl
 obtain ⟨x, rfl, hx0, -⟩ := reads_u32 Tryz.underlying22 (jU 0 0 1 Tryz.underlying26 rfl rfl rfl (by kernel_rfl) h)
 obtain ⟨y, rfl⟩ := reads_int Tryz.underlying3 (jU 1 1 1 Tryz.underlying26 rfl rfl rfl (by kernel_rfl) h)
 exact ⟨(x, y), rfl, hx0⟩
theorem reads_msgN {cs : List Value} (hl : cs.length = 44) (h : Reads enc Tryz.prog w base spare held 38 cs) : ∃ m : Mm, cs = [.int .i64 m.kd, .int .i64 m.fr, .int .i64 m.dst, .int .u32 m.ep, .int .i64 m.i.1, .int .u32 m.i.2, .int .u32 m.b.1, .int .i64 m.b.2, .int .i64 m.st, .int .u32 m.vv.1, .int .i64 m.vv.2, .int .i64 m.c.kd, .int .i64 m.c.x.1, .int .u32 m.c.x.2, .int .u32 m.c.v.d0, .int .u32 m.c.v.d1, .int .u32 m.c.v.d2, .int .u32 m.c.v.d3, .int .u32 m.c.v.d4, .int .u32 m.c.v.d5, .int .u32 m.c.v.d6, .int .u32 m.c.v.d7, .bool m.c.t, .slice m.c.T m.c.k m.c.kc, .int .i64 m.c.sn, .int .i64 m.c.wh, .slice m.c.B m.c.m m.c.mc, .int .u32 m.c.u.d0, .int .u32 m.c.u.d1, .int .u32 m.c.u.d2, .int .u32 m.c.u.d3, .int .u32 m.c.u.d4, .int .u32 m.c.u.d5, .int .u32 m.c.u.d6, .int .u32 m.c.u.d7, .int .u32 m.an, .int .u32 m.av.d0, .int .u32 m.av.d1, .int .u32 m.av.d2, .int .u32 m.av.d3, .int .u32 m.av.d4, .int .u32 m.av.d5, .int .u32 m.av.d6, .int .u32 m.av.d7] ∧ m.c.Raw w ∧ m.i.wf ∧ m.av.wf ∧ m.Nn := by
 obtain ⟨c0, c1, c2, c3, c4, c5, c6, c7, c8, c9, c10, c11, c12, c13, c14, c15, c16, c17, c18, c19, c20, c21, c22, c23, c24, c25, c26, c27, c28, c29, c30, c31, c32, c33, c34, c35, c36, c37, c38, c39, c40, c41, c42, c43, rfl⟩ := list44 hl
 obtain ⟨kd, rfl⟩ := reads_int Tryz.underlying3 (jU 0 0 1 Tryz.underlying38 rfl rfl rfl (by kernel_rfl) h)
 obtain ⟨fr, rfl⟩ := reads_int Tryz.underlying3 (jU 1 1 1 Tryz.underlying38 rfl rfl rfl (by kernel_rfl) h)
 obtain ⟨dst, rfl⟩ := reads_int Tryz.underlying3 (jU 2 2 1 Tryz.underlying38 rfl rfl rfl (by kernel_rfl) h)
 obtain ⟨ep, rfl, hep, -⟩ := reads_u32 Tryz.underlying22 (jU 3 3 1 Tryz.underlying38 rfl rfl rfl (by kernel_rfl) h)
 obtain ⟨i, hi, hiw⟩ := reads_id (cs := [c4, c5]) rfl (jU 4 4 2 Tryz.underlying38 rfl rfl rfl (by kernel_rfl) h)
 obtain ⟨b, hb, hb0⟩ := reads_balN (cs := [c6, c7]) rfl (jU 5 6 2 Tryz.underlying38 rfl rfl rfl (by kernel_rfl) h)
 obtain ⟨st, rfl⟩ := reads_int Tryz.underlying3 (jU 6 8 1 Tryz.underlying38 rfl rfl rfl (by kernel_rfl) h)
 obtain ⟨vv, hv, hv0⟩ := reads_balN (cs := [c9, c10]) rfl (jU 7 9 2 Tryz.underlying38 rfl rfl rfl (by kernel_rfl) h)
 obtain ⟨c, hc, hcr⟩ := reads_cmd (cs := [c11, c12, c13, c14, c15, c16, c17, c18, c19, c20, c21, c22, c23, c24, c25, c26, c27, c28, c29, c30, c31, c32, c33, c34]) rfl (jU 8 11 24 Tryz.underlying38 rfl rfl rfl (by kernel_rfl) h)
 have hatt := jU 9 35 9 Tryz.underlying38 rfl rfl rfl (by kernel_rfl) h
 obtain ⟨an, rfl, han, -⟩ := reads_u32 Tryz.underlying22 (jU 0 0 1 Tryz.underlying36 rfl rfl rfl (by kernel_rfl) hatt)
 obtain ⟨av, ha, haw⟩ := reads_vec (cs := [c36, c37, c38, c39, c40, c41, c42, c43]) rfl (jU 1 1 8 Tryz.underlying36 rfl rfl rfl (by kernel_rfl) hatt)
 simp only [Im.enc, List.cons.injEq, and_true] at hi hb hv hc ha
 obtain ⟨rfl, rfl⟩ := hi
 obtain ⟨rfl, rfl⟩ := hb
 obtain ⟨rfl, rfl⟩ := hv
 obtain ⟨rfl, rfl, rfl, rfl, rfl, rfl, rfl, rfl, rfl, rfl, rfl, rfl, rfl, rfl, rfl, rfl, rfl, rfl, rfl, rfl, rfl, rfl, rfl, rfl⟩ := hc
 obtain ⟨rfl, rfl, rfl, rfl, rfl, rfl, rfl, rfl⟩ := ha
 exact ⟨⟨kd, fr, dst, ep, i, b, st, vv, c, an, av⟩, rfl, hcr, hiw, haw, hep, hb0, hv0, han⟩
theorem open_msgN {r : Reach} {b0 : Nat} {v : Value} {d : DataW H} {p : List MemPlace} (hv : Value.okWide Tryz.prog w r b0 38 v) (h : DataW.Trod enc Tryz.prog w base spare held 38 v d p) : ∃ m : Mm, v = .agg ↑m ∧ m.c.Raw w ∧ m.i.wf ∧ m.av.wf ∧ m.Nn := by
 obtain ⟨cs, rfl, hsz⟩ := okWide_struct Tryz.underlying38 hv
 obtain ⟨m, hm, h1⟩ := reads_msgN (cs := cs.toList) (by rw [Array.length_toList, hsz]; kernel_rfl) (reads_of h)
 exact ⟨m, by rw [show cs = [.int .i64 m.kd, .int .i64 m.fr, .int .i64 m.dst, .int .u32 m.ep, .int .i64 m.i.1, .int .u32 m.i.2, .int .u32 m.b.1, .int .i64 m.b.2, .int .i64 m.st, .int .u32 m.vv.1, .int .i64 m.vv.2, .int .i64 m.c.kd, .int .i64 m.c.x.1, .int .u32 m.c.x.2, .int .u32 m.c.v.d0, .int .u32 m.c.v.d1, .int .u32 m.c.v.d2, .int .u32 m.c.v.d3, .int .u32 m.c.v.d4, .int .u32 m.c.v.d5, .int .u32 m.c.v.d6, .int .u32 m.c.v.d7, .bool m.c.t, .slice m.c.T m.c.k m.c.kc, .int .i64 m.c.sn, .int .i64 m.c.wh, .slice m.c.B m.c.m m.c.mc, .int .u32 m.c.u.d0, .int .u32 m.c.u.d1, .int .u32 m.c.u.d2, .int .u32 m.c.u.d3, .int .u32 m.c.u.d4, .int .u32 m.c.u.d5, .int .u32 m.c.u.d6, .int .u32 m.c.u.d7, .int .u32 m.an, .int .u32 m.av.d0, .int .u32 m.av.d1, .int .u32 m.av.d2, .int .u32 m.av.d3, .int .u32 m.av.d4, .int .u32 m.av.d5, .int .u32 m.av.d6, .int .u32 m.av.d7].toArray by rw [← hm]], h1⟩
end
theorem Tryz.et : Tryz.prog.globalNamed "errors.errorType" = some 0 := by kernel_rfl
theorem Tryz.rt : (Tryz.prog.cutTypes.find? (·.1 == "internal/reflectlite.rtype")).map (·.2) = some 225 := by kernel_rfl
theorem Tryz.oneRow : ((List.range 306).filter fun t => Tryz.prog.rowNamed t [101, 114, 114, 111, 114]) = [65] := by kernel_rfl
theorem Tryz.size : Tryz.prog.types.size = 306 := by kernel_rfl
theorem handle_of_laid {W : World} (h : laidMetH Tryz.prog [("errors.errorType", Rows.laid_errors_errorType)] W) : VarOk W := by
 have h' : laidMet Tryz.prog [] W ∧ handlesMet Tryz.prog [("errors.errorType", Rows.laid_errors_errorType)] W := h
 obtain ⟨name, u, ty, e1, e2, e3, e4, e5⟩ := h'.2 _ (List.mem_singleton.2 rfl)
 have en : name = [101, 114, 114, 111, 114] := (Option.some.inj e1).symm
 subst en
 obtain rfl := Option.some.inj (Tryz.rt.symm.trans e2)
 have hm : ty ∈ (List.range 306).filter fun t => Tryz.prog.rowNamed t [101, 114, 114, 111, 114] := List.mem_filter.2 ⟨List.mem_range.2 (by rw [← Tryz.size]; exact e3), e4⟩
 rw [Tryz.oneRow] at hm
 obtain rfl := List.mem_singleton.1 hm
 have hh : typeHandle Tryz.prog 65 = .pointer (some ⟨4, 65, none⟩) := by kernel_rfl
 rw [hh] at e5
 have := World.var?_cell Tryz.et e5 0
 unfold VarOk
 simpa using this
noncomputable def laidWorld (os : Os) : World :=
 let w0 := World.holding Tryz.prog os ⟨#[], #[], []⟩
 { w0 with heap := w0.heap.modify 0 fun
  | .cells _ t frozen => .cells #[.iface 225 (.agg #[.pointer (some ⟨4, 65, none⟩)])] t frozen
  | o => o }
theorem handle_of_laidB {W : World} (h : laidMetH Tryz.prog [("unicode/utf8.acceptRanges", Rows.laid_unicode_utf8_acceptRanges), ("errors.errorType", Rows.laid_errors_errorType), ("unicode/utf8.first", Rows.laid_unicode_utf8_first)] W) : VarOk W := by
 have h' : laidMet Tryz.prog [("unicode/utf8.acceptRanges", Rows.laid_unicode_utf8_acceptRanges), ("unicode/utf8.first", Rows.laid_unicode_utf8_first)] W ∧ handlesMet Tryz.prog [("errors.errorType", Rows.laid_errors_errorType)] W := h
 exact handle_of_laid (⟨laidMet_nil _ _, h'.2⟩ : laidMet Tryz.prog [] W ∧ handlesMet Tryz.prog [("errors.errorType", Rows.laid_errors_errorType)] W)
noncomputable def laidWorldB (os : Os) : World := (laidWorld os).layVars Tryz.prog [("unicode/utf8.acceptRanges", Rows.laid_unicode_utf8_acceptRanges), ("unicode/utf8.first", Rows.laid_unicode_utf8_first)]
theorem laidWorldB_met (os : Os) (args : Array Value) : laidMetH Tryz.prog [("unicode/utf8.acceptRanges", Rows.laid_unicode_utf8_acceptRanges), ("errors.errorType", Rows.laid_errors_errorType), ("unicode/utf8.first", Rows.laid_unicode_utf8_first)] ((laidWorldB os).forCall (fun _ _ => 0) ⟨#[], args, []⟩).memory := by
 refine laidMetH_of_parts ?_ (by kernel_rfl)
 have e1 : (([("unicode/utf8.acceptRanges", Rows.laid_unicode_utf8_acceptRanges), ("unicode/utf8.first", Rows.laid_unicode_utf8_first)] : List (String × DataW Unit)).filter fun x => ["unicode/utf8.acceptRanges", "unicode/utf8.first"].contains x.1) = [("unicode/utf8.acceptRanges", Rows.laid_unicode_utf8_acceptRanges), ("unicode/utf8.first", Rows.laid_unicode_utf8_first)] := by rfl
 have e2 : (([("unicode/utf8.acceptRanges", Rows.laid_unicode_utf8_acceptRanges), ("unicode/utf8.first", Rows.laid_unicode_utf8_first)] : List (String × DataW Unit)).filter fun x => !["unicode/utf8.acceptRanges", "unicode/utf8.first"].contains x.1) = [] := by rfl
 have h : laidMet Tryz.prog [("unicode/utf8.acceptRanges", Rows.laid_unicode_utf8_acceptRanges), ("unicode/utf8.first", Rows.laid_unicode_utf8_first)] (laidWorldB os) := laidMet_layVars (w0 := laidWorld os) ["unicode/utf8.acceptRanges", "unicode/utf8.first"] [] (by rw [e1]; rfl) (by rw [e1]; kernel_rfl) (by rw [e1]; kernel_rfl) (by rw [e2]; exact LaidIn.none)
 exact h.of_heap (by simp [World.memory, World.forCall, Input.heap])
end Go.Proofs.YtfhandglpjnonaaGreatDoor
