/- Arguments of the statements on maps of puts, opened. Transactions as arguments, opened. Rows that name a variable of the library's: the world's shape handed to the contract; lists of texts opened. -/
import Derived.Test.YtfhandglpjnonaaGreatDoorM5
import Derived.Test.YtfhandglpjnonaaGreatDoorM11
import Derived.Test.YtfhandglpjnonaaGreatDoorM39
import Derived.Test.YtfhandglpjnonaaGreatDoorN31
import Derived.ProofKit
import Derived.OpenShut
import Derived.LaidMore
import Derived.Lay
import Derived.ChangeSame
import Derived.ChangeVars
import Derived.JoinedOf
import Derived.RowKitTokens
import Derived.LaidLaws
import Derived.Stop.Joined
import Derived.Shelf.Vars
namespace Go.Proofs.YtfhandglpjnonaaGreatDoor
open Go.ChangeShapes Go.WideShapes Go.ChangeAt Go.RowKit

theorem list7 {l : List Value} (h : l.length = 7) : ∃ a b c d e f g, l = [a, b, c, d, e, f, g] := by
  match l, h with
  | [a, b, c, d, e, f, g], _ => exact ⟨a, b, c, d, e, f, g, rfl⟩
section
variable {H : Type} {enc : TypeId × Value → H} {w : World} {base : Nat} {spare : Nat → Bool} {held : Bool}
theorem reads_sm {cs : List Value} (hl : cs.length = 2) (h : Reads enc Tryz.prog w base spare held 133 cs) : ∃ s : Sm, cs = [.int .u32 s.1, .int .i64 s.2] ∧ s.wf := by
  obtain ⟨a, b, rfl⟩ := list2 hl
  obtain ⟨x, rfl, hx1, hx2⟩ := reads_u32 Tryz.underlying22 (reads_field 0 0 1 Tryz.underlying133 rfl rfl rfl (by kernel_rfl) h)
  obtain ⟨z, rfl⟩ := reads_int Tryz.underlying3 (reads_field 1 1 1 Tryz.underlying133 rfl rfl rfl (by kernel_rfl) h)
  exact ⟨(x, z), rfl, hx1, hx2⟩
theorem reads_put {cs : List Value} (hl : cs.length = 7) (h : Reads enc Tryz.prog w base spare held 291 cs) : ∃ p : Pm, cs = p.enc ∧ (p.wf ∧ p.2.1.length ≤ maxLen) := by
  obtain ⟨a, b, c, d, e, f, g, rfl⟩ := list7 hl
  obtain ⟨t, ht, hw⟩ := reads_tm (cs := [a, b, c]) rfl (reads_field 0 0 3 Tryz.underlying291 rfl rfl rfl (by kernel_rfl) h)
  obtain ⟨z, rfl, hzl⟩ := reads_string Tryz.underlying9 (reads_field 1 3 1 Tryz.underlying291 rfl rfl rfl (by kernel_rfl) h)
  obtain ⟨v, rfl, hv1, hv2⟩ := reads_i64 Tryz.underlying2 (reads_field 2 4 1 Tryz.underlying291 rfl rfl rfl (by kernel_rfl) h)
  obtain ⟨s, hs, hsw⟩ := reads_sm (cs := [f, g]) rfl (reads_field 3 5 2 Tryz.underlying291 rfl rfl rfl (by kernel_rfl) h)
  simp only [Tm.enc, List.cons.injEq] at ht hs
  obtain ⟨rfl, rfl, rfl, _⟩ := ht
  obtain ⟨rfl, rfl, _⟩ := hs
  exact ⟨(t, (z.data.toList, (v, s))), by unfold Pm.enc; rw [bs_of], ⟨hw, hsw, hv1, hv2⟩, by rw [Array.length_toList]; exact hzl⟩
set_option maxRecDepth 100000 in
theorem open_omap {r : Reach} {b0 : Nat} {v : Value} {d : DataW H} {p : List MemPlace} (hv : Value.okWide Tryz.prog w r b0 149 v) (h : DataW.Trod enc Tryz.prog w base spare held 149 v d p) :
    ∃ (A : Option Addr) (n c : Nat) (xs : List Pm) (B : Option Addr) (m d : Nat) (gs : List Tm), v = .agg #[.slice A n c, .slice B m d] ∧ RdP w w.heap.size A n xs ∧ (∀ x ∈ xs, x.wf ∧ x.2.1.length ≤ maxLen) ∧ RdT w w.heap.size B m gs ∧ (∀ x ∈ gs, x.wf) ∧ n ≤ c ∧ c ≤ maxLen ∧ m ≤ d ∧ d ≤ maxLen := by
  obtain ⟨cs, rfl, hsz⟩ := okWide_struct Tryz.underlying149 hv
  have hr := reads_of h
  obtain ⟨c0, c1, hcs⟩ := list2 (l := cs.toList) (by rw [Array.length_toList, hsz]; kernel_rfl)
  have hr : Reads enc Tryz.prog w base spare held 149 cs.toList := hr
  rw [hcs] at hr
  obtain ⟨A, n, c, xs, h1, h2, h3, h4, h5⟩ := reads_slice Pm.enc (fun a => a.wf ∧ a.2.1.length ≤ maxLen) (v := c0) Tryz.underlying147 (by kernel_rfl) (by decide) (fun cs hl h => reads_put hl h) (reads_field 0 0 1 Tryz.underlying149 rfl rfl rfl (by kernel_rfl) hr)
  obtain ⟨B, m, d', gs, k1, k2, k3, k4, k5⟩ := reads_slice Tm.enc Tm.wf (v := c1) Tryz.underlying134 (by kernel_rfl) (by decide) (fun cs hl h => reads_tm hl h) (reads_field 1 1 1 Tryz.underlying149 rfl rfl rfl (by kernel_rfl) hr)
  have e : cs = [c0, c1].toArray := by rw [← hcs]
  subst h1; subst k1
  exact ⟨A, n, c, xs, B, m, d', gs, by rw [e], h2, h3, k2, k3, h4, h5, k4, k5⟩
end
end Go.Proofs.YtfhandglpjnonaaGreatDoor
namespace Go.Proofs.YtfhandglpjnonaaGreatDoor
open Go.ChangeShapes Go.WideShapes Go.ChangeAt Go.RowKit

section
variable {H : Type} {enc : TypeId × Value → H} {w : World} {base : Nat} {spare : Nat → Bool} {held : Bool}
theorem reads_pe {cs : List Value} (hl : cs.length = 10) (h : Reads enc Tryz.prog w base spare held 138 cs) : ∃ p : Pe, cs = p.enc ∧ (p.Ok w w.heap.size ∧ p.e.wf ∧ p.key.length ≤ maxLen ∧ p.e.name.length ≤ maxLen ∧ p.l ≤ maxLen) := by
  obtain ⟨c0, c1, c2, c3, c4, c5, c6, c7, c8, c9, rfl⟩ := list10 hl
  obtain ⟨x0, rfl, k0⟩ := reads_string Tryz.underlying9 (reads_field 0 0 1 Tryz.underlying138 rfl rfl rfl (by kernel_rfl) h)
  have he := reads_field 1 1 9 Tryz.underlying138 rfl rfl rfl (by kernel_rfl) h
  obtain ⟨x1, rfl, a1, a2⟩ := reads_i64 Tryz.underlying3 (reads_field 0 0 1 Tryz.underlying136 rfl rfl rfl (by kernel_rfl) he)
  obtain ⟨x2, rfl, k2⟩ := reads_string Tryz.underlying9 (reads_field 1 1 1 Tryz.underlying136 rfl rfl rfl (by kernel_rfl) he)
  obtain ⟨x3, rfl, b1, b2⟩ := reads_i64 Tryz.underlying2 (reads_field 2 2 1 Tryz.underlying136 rfl rfl rfl (by kernel_rfl) he)
  obtain ⟨tg, htg, htw⟩ := reads_tm (cs := [c4, c5, c6]) rfl (reads_field 3 3 3 Tryz.underlying136 rfl rfl rfl (by kernel_rfl) he)
  have ha := reads_field 4 6 2 Tryz.underlying136 rfl rfl rfl (by kernel_rfl) he
  obtain ⟨x7, rfl, u1, u2⟩ := reads_u32 Tryz.underlying22 (reads_field 0 0 1 Tryz.underlying133 rfl rfl rfl (by kernel_rfl) ha)
  obtain ⟨x8, rfl⟩ := reads_int Tryz.underlying3 (reads_field 1 1 1 Tryz.underlying133 rfl rfl rfl (by kernel_rfl) ha)
  obtain ⟨A, l, c, ts, rfl, hR, hw, hlc, hcm⟩ := reads_slice Tm.enc Tm.wf Tryz.underlying134 (by kernel_rfl) (by decide) (fun cs hl h => reads_tm hl h) (reads_field 5 8 1 Tryz.underlying136 rfl rfl rfl (by kernel_rfl) he)
  simp only [Tm.enc, List.cons.injEq, and_true] at htg
  obtain ⟨rfl, rfl, rfl⟩ := htg
  exact ⟨⟨x0.data.toList, ⟨x1, x2.data.toList, x3, tg, (x7, x8), ts⟩, A, l, c⟩, by unfold Pe.enc; dsimp only; rw [bs_of, bs_of], hR, ⟨htw, ⟨u1, u2⟩, ⟨b1, b2⟩, hw, a1, a2⟩, by rw [Array.length_toList]; exact k0, by rw [Array.length_toList]; exact k2, Nat.le_trans hlc hcm⟩
set_option maxRecDepth 100000 in
theorem reads_txe {cs : List Value} (hl : cs.length = 12) (h : Reads enc Tryz.prog w base spare held 31 cs) :
    ∃ (x : Im) (v : Vm) (t : Bool) (A : Option Addr) (n c : Nat) (ps : List Pe), cs = [.int .i64 x.1, .int .u32 x.2, .int .u32 v.d0, .int .u32 v.d1, .int .u32 v.d2, .int .u32 v.d3, .int .u32 v.d4, .int .u32 v.d5, .int .u32 v.d6, .int .u32 v.d7, .bool t, .slice A n c] ∧ x.wf ∧ v.wf ∧ RdE w w.heap.size A n ps ∧ (∀ p ∈ ps, p.e.wf ∧ p.key.length ≤ maxLen ∧ p.e.name.length ≤ maxLen ∧ p.l ≤ maxLen) ∧ n ≤ maxLen := by
  obtain ⟨c0, c1, c2, c3, c4, c5, c6, c7, c8, c9, c10, c11, rfl⟩ := list12 hl
  obtain ⟨x, hx, hxw⟩ := reads_id (cs := [c0, c1]) rfl (reads_field 0 0 2 Tryz.underlying31 rfl rfl rfl (by kernel_rfl) h)
  obtain ⟨v, hv, hvw⟩ := reads_vec (cs := [c2, c3, c4, c5, c6, c7, c8, c9]) rfl (reads_field 1 2 8 Tryz.underlying31 rfl rfl rfl (by kernel_rfl) h)
  obtain ⟨t, rfl⟩ := reads_bool Tryz.underlying4 (reads_field 2 10 1 Tryz.underlying31 rfl rfl rfl (by kernel_rfl) h)
  obtain ⟨A, l, c, ps, rfl, hR, hQ, hlc, hcm⟩ := reads_slice Pe.enc (fun p => p.Ok w w.heap.size ∧ p.e.wf ∧ p.key.length ≤ maxLen ∧ p.e.name.length ≤ maxLen ∧ p.l ≤ maxLen) Tryz.underlying29 (by kernel_rfl) (by decide) (fun cs hl h => reads_pe hl h) (reads_field 3 11 1 Tryz.underlying31 rfl rfl rfl (by kernel_rfl) h)
  simp only [Im.enc, List.cons.injEq, and_true] at hx hv
  obtain ⟨rfl, rfl⟩ := hx
  obtain ⟨rfl, rfl, rfl, rfl, rfl, rfl, rfl, rfl⟩ := hv
  exact ⟨x, v, t, A, l, c, ps, rfl, hxw, hvw, ⟨hR, fun p hp => (hQ p hp).1⟩, fun p hp => (hQ p hp).2, Nat.le_trans hlc hcm⟩
set_option maxRecDepth 100000 in
theorem open_txe {r : Reach} {b0 : Nat} {v : Value} {d : DataW H} {p : List MemPlace} (hv : Value.okWide Tryz.prog w r b0 31 v) (h : DataW.Trod enc Tryz.prog w base spare held 31 v d p) :
    ∃ (x : Im) (u : Vm) (t : Bool) (A : Option Addr) (n c : Nat) (ps : List Pe), v = .agg #[.int .i64 x.1, .int .u32 x.2, .int .u32 u.d0, .int .u32 u.d1, .int .u32 u.d2, .int .u32 u.d3, .int .u32 u.d4, .int .u32 u.d5, .int .u32 u.d6, .int .u32 u.d7, .bool t, .slice A n c] ∧ x.wf ∧ u.wf ∧ RdE w w.heap.size A n ps ∧ (∀ p ∈ ps, p.e.wf ∧ p.key.length ≤ maxLen ∧ p.e.name.length ≤ maxLen ∧ p.l ≤ maxLen) ∧ n ≤ maxLen := by
  obtain ⟨cs, rfl, hsz⟩ := okWide_struct Tryz.underlying31 hv
  obtain ⟨x, u, t, A, n, c, ps, ht, h1, h2, h3, h4, h5⟩ := reads_txe (cs := cs.toList) (by rw [Array.length_toList, hsz]; kernel_rfl) (reads_of h)
  exact ⟨x, u, t, A, n, c, ps, by rw [show cs = [.int .i64 x.1, .int .u32 x.2, .int .u32 u.d0, .int .u32 u.d1, .int .u32 u.d2, .int .u32 u.d3, .int .u32 u.d4, .int .u32 u.d5, .int .u32 u.d6, .int .u32 u.d7, .bool t, .slice A n c].toArray by rw [← ht]], h1, h2, h3, h4, h5⟩
end
end Go.Proofs.YtfhandglpjnonaaGreatDoor
namespace Go.Proofs.YtfhandglpjnonaaGreatDoor
open Go.ChangeShapes Go.WideShapes Go.ChangeAt Go.RowKit

section
variable {H : Type} {enc : TypeId × Value → H}
theorem returns_shaped {a : Assume} {C : Checked} {os : Os} {f : FuncId} {fn : Func} {s : ChangeSpec} {conds : List PathCond} {apart fresh handsOn again : Bool} {X : World → Array Value → Prop}
    (hX : ∀ (w w' : World) (args : Array Value), w.heap = w'.heap → X w args → X w' args)
    (own : ownKnob C.prog.godebug = none) (started : os.Started) (noInit : C.prog.inits.idxOf? f = none) (hfn : C.prog.funcs[f]? = some fn)
    (witness : ∃ (w : World) (tape : Tape) (i : Input), w.os = os ∧ (w.forCall tape i).Shaped C.prog ∧ i.vars = [] ∧ Input.okWide C.prog (w.forCall tape i) .any w.heap.size f i ∧
      ((s.pre enc C.prog fn conds apart (w.forCall tape i).memory i.args ∧ X (w.forCall tape i).memory i.args) ∧ sizedMet enc C.prog fn (OpenSpec.ofChange s) apart (w.forCall tape i).memory i.args) ∧ a.holds C.prog (lone (Frame.enter C.prog f i.args .normal) [] (w.forCall tape i)))
    (contract : ∀ (W : World) (base : Nat) (args : Array Value) (ds gs : List (DataW H)) (before : List MemPlace),
      (∀ (j : Nat) t v, fn.params[j]? = some t → args[j]? = some v → Value.okWide C.prog W .any base t v) →
      DataW.Whole enc C.prog fn.params.toList s.vars apart W args.toList ds gs before →
      conds.all (PathCond.test C.prog ⟨fn.params.toList, ds, s.plain.varTypes C.prog, gs⟩) = true →
      (DataW.weightsEach C.prog (fn.params.toList ++ s.plain.varTypes C.prog) (ds ++ gs)).all (· ≤ reachBytes) = true → X W args → W.ShapedOpen C.prog →
      a.holds C.prog (lone (Frame.enter C.prog f args .normal) [] W) →
      Calls C.prog f args W fun e W' => ∃ v, e = .returned v ∧ s.post enc C.prog fn apart fresh handsOn again W args v W') :
    ReturnsInHanded a C os f .any (fun w args => (s.pre enc C.prog fn conds apart w args ∧ X w args) ∧ sizedMet enc C.prog fn (OpenSpec.ofChange s) apart w args) (s.post enc C.prog fn apart fresh handsOn again) := by
  refine returnsInHanded_of_calls own started noInit witness ?_
  intro w tape i _ hsh _ hok hpre hholds
  obtain ⟨_, _, _, fn', hfn', _, _, _, _, hval⟩ := hok
  have e : fn' = fn := Option.some.inj (hfn'.symm.trans hfn)
  subst e
  obtain ⟨⟨⟨ds, gs, before, hw, hc⟩, hx⟩, hz⟩ := hpre
  have hw' := DataW.Whole.of_heap (w' := w.forCall tape i) (by rfl) hw
  refine (contract (w.forCall tape i) w.heap.size i.args ds gs before hval hw' hc (hz.weights hw) (hX _ _ _ (by rfl) hx) hsh hholds).mono fun e W' ⟨v, he, hp⟩ => ?_
  subst he
  exact ChangeSpec.post_blind hp
end
theorem varM_shaped {w : World} (h : w.ShapedOpen Tryz.prog) : VarM w :=
  cell_of_shapedOpen_int (g := 1) (t := 3) (zero := #[.int .i64 0]) h (of_decide_eq_true (by kernel_rfl)) (by kernel_rfl) rfl (by kernel_rfl) (by kernel_rfl) Tryz.underlying3
section
variable {H : Type} {enc : TypeId × Value → H} {w : World} {base : Nat} {spare : Nat → Bool} {held : Bool}
set_option maxRecDepth 100000 in
theorem open_texts {r : Reach} {b0 : Nat} {v : Value} {d : DataW H} {p : List MemPlace} (hv : Value.okWide Tryz.prog w r b0 251 v) (h : DataW.Trod enc Tryz.prog w base spare held 251 v d p) :
    ∃ A n c, ∃ xs : List (List UInt8), v = .slice A n c ∧ RdS w w.heap.size A n xs ∧ (∀ x ∈ xs, x.length ≤ maxLen) ∧ n ≤ maxLen := by
  obtain ⟨a, len, cap, rfl⟩ := okWide_slice Tryz.underlying251 hv
  obtain ⟨A, n, c, xs, h1, h2, h3, h4, h5⟩ := reads_slice (sz := 1) encS (fun x => x.length ≤ maxLen) Tryz.underlying251 (by kernel_rfl) (by decide) (fun cs hl h => by
    match cs, hl with
    | [c0], _ =>
      obtain ⟨z, rfl, hz⟩ := reads_string Tryz.underlying9 h
      exact ⟨z.data.toList, by unfold encS; rw [bs_of], by rw [Array.length_toList]; exact hz⟩) (reads_of h)
  exact ⟨A, n, c, xs, h1, h2, h3, by omega⟩
end
end Go.Proofs.YtfhandglpjnonaaGreatDoor
