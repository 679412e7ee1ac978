/- Arguments of the statements on maps of puts, opened. Arguments of ClashOrder, opened: objects, acts. -/
import Derived.Test.YtffnpfponnhddaaGreatN50
import Derived.Test.YtffnpfponnhddaaGreatN11
import Derived.Test.YtffnpfponnhddaaGreatN27
namespace Go.Proofs.YtffnpfponnhddaaGreat
open Go.ChangeShapes Go.WideShapes Go.ChangeAt Go.RowKit

theorem list7 {l : List Value} (h : l.length = 7) : ∃ a b c d e f g, l = [a, b, c, d, e, f, g] := by
  match l, h with
  | [a, b, c, d, e, f, g], _ => exact ⟨a, b, c, d, e, f, g, rfl⟩
section
variable {H : Type} {enc : TypeId × Value → H} {w : World} {base : Nat} {spare : Nat → Bool} {held : Bool}
theorem reads_sm {cs : List Value} (hl : cs.length = 2) (h : Reads enc Tryz.prog w base spare held 24 cs) : ∃ s : Sm, cs = [.int .u32 s.1, .int .i64 s.2] ∧ s.wf := by
  obtain ⟨a, b, rfl⟩ := list2 hl
  obtain ⟨x, rfl, hx1, hx2⟩ := reads_u32 Tryz.underlying22 (reads_field 0 0 1 Tryz.underlying24 rfl rfl rfl (by kernel_rfl) h)
  obtain ⟨z, rfl⟩ := reads_int Tryz.underlying3 (reads_field 1 1 1 Tryz.underlying24 rfl rfl rfl (by kernel_rfl) h)
  exact ⟨(x, z), rfl, hx1, hx2⟩
theorem reads_put {cs : List Value} (hl : cs.length = 7) (h : Reads enc Tryz.prog w base spare held 54 cs) : ∃ p : Pm, cs = p.enc ∧ (p.wf ∧ p.2.1.length ≤ maxLen) := by
  obtain ⟨a, b, c, d, e, f, g, rfl⟩ := list7 hl
  obtain ⟨t, ht, hw⟩ := reads_tm (cs := [a, b, c]) rfl (reads_field 0 0 3 Tryz.underlying54 rfl rfl rfl (by kernel_rfl) h)
  obtain ⟨z, rfl, hzl⟩ := reads_string Tryz.underlying9 (reads_field 1 3 1 Tryz.underlying54 rfl rfl rfl (by kernel_rfl) h)
  obtain ⟨v, rfl, hv1, hv2⟩ := reads_i64 Tryz.underlying2 (reads_field 2 4 1 Tryz.underlying54 rfl rfl rfl (by kernel_rfl) h)
  obtain ⟨s, hs, hsw⟩ := reads_sm (cs := [f, g]) rfl (reads_field 3 5 2 Tryz.underlying54 rfl rfl rfl (by kernel_rfl) h)
  simp only [Tm.enc, List.cons.injEq] at ht hs
  obtain ⟨rfl, rfl, rfl, _⟩ := ht
  obtain ⟨rfl, rfl, _⟩ := hs
  exact ⟨(t, (z.data.toList, (v, s))), by unfold Pm.enc; rw [bs_of], ⟨hw, hsw, hv1, hv2⟩, by rw [Array.length_toList]; exact hzl⟩
set_option maxRecDepth 100000 in
theorem open_omap {r : Reach} {b0 : Nat} {v : Value} {d : DataW H} {p : List MemPlace} (hv : Value.okWide Tryz.prog w r b0 35 v) (h : DataW.Trod enc Tryz.prog w base spare held 35 v d p) :
    ∃ (A : Option Addr) (n c : Nat) (xs : List Pm) (B : Option Addr) (m d : Nat) (gs : List Tm), v = .agg #[.slice A n c, .slice B m d] ∧ RdP w w.heap.size A n xs ∧ (∀ x ∈ xs, x.wf ∧ x.2.1.length ≤ maxLen) ∧ RdT w w.heap.size B m gs ∧ (∀ x ∈ gs, x.wf) ∧ n ≤ c ∧ c ≤ maxLen ∧ m ≤ d ∧ d ≤ maxLen := by
  obtain ⟨cs, rfl, hsz⟩ := okWide_struct Tryz.underlying35 hv
  have hr := reads_of h
  obtain ⟨c0, c1, hcs⟩ := list2 (l := cs.toList) (by rw [Array.length_toList, hsz]; kernel_rfl)
  have hr : Reads enc Tryz.prog w base spare held 35 cs.toList := hr
  rw [hcs] at hr
  obtain ⟨A, n, c, xs, h1, h2, h3, h4, h5⟩ := reads_slice Pm.enc (fun a => a.wf ∧ a.2.1.length ≤ maxLen) (v := c0) Tryz.underlying33 (by kernel_rfl) (by decide) (fun cs hl h => reads_put hl h) (reads_field 0 0 1 Tryz.underlying35 rfl rfl rfl (by kernel_rfl) hr)
  obtain ⟨B, m, d', gs, k1, k2, k3, k4, k5⟩ := reads_slice Tm.enc Tm.wf (v := c1) Tryz.underlying30 (by kernel_rfl) (by decide) (fun cs hl h => reads_tm hl h) (reads_field 1 1 1 Tryz.underlying35 rfl rfl rfl (by kernel_rfl) hr)
  have e : cs = [c0, c1].toArray := by rw [← hcs]
  subst h1; subst k1
  exact ⟨A, n, c, xs, B, m, d', gs, by rw [e], h2, h3, k2, k3, h4, h5, k4, k5⟩
end
end Go.Proofs.YtffnpfponnhddaaGreat
namespace Go.Proofs.YtffnpfponnhddaaGreat
open Go.ChangeShapes Go.WideShapes Go.ChangeAt Go.RowKit

section
variable {H : Type} {enc : TypeId × Value → H} {w : World} {base : Nat} {spare : Nat → Bool} {held : Bool}
set_option maxRecDepth 100000 in
theorem open_obj {r : Reach} {b0 : Nat} {v : Value} {d : DataW H} {p : List MemPlace} (hv : Value.okWide Tryz.prog w r b0 37 v) (h : DataW.Trod enc Tryz.prog w base spare held 37 v d p) :
    ∃ (o : Ob) (r : Rw), v = .agg #[.int .i64 o.kd, .int .i64 o.rv, .int .u32 o.rt, .int .i64 o.ro, .int .i64 o.pl, .int .i64 o.mi, .slice r.A r.n r.c, .slice r.B r.m r.d, .slice r.P r.k r.e, .slice r.Q r.l r.f] ∧ RdA w w.heap.size r.A r.n o.S.1 ∧ RdT w w.heap.size r.B r.m o.S.2 ∧ RdP w w.heap.size r.P r.k o.M.1 ∧ RdT w w.heap.size r.Q r.l o.M.2 ∧ o.Ok := by
  obtain ⟨cs, rfl, hsz⟩ := okWide_struct Tryz.underlying37 hv
  have hr := reads_of h
  obtain ⟨c0, c1, c2, c3, c4, c5, c6, c7, c8, c9, hcs⟩ := list10 (l := cs.toList) (by rw [Array.length_toList, hsz]; kernel_rfl)
  have hr : Reads enc Tryz.prog w base spare held 37 cs.toList := hr
  rw [hcs] at hr
  obtain ⟨kd, rfl⟩ := reads_int Tryz.underlying3 (reads_field 0 0 1 Tryz.underlying37 rfl rfl rfl (by kernel_rfl) hr)
  have hreg := reads_field (t' := 26) 1 1 3 Tryz.underlying37 rfl rfl rfl (by kernel_rfl) hr
  have hnum := reads_field (t' := 28) 2 4 2 Tryz.underlying37 rfl rfl rfl (by kernel_rfl) hr
  have hset := reads_field (t' := 32) 3 6 2 Tryz.underlying37 rfl rfl rfl (by kernel_rfl) hr
  have hmap := reads_field (t' := 35) 4 8 2 Tryz.underlying37 rfl rfl rfl (by kernel_rfl) hr
  have hreg : Reads enc Tryz.prog w base spare held 26 [c1, c2, c3] := hreg
  have hnum : Reads enc Tryz.prog w base spare held 28 [c4, c5] := hnum
  have hset : Reads enc Tryz.prog w base spare held 32 [c6, c7] := hset
  have hmap : Reads enc Tryz.prog w base spare held 35 [c8, c9] := hmap
  obtain ⟨rv, rfl⟩ := reads_int Tryz.underlying2 (reads_field 0 0 1 Tryz.underlying26 rfl rfl rfl (by kernel_rfl) hreg)
  obtain ⟨s, hs, hsw⟩ := reads_sm (cs := [c2, c3]) rfl (reads_field 1 1 2 Tryz.underlying26 rfl rfl rfl (by kernel_rfl) hreg)
  obtain ⟨pl, rfl⟩ := reads_int Tryz.underlying2 (reads_field 0 0 1 Tryz.underlying28 rfl rfl rfl (by kernel_rfl) hnum)
  obtain ⟨mi, rfl⟩ := reads_int Tryz.underlying2 (reads_field 1 1 1 Tryz.underlying28 rfl rfl rfl (by kernel_rfl) hnum)
  obtain ⟨A, n, c, xs, h1, h2, h3, h4, h5⟩ := reads_slice Am.enc (fun a => a.wf ∧ a.2.length ≤ maxLen) (v := c6) Tryz.underlying29 (by kernel_rfl) (by decide) (fun cs hl h => reads_add hl h) (reads_field 0 0 1 Tryz.underlying32 rfl rfl rfl (by kernel_rfl) hset)
  obtain ⟨B, m, d', gs, k1, k2, k3, k4, k5⟩ := reads_slice Tm.enc Tm.wf (v := c7) Tryz.underlying30 (by kernel_rfl) (by decide) (fun cs hl h => reads_tm hl h) (reads_field 1 1 1 Tryz.underlying32 rfl rfl rfl (by kernel_rfl) hset)
  obtain ⟨P, k, e, ps, p1, p2, p3, p4, p5⟩ := reads_slice Pm.enc (fun a => a.wf ∧ a.2.1.length ≤ maxLen) (v := c8) Tryz.underlying33 (by kernel_rfl) (by decide) (fun cs hl h => reads_put hl h) (reads_field 0 0 1 Tryz.underlying35 rfl rfl rfl (by kernel_rfl) hmap)
  obtain ⟨Q, l, f, qs, q1, q2, q3, q4, q5⟩ := reads_slice Tm.enc Tm.wf (v := c9) Tryz.underlying30 (by kernel_rfl) (by decide) (fun cs hl h => reads_tm hl h) (reads_field 1 1 1 Tryz.underlying35 rfl rfl rfl (by kernel_rfl) hmap)
  have e' : cs = [.int .i64 kd, .int .i64 rv, c2, c3, .int .i64 pl, .int .i64 mi, c6, c7, c8, c9].toArray := by rw [← hcs]
  simp only [List.cons.injEq] at hs
  obtain ⟨rfl, rfl, _⟩ := hs
  subst h1; subst k1; subst p1; subst q1
  exact ⟨⟨kd, rv, s.1, s.2, pl, mi, (xs, gs), (ps, qs)⟩, ⟨A, n, c, B, m, d', P, k, e, Q, l, f⟩, by rw [e'], h2, k2, p2, q2, ⟨fun a ha => (h3 a ha).1, k3, fun a ha => (h3 a ha).2, fun a ha => (p3 a ha).1, q3, fun a ha => (p3 a ha).2, hsw⟩⟩
set_option maxRecDepth 100000 in
theorem open_op {r : Reach} {b0 : Nat} {v : Value} {d : DataW H} {p : List MemPlace} (hv : Value.okWide Tryz.prog w r b0 39 v) (h : DataW.Trod enc Tryz.prog w base spare held 39 v d p) :
    ∃ (a : Int) (nm : List UInt8) (z : Int), v = .agg #[.int .i64 a, .string (bs nm), .int .i64 z] ∧ nm.length ≤ maxLen ∧ (-9223372036854775808 ≤ a ∧ a ≤ 9223372036854775807) ∧ (-9223372036854775808 ≤ z ∧ z ≤ 9223372036854775807) := by
  obtain ⟨cs, rfl, hsz⟩ := okWide_struct Tryz.underlying39 hv
  have hr := reads_of h
  obtain ⟨c0, c1, c2, hcs⟩ := list3 (l := cs.toList) (by rw [Array.length_toList, hsz]; kernel_rfl)
  have hr : Reads enc Tryz.prog w base spare held 39 cs.toList := hr
  rw [hcs] at hr
  obtain ⟨a, rfl, ha1, ha2⟩ := reads_i64 Tryz.underlying3 (reads_field 0 0 1 Tryz.underlying39 rfl rfl rfl (by kernel_rfl) hr)
  obtain ⟨s, rfl, hs⟩ := reads_string Tryz.underlying9 (reads_field 1 1 1 Tryz.underlying39 rfl rfl rfl (by kernel_rfl) hr)
  obtain ⟨z, rfl, hz1, hz2⟩ := reads_i64 Tryz.underlying2 (reads_field 2 2 1 Tryz.underlying39 rfl rfl rfl (by kernel_rfl) hr)
  have e' : cs = [.int .i64 a, .string s, .int .i64 z].toArray := by rw [← hcs]
  exact ⟨a, s.data.toList, z, by rw [e', bs_of], by rw [Array.length_toList]; exact hs, ⟨ha1, ha2⟩, ⟨hz1, hz2⟩⟩
end
end Go.Proofs.YtffnpfponnhddaaGreat
