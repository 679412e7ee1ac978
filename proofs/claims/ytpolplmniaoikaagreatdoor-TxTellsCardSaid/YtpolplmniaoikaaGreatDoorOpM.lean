/- Arguments of the statements on maps of puts, opened. -/
import Derived.Test.YtpolplmniaoikaaGreatDoorM5
import Derived.Test.YtpolplmniaoikaaGreatDoorM11
namespace Go.Proofs.YtpolplmniaoikaaGreatDoor
open Go.ChangeShapes Go.WideShapes Go.ChangeAt Go.RowKit

theorem list7 {l : List Value} (h : l.length = 7) : ∃ a b c d e f g, l = [a, b, c, d, e, f, g] := by
  match l, h with
  | [a, b, c, d, e, f, g], _ => exact ⟨a, b, c, d, e, f, g, rfl⟩
section
variable {H : Type} {enc : TypeId × Value → H} {w : World} {base : Nat} {spare : Nat → Bool} {held : Bool}
theorem reads_sm {cs : List Value} (hl : cs.length = 2) (h : Reads enc Tryz.prog w base spare held 76 cs) : ∃ s : Sm, cs = [.int .u32 s.1, .int .i64 s.2] ∧ s.wf := by
  obtain ⟨a, b, rfl⟩ := list2 hl
  obtain ⟨x, rfl, hx1, hx2⟩ := reads_u32 Tryz.underlying22 (reads_field 0 0 1 Tryz.underlying76 rfl rfl rfl (by kernel_rfl) h)
  obtain ⟨z, rfl⟩ := reads_int Tryz.underlying3 (reads_field 1 1 1 Tryz.underlying76 rfl rfl rfl (by kernel_rfl) h)
  exact ⟨(x, z), rfl, hx1, hx2⟩
theorem reads_put {cs : List Value} (hl : cs.length = 7) (h : Reads enc Tryz.prog w base spare held 279 cs) : ∃ p : Pm, cs = p.enc ∧ (p.wf ∧ p.2.1.length ≤ maxLen) := by
  obtain ⟨a, b, c, d, e, f, g, rfl⟩ := list7 hl
  obtain ⟨t, ht, hw⟩ := reads_tm (cs := [a, b, c]) rfl (reads_field 0 0 3 Tryz.underlying279 rfl rfl rfl (by kernel_rfl) h)
  obtain ⟨z, rfl, hzl⟩ := reads_string Tryz.underlying9 (reads_field 1 3 1 Tryz.underlying279 rfl rfl rfl (by kernel_rfl) h)
  obtain ⟨v, rfl, hv1, hv2⟩ := reads_i64 Tryz.underlying2 (reads_field 2 4 1 Tryz.underlying279 rfl rfl rfl (by kernel_rfl) h)
  obtain ⟨s, hs, hsw⟩ := reads_sm (cs := [f, g]) rfl (reads_field 3 5 2 Tryz.underlying279 rfl rfl rfl (by kernel_rfl) h)
  simp only [Tm.enc, List.cons.injEq] at ht hs
  obtain ⟨rfl, rfl, rfl, _⟩ := ht
  obtain ⟨rfl, rfl, _⟩ := hs
  exact ⟨(t, (z.data.toList, (v, s))), by unfold Pm.enc; rw [bs_of], ⟨hw, hsw, hv1, hv2⟩, by rw [Array.length_toList]; exact hzl⟩
set_option maxRecDepth 100000 in
theorem open_omap {r : Reach} {b0 : Nat} {v : Value} {d : DataW H} {p : List MemPlace} (hv : Value.okWide Tryz.prog w r b0 92 v) (h : DataW.Trod enc Tryz.prog w base spare held 92 v d p) :
    ∃ (A : Option Addr) (n c : Nat) (xs : List Pm) (B : Option Addr) (m d : Nat) (gs : List Tm), v = .agg #[.slice A n c, .slice B m d] ∧ RdP w w.heap.size A n xs ∧ (∀ x ∈ xs, x.wf ∧ x.2.1.length ≤ maxLen) ∧ RdT w w.heap.size B m gs ∧ (∀ x ∈ gs, x.wf) ∧ n ≤ c ∧ c ≤ maxLen ∧ m ≤ d ∧ d ≤ maxLen := by
  obtain ⟨cs, rfl, hsz⟩ := okWide_struct Tryz.underlying92 hv
  have hr := reads_of h
  obtain ⟨c0, c1, hcs⟩ := list2 (l := cs.toList) (by rw [Array.length_toList, hsz]; kernel_rfl)
  have hr : Reads enc Tryz.prog w base spare held 92 cs.toList := hr
  rw [hcs] at hr
  obtain ⟨A, n, c, xs, h1, h2, h3, h4, h5⟩ := reads_slice Pm.enc (fun a => a.wf ∧ a.2.1.length ≤ maxLen) (v := c0) Tryz.underlying90 (by kernel_rfl) (by decide) (fun cs hl h => reads_put hl h) (reads_field 0 0 1 Tryz.underlying92 rfl rfl rfl (by kernel_rfl) hr)
  obtain ⟨B, m, d', gs, k1, k2, k3, k4, k5⟩ := reads_slice Tm.enc Tm.wf (v := c1) Tryz.underlying77 (by kernel_rfl) (by decide) (fun cs hl h => reads_tm hl h) (reads_field 1 1 1 Tryz.underlying92 rfl rfl rfl (by kernel_rfl) hr)
  have e : cs = [c0, c1].toArray := by rw [← hcs]
  subst h1; subst k1
  exact ⟨A, n, c, xs, B, m, d', gs, by rw [e], h2, h3, k2, k3, h4, h5, k4, k5⟩
end
end Go.Proofs.YtpolplmniaoikaaGreatDoor
