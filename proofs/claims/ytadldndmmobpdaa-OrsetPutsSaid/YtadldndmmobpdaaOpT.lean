/- Arguments of the statements on sets of additions, opened. -/
import Derived.Test.YtadldndmmobpdaaOp
import Derived.Test.YtadldndmmobpdaaOpX
import Derived.Test.YtadldndmmobpdaaOsD
namespace Go.Proofs.Ytadldndmmobpdaa
open Go.ChangeShapes Go.WideShapes Go.ChangeAt Go.RowKit

theorem list4 {l : List Value} (h : l.length = 4) : ∃ a b c d, l = [a, b, c, d] := by
  match l, h with
  | [a, b, c, d], _ => exact ⟨a, b, c, d, rfl⟩
section
variable {H : Type} {enc : TypeId × Value → H} {w : World} {base : Nat} {spare : Nat → Bool} {held : Bool}
theorem reads_tm {cs : List Value} (hl : cs.length = 3) (h : Reads enc Try.prog w base spare held 79 cs) : ∃ t : Tm, cs = t.enc ∧ t.wf := by
  obtain ⟨a, b, c, rfl⟩ := list3 hl
  obtain ⟨x, hx, hw⟩ := reads_id (cs := [a, b]) rfl (reads_field 0 0 2 Try.underlying79 rfl rfl rfl (by kernel_rfl) h)
  obtain ⟨z, rfl⟩ := reads_int Try.underlying3 (reads_field 1 2 1 Try.underlying79 rfl rfl rfl (by kernel_rfl) h)
  simp only [Im.enc, List.cons.injEq] at hx
  obtain ⟨rfl, rfl, _⟩ := hx
  exact ⟨(x, z), rfl, hw⟩
theorem reads_add {cs : List Value} (hl : cs.length = 4) (h : Reads enc Try.prog w base spare held 81 cs) : ∃ a : Am, cs = a.enc ∧ (a.wf ∧ a.2.length ≤ maxLen) := by
  obtain ⟨a, b, c, d, rfl⟩ := list4 hl
  obtain ⟨t, ht, hw⟩ := reads_tm (cs := [a, b, c]) rfl (reads_field 0 0 3 Try.underlying81 rfl rfl rfl (by kernel_rfl) h)
  obtain ⟨z, rfl, hzl⟩ := reads_string Try.underlying9 (reads_field 1 3 1 Try.underlying81 rfl rfl rfl (by kernel_rfl) h)
  simp only [Tm.enc, List.cons.injEq] at ht
  obtain ⟨rfl, rfl, rfl, _⟩ := ht
  exact ⟨(t, z.data.toList), by unfold Am.enc; rw [bs_of], hw, by rw [Array.length_toList]; exact hzl⟩
set_option maxRecDepth 100000 in
theorem open_oset {r : Reach} {b0 : Nat} {v : Value} {d : DataW H} {p : List MemPlace} (hv : Value.okWide Try.prog w r b0 25 v) (h : DataW.Trod enc Try.prog w base spare held 25 v d p) :
    ∃ (A : Option Addr) (n c : Nat) (xs : List Am) (B : Option Addr) (m d : Nat) (gs : List Tm), v = .agg #[.slice A n c, .slice B m d] ∧ RdA w w.heap.size A n xs ∧ (∀ x ∈ xs, x.wf ∧ x.2.length ≤ maxLen) ∧ RdT w w.heap.size B m gs ∧ (∀ x ∈ gs, x.wf) ∧ n ≤ c ∧ c ≤ maxLen ∧ m ≤ d ∧ d ≤ maxLen := by
  obtain ⟨cs, rfl, hsz⟩ := okWide_struct Try.underlying25 hv
  have hr := reads_of h
  obtain ⟨c0, c1, hcs⟩ := list2 (l := cs.toList) (by rw [Array.length_toList, hsz]; kernel_rfl)
  have hr : Reads enc Try.prog w base spare held 25 cs.toList := hr
  rw [hcs] at hr
  obtain ⟨A, n, c, xs, h1, h2, h3, h4, h5⟩ := reads_slice Am.enc (fun a => a.wf ∧ a.2.length ≤ maxLen) (v := c0) Try.underlying22 (by kernel_rfl) (by decide) (fun cs hl h => reads_add hl h) (reads_field 0 0 1 Try.underlying25 rfl rfl rfl (by kernel_rfl) hr)
  obtain ⟨B, m, d', gs, k1, k2, k3, k4, k5⟩ := reads_slice Tm.enc Tm.wf (v := c1) Try.underlying23 (by kernel_rfl) (by decide) (fun cs hl h => reads_tm hl h) (reads_field 1 1 1 Try.underlying25 rfl rfl rfl (by kernel_rfl) hr)
  have e : cs = [c0, c1].toArray := by rw [← hcs]
  subst h1; subst k1
  exact ⟨A, n, c, xs, B, m, d', gs, by rw [e], h2, h3, k2, k3, h4, h5, k4, k5⟩
set_option maxRecDepth 100000 in
theorem open_tags {r : Reach} {b0 : Nat} {v : Value} {d : DataW H} {p : List MemPlace} (hv : Value.okWide Try.prog w r b0 23 v) (h : DataW.Trod enc Try.prog w base spare held 23 v d p) :
    ∃ A n c xs, v = .slice A n c ∧ RdT w w.heap.size A n xs ∧ (∀ x ∈ xs, x.wf) ∧ n ≤ c ∧ c ≤ maxLen := by
  obtain ⟨a, len, cap, rfl⟩ := okWide_slice Try.underlying23 hv
  obtain ⟨A, n, c, xs, h1, h2, h3, h4, h5⟩ := reads_slice Tm.enc Tm.wf Try.underlying23 (by kernel_rfl) (by decide) (fun cs hl h => reads_tm hl h) (reads_of h)
  exact ⟨A, n, c, xs, h1, h2, h3, h4, h5⟩
end
end Go.Proofs.Ytadldndmmobpdaa
