/- Arguments of the statements on sets of additions, opened. -/
import Derived.Test.YtadldndmmobpdaaGreatDoorOp
import Derived.Test.YtadldndmmobpdaaGreatDoorOpX
import Derived.Test.YtadldndmmobpdaaGreatDoorOsD
namespace Go.Proofs.YtadldndmmobpdaaGreatDoor
open Go.ChangeShapes Go.WideShapes Go.ChangeAt Go.RowKit

theorem list4 {l : List Value} (h : l.length = 4) : ∃ a b c d, l = [a, b, c, d] := by
  match l, h with
  | [a, b, c, d], _ => exact ⟨a, b, c, d, rfl⟩
section
variable {H : Type} {enc : TypeId × Value → H} {w : World} {base : Nat} {spare : Nat → Bool} {held : Bool}
theorem reads_tm {cs : List Value} (hl : cs.length = 3) (h : Reads enc Tryz.prog w base spare held 60 cs) : ∃ t : Tm, cs = t.enc ∧ t.wf := by
  obtain ⟨a, b, c, rfl⟩ := list3 hl
  obtain ⟨x, hx, hw⟩ := reads_id (cs := [a, b]) rfl (reads_field 0 0 2 Tryz.underlying60 rfl rfl rfl (by kernel_rfl) h)
  obtain ⟨z, rfl⟩ := reads_int Tryz.underlying3 (reads_field 1 2 1 Tryz.underlying60 rfl rfl rfl (by kernel_rfl) h)
  simp only [Im.enc, List.cons.injEq] at hx
  obtain ⟨rfl, rfl, _⟩ := hx
  exact ⟨(x, z), rfl, hw⟩
set_option maxRecDepth 100000 in
theorem open_tags {r : Reach} {b0 : Nat} {v : Value} {d : DataW H} {p : List MemPlace} (hv : Value.okWide Tryz.prog w r b0 23 v) (h : DataW.Trod enc Tryz.prog w base spare held 23 v d p) :
    ∃ A n c xs, v = .slice A n c ∧ RdT w w.heap.size A n xs ∧ (∀ x ∈ xs, x.wf) ∧ n ≤ c ∧ c ≤ maxLen := by
  obtain ⟨a, len, cap, rfl⟩ := okWide_slice Tryz.underlying23 hv
  obtain ⟨A, n, c, xs, h1, h2, h3, h4, h5⟩ := reads_slice Tm.enc Tm.wf Tryz.underlying23 (by kernel_rfl) (by decide) (fun cs hl h => reads_tm hl h) (reads_of h)
  exact ⟨A, n, c, xs, h1, h2, h3, h4, h5⟩
end
end Go.Proofs.YtadldndmmobpdaaGreatDoor
