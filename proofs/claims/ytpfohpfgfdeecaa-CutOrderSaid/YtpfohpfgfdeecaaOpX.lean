/- Arguments of the statements on cuts, opened. Arguments of the statements: a text. -/
import Derived.Test.YtpfohpfgfdeecaaOp
import Derived.Test.YtpfohpfgfdeecaaOct
import Derived.Test.YtpfohpfgfdeecaaRows
namespace Go.Proofs.Ytpfohpfgfdeecaa
open Go.ChangeShapes Go.WideShapes Go.ChangeAt Go.RowKit

theorem list9 {l : List Value} (h : l.length = 9) : ∃ c0 c1 c2 c3 c4 c5 c6 c7 c8, l = [c0, c1, c2, c3, c4, c5, c6, c7, c8] := by
  match l, h with
  | [c0, c1, c2, c3, c4, c5, c6, c7, c8], _ => exact ⟨_, _, _, _, _, _, _, _, _, rfl⟩
section
variable {H : Type} {enc : TypeId × Value → H} {w : World} {base : Nat} {spare : Nat → Bool} {held : Bool}
set_option maxRecDepth 100000 in
theorem open_cut {r : Reach} {b0 : Nat} {v : Value} {d : DataW H} {p : List MemPlace} (hv : Value.okWide Try.prog w r b0 27 v) (h : DataW.Trod enc Try.prog w base spare held 27 v d p) :
    ∃ (x : Vm) (A : Option Addr) (n c : Nat) (xs : List Im), v = .agg #[.int .u32 x.d0, .int .u32 x.d1, .int .u32 x.d2, .int .u32 x.d3, .int .u32 x.d4, .int .u32 x.d5, .int .u32 x.d6, .int .u32 x.d7, .slice A n c] ∧ x.wf ∧ RdI w w.heap.size A n xs ∧ (∀ x ∈ xs, x.wf) ∧ n ≤ c ∧ c ≤ maxLen := by
  obtain ⟨cs, rfl, hsz⟩ := okWide_struct Try.underlying27 hv
  have hr := reads_of h
  obtain ⟨c0, c1, c2, c3, c4, c5, c6, c7, c8, hcs⟩ := list9 (l := cs.toList) (by rw [Array.length_toList, hsz]; kernel_rfl)
  have hr : Reads enc Try.prog w base spare held 27 cs.toList := hr
  rw [hcs] at hr
  obtain ⟨x, hx, hw⟩ := reads_vec (cs := [c0, c1, c2, c3, c4, c5, c6, c7]) rfl (reads_field 0 0 8 Try.underlying27 rfl rfl rfl (by kernel_rfl) hr)
  obtain ⟨A, n, c, xs, h1, h2, h3, h4, h5⟩ := reads_slice Im.enc Im.wf (v := c8) Try.underlying25 (by kernel_rfl) (by decide) (fun cs hl h => reads_id hl h) (reads_field 1 8 1 Try.underlying27 rfl rfl rfl (by kernel_rfl) hr)
  have e : cs = [c0, c1, c2, c3, c4, c5, c6, c7, c8].toArray := by rw [← hcs]
  subst h1
  simp only [List.cons.injEq] at hx
  obtain ⟨rfl, rfl, rfl, rfl, rfl, rfl, rfl, rfl, _⟩ := hx
  exact ⟨x, A, n, c, xs, by rw [e], hw, h2, h3, h4, h5⟩
end
end Go.Proofs.Ytpfohpfgfdeecaa
namespace Go.Proofs.Ytpfohpfgfdeecaa
open Go.ChangeShapes Go.WideShapes Go.ChangeAt Go.RowKit

set_option maxRecDepth 100000 in
theorem open_str {H : Type} {enc : TypeId × Value → H} {w : World} {base : Nat} {spare : Nat → Bool} {held : Bool} {r : Reach} {b0 : Nat} {v : Value} {d : DataW H} {p : List MemPlace} (hv : Value.okWide Try.prog w r b0 9 v) (h : DataW.Trod enc Try.prog w base spare held 9 v d p) : ∃ l : List UInt8, v = .string (bs l) ∧ l.length ≤ maxLen := by
  obtain ⟨s, rfl⟩ : ∃ s, v = .string s := by
    unfold Value.okWide at hv
    simp only [Try.underlying9] at hv
    cases v <;> simp_all [Cell.okWide, Cell.ok]
  obtain ⟨z, hz, hzl⟩ := reads_string Try.underlying9 (by simpa [Value.cells] using reads_of h)
  injection hz with hz
  subst hz
  exact ⟨s.data.toList, by rw [bs_of], by rw [Array.length_toList]; exact hzl⟩
end Go.Proofs.Ytpfohpfgfdeecaa
