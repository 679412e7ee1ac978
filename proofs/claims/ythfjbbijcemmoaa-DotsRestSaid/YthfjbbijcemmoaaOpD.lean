/- Arguments of the statements on names, opened: a list of names, a vector, a name. -/
import Derived.Test.YthfjbbijcemmoaaDtH
import Derived.Test.YthfjbbijcemmoaaVcA
import Derived.Test.YthfjbbijcemmoaaOpn
namespace Go.Proofs.Ythfjbbijcemmoaa
open Go.ChangeShapes Go.WideShapes Go.ChangeAt Go.RowKit

theorem own_ok : ownKnob Try.prog.godebug = none := by kernel_rfl
theorem laid_ok : laidOutB Try.prog = true := by kernel_rfl
section
variable {H : Type} {enc : TypeId × Value → H} {w : World} {base : Nat} {spare : Nat → Bool} {held : Bool}
theorem reads_id {cs : List Value} (hl : cs.length = 2) (h : Reads enc Try.prog w base spare held 35 cs) : ∃ x : Im, cs = x.enc ∧ x.wf := by
  obtain ⟨a, b, rfl⟩ := list2 hl
  obtain ⟨x, rfl⟩ := reads_int Try.underlying3 (reads_field 0 0 1 Try.underlying35 rfl rfl rfl (by kernel_rfl) h)
  obtain ⟨y, rfl, h0, h1⟩ := reads_u32 Try.underlying23 (reads_field 1 1 1 Try.underlying35 rfl rfl rfl (by kernel_rfl) h)
  exact ⟨(x, y), rfl, h0, h1⟩
theorem reads_vec {cs : List Value} (hl : cs.length = 8) (h : Reads enc Try.prog w base spare held 25 cs) : ∃ v : Vm, cs = [.int .u32 v.d0, .int .u32 v.d1, .int .u32 v.d2, .int .u32 v.d3, .int .u32 v.d4, .int .u32 v.d5, .int .u32 v.d6, .int .u32 v.d7] ∧ v.wf := by
  obtain ⟨c0, c1, c2, c3, c4, c5, c6, c7, rfl⟩ := list8 hl
  obtain ⟨y0, rfl, h0⟩ := reads_u32 Try.underlying23 (reads_elem 0 0 1 Try.underlying25 (by decide) (by kernel_rfl) rfl h)
  obtain ⟨y1, rfl, h1⟩ := reads_u32 Try.underlying23 (reads_elem 1 1 1 Try.underlying25 (by decide) (by kernel_rfl) rfl h)
  obtain ⟨y2, rfl, h2⟩ := reads_u32 Try.underlying23 (reads_elem 2 2 1 Try.underlying25 (by decide) (by kernel_rfl) rfl h)
  obtain ⟨y3, rfl, h3⟩ := reads_u32 Try.underlying23 (reads_elem 3 3 1 Try.underlying25 (by decide) (by kernel_rfl) rfl h)
  obtain ⟨y4, rfl, h4⟩ := reads_u32 Try.underlying23 (reads_elem 4 4 1 Try.underlying25 (by decide) (by kernel_rfl) rfl h)
  obtain ⟨y5, rfl, h5⟩ := reads_u32 Try.underlying23 (reads_elem 5 5 1 Try.underlying25 (by decide) (by kernel_rfl) rfl h)
  obtain ⟨y6, rfl, h6⟩ := reads_u32 Try.underlying23 (reads_elem 6 6 1 Try.underlying25 (by decide) (by kernel_rfl) rfl h)
  obtain ⟨y7, rfl, h7⟩ := reads_u32 Try.underlying23 (reads_elem 7 7 1 Try.underlying25 (by decide) (by kernel_rfl) rfl h)
  exact ⟨⟨y0, y1, y2, y3, y4, y5, y6, y7⟩, rfl, h0, h1, h2, h3, h4, h5, h6, h7⟩
set_option maxRecDepth 100000 in
theorem open_id {r : Reach} {b0 : Nat} {v : Value} {d : DataW H} {p : List MemPlace} (hv : Value.okWide Try.prog w r b0 35 v) (h : DataW.Trod enc Try.prog w base spare held 35 v d p) : ∃ x : Im, v = .agg #[.int .i64 x.1, .int .u32 x.2] ∧ x.wf := by
  obtain ⟨cs, rfl, hsz⟩ := okWide_struct Try.underlying35 hv
  obtain ⟨x, hx, hw⟩ := reads_id (cs := cs.toList) (by rw [Array.length_toList, hsz]; kernel_rfl) (reads_of h)
  exact ⟨x, by rw [show cs = x.enc.toArray by rw [← hx]]; rfl, hw⟩
set_option maxRecDepth 100000 in
theorem open_vec {r : Reach} {b0 : Nat} {v : Value} {d : DataW H} {p : List MemPlace} (hv : Value.okWide Try.prog w r b0 25 v) (h : DataW.Trod enc Try.prog w base spare held 25 v d p) : ∃ x : Vm, v = .agg #[.int .u32 x.d0, .int .u32 x.d1, .int .u32 x.d2, .int .u32 x.d3, .int .u32 x.d4, .int .u32 x.d5, .int .u32 x.d6, .int .u32 x.d7] ∧ x.wf := by
  obtain ⟨cs, rfl, hsz⟩ := okWide_array Try.underlying25 hv
  obtain ⟨x, hx, hw⟩ := reads_vec (cs := cs.toList) (by rw [Array.length_toList, hsz]; kernel_rfl) (reads_of h)
  exact ⟨x, by rw [show cs = [.int .u32 x.d0, .int .u32 x.d1, .int .u32 x.d2, .int .u32 x.d3, .int .u32 x.d4, .int .u32 x.d5, .int .u32 x.d6, .int .u32 x.d7].toArray by rw [← hx]], hw⟩
set_option maxRecDepth 100000 in
theorem open_ids {r : Reach} {b0 : Nat} {v : Value} {d : DataW H} {p : List MemPlace} (hv : Value.okWide Try.prog w r b0 22 v) (h : DataW.Trod enc Try.prog w base spare held 22 v d p) :
    ∃ A n c xs, v = .slice A n c ∧ RdI w w.heap.size A n xs ∧ (∀ x ∈ xs, x.wf) ∧ n ≤ c ∧ c ≤ maxLen := by
  obtain ⟨a, len, cap, rfl⟩ := okWide_slice Try.underlying22 hv
  obtain ⟨A, n, c, xs, h1, h2, h3, h4, h5⟩ := reads_slice Im.enc Im.wf Try.underlying22 (by kernel_rfl) (by decide) (fun cs hl h => reads_id hl h) (reads_of h)
  exact ⟨A, n, c, xs, h1, h2, h3, h4, h5⟩
end
end Go.Proofs.Ythfjbbijcemmoaa
