/- Arguments of the statements on cuts, opened. Arguments of the statements: a text. -/
import Derived.Test.YtelipindcacphaaGreatDoorOp
import Derived.Test.YtelipindcacphaaGreatDoorOct
import Derived.Test.YtelipindcacphaaGreatDoorRows
namespace Go.Proofs.YtelipindcacphaaGreatDoor
open Go.ChangeShapes Go.WideShapes Go.ChangeAt Go.RowKit

theorem list9 {l : List Value} (h : l.length = 9) : ∃ c0 c1 c2 c3 c4 c5 c6 c7 c8, l = [c0, c1, c2, c3, c4, c5, c6, c7, c8] := by
  match l, h with
  | [c0, c1, c2, c3, c4, c5, c6, c7, c8], _ => exact ⟨_, _, _, _, _, _, _, _, _, rfl⟩
section
variable {H : Type} {enc : TypeId × Value → H} {w : World} {base : Nat} {spare : Nat → Bool} {held : Bool}
end
end Go.Proofs.YtelipindcacphaaGreatDoor
namespace Go.Proofs.YtelipindcacphaaGreatDoor
open Go.ChangeShapes Go.WideShapes Go.ChangeAt Go.RowKit

set_option maxRecDepth 100000 in
theorem open_str {H : Type} {enc : TypeId × Value → H} {w : World} {base : Nat} {spare : Nat → Bool} {held : Bool} {r : Reach} {b0 : Nat} {v : Value} {d : DataW H} {p : List MemPlace} (hv : Value.okWide Tryz.prog w r b0 9 v) (h : DataW.Trod enc Tryz.prog w base spare held 9 v d p) : ∃ l : List UInt8, v = .string (bs l) ∧ l.length ≤ maxLen := by
  obtain ⟨s, rfl⟩ : ∃ s, v = .string s := by
    unfold Value.okWide at hv
    simp only [Tryz.underlying9] at hv
    cases v <;> simp_all [Cell.okWide, Cell.ok]
  obtain ⟨z, hz, hzl⟩ := reads_string Tryz.underlying9 (by simpa [Value.cells] using reads_of h)
  injection hz with hz
  subst hz
  exact ⟨s.data.toList, by rw [bs_of], by rw [Array.length_toList]; exact hzl⟩
end Go.Proofs.YtelipindcacphaaGreatDoor
