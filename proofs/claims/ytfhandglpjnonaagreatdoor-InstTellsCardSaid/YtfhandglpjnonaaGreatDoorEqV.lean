/- Two vectors compared. -/
import Derived.Test.YtfhandglpjnonaaGreatDoorVcA
namespace Go.Proofs.YtfhandglpjnonaaGreatDoor
open Go.RowKit

def eqV (a b : Vm) : Bool := [a.d0, a.d1, a.d2, a.d3, a.d4, a.d5, a.d6, a.d7] == [b.d0, b.d1, b.d2, b.d3, b.d4, b.d5, b.d6, b.d7]
theorem eqV_iff {a b : Vm} : eqV a b = true ↔ a = b := by
  obtain ⟨a0, a1, a2, a3, a4, a5, a6, a7⟩ := a
  obtain ⟨b0, b1, b2, b3, b4, b5, b6, b7⟩ := b
  simp [eqV]
theorem neqV2 (a b : Vm) (w : World) : (binOp .neq 28 (.agg #[.int .u32 a.d0, .int .u32 a.d1, .int .u32 a.d2, .int .u32 a.d3, .int .u32 a.d4, .int .u32 a.d5, .int .u32 a.d6, .int .u32 a.d7]) (.agg #[.int .u32 b.d0, .int .u32 b.d1, .int .u32 b.d2, .int .u32 b.d3, .int .u32 b.d4, .int .u32 b.d5, .int .u32 b.d6, .int .u32 b.d7])).run Tryz.prog w = .ok (.bool (!eqV a b)) w := by
  have h := run_neq_ints (P := Tryz.prog) (t := 28) (k := .u32) Tryz.underlying28 (Option.eq_some_of_isSome (by kernel_rfl)) (by kernel_rfl) Tryz.underlying22 [a.d0, a.d1, a.d2, a.d3, a.d4, a.d5, a.d6, a.d7] [b.d0, b.d1, b.d2, b.d3, b.d4, b.d5, b.d6, b.d7] rfl rfl w
  exact h
theorem eqlV2 (a b : Vm) (w : World) : (binOp .eql 28 (.agg #[.int .u32 a.d0, .int .u32 a.d1, .int .u32 a.d2, .int .u32 a.d3, .int .u32 a.d4, .int .u32 a.d5, .int .u32 a.d6, .int .u32 a.d7]) (.agg #[.int .u32 b.d0, .int .u32 b.d1, .int .u32 b.d2, .int .u32 b.d3, .int .u32 b.d4, .int .u32 b.d5, .int .u32 b.d6, .int .u32 b.d7])).run Tryz.prog w = .ok (.bool (eqV a b)) w := by
  have h := run_eql_ints (P := Tryz.prog) (t := 28) (k := .u32) Tryz.underlying28 (Option.eq_some_of_isSome (by kernel_rfl)) (by kernel_rfl) Tryz.underlying22 [a.d0, a.d1, a.d2, a.d3, a.d4, a.d5, a.d6, a.d7] [b.d0, b.d1, b.d2, b.d3, b.d4, b.d5, b.d6, b.d7] rfl rfl w
  exact h
end Go.Proofs.YtfhandglpjnonaaGreatDoor
