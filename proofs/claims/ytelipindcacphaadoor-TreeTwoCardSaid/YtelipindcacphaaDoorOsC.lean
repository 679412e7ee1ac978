/- Binary search for a tag; strictly; sets of additions: what is wrong with one, both checks. -/
import Derived.Test.YtelipindcacphaaDoorTl
namespace Go.Proofs.YtelipindcacphaaDoor
open Go.RowKit

/-- A function value that compares additions by their tags. -/
def CmpA (g : Nat) (lb : Array Value) (B : Nat) (w : World) (xs : List Am) : Prop :=
  ∀ x ∈ xs, ∀ y ∈ xs, ∀ w', Below B w w' → Calls Tryd.prog g (#[.agg #[.int .i64 x.1.1.1, .int .u32 x.1.1.2, .int .i64 x.1.2, .string (bs x.2)], .agg #[.int .i64 y.1.1.1, .int .u32 y.1.1.2, .int .i64 y.1.2, .string (bs y.2)]] ++ lb) w' fun e w'' => e = .returned (.int .i64 (cmpT x.1 y.1)) ∧ Below w'.heap.size w' w''
def CmpT (g : Nat) (lb : Array Value) (B : Nat) (w : World) (xs : List Tm) : Prop :=
  ∀ x ∈ xs, ∀ y ∈ xs, ∀ w', Below B w w' → Calls Tryd.prog g (#[.agg #[.int .i64 x.1.1, .int .u32 x.1.2, .int .i64 x.2], .agg #[.int .i64 y.1.1, .int .u32 y.1.2, .int .i64 y.2]] ++ lb) w' fun e w'' => e = .returned (.int .i64 (cmpT x y)) ∧ Below w'.heap.size w' w''
theorem bs_empty (e : List UInt8) : (bs e).toList = e := by rw [ByteArray.toList_eq]; rfl
end Go.Proofs.YtelipindcacphaaDoor
