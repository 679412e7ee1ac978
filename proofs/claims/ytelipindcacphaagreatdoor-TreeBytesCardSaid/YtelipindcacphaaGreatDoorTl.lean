/- Lists of tags and of additions: the document's right, rises, HasTag, SameTags; slices.IndexFunc, ContainsFunc, BinarySearchFunc; strictly. -/
import Derived.Test.YtelipindcacphaaGreatDoorOsD
import Derived.Deep.DeepCutAuto
import Derived.Deep.RegionHeld3
import Derived.Deep.LoopGhost
namespace Go.Proofs.YtelipindcacphaaGreatDoor
open Go.RowKit

/-- A function value that answers p of such things, wherever what lay below block B stands. -/
def PredT (g : Nat) (lb : Array Value) (p : Tm → Bool) (B : Nat) (w : World) (xs : List Tm) : Prop :=
  ∀ x ∈ xs, ∀ w', Below B w w' → Calls Tryz.prog g (#[.agg #[.int .i64 x.1.1, .int .u32 x.1.2, .int .i64 x.2]] ++ lb) w' fun e w'' => e = .returned (.bool (p x)) ∧ Below w'.heap.size w' w''
/-- A function value that answers p of such things, wherever what lay below block B stands. -/
def PredA (g : Nat) (lb : Array Value) (p : Am → Bool) (B : Nat) (w : World) (xs : List Am) : Prop :=
  ∀ x ∈ xs, ∀ w', Below B w w' → Calls Tryz.prog g (#[.agg #[.int .i64 x.1.1.1, .int .u32 x.1.1.2, .int .i64 x.1.2, .string (bs x.2)]] ++ lb) w' fun e w'' => e = .returned (.bool (p x)) ∧ Below w'.heap.size w' w''
end Go.Proofs.YtelipindcacphaaGreatDoor
