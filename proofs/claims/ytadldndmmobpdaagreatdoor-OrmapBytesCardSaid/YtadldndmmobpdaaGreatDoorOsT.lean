/- The statements' own To, From and Great of sets; the document's Same. -/
import Derived.Test.YtadldndmmobpdaaGreatDoorOsR
import Derived.Test.YtadldndmmobpdaaGreatDoorGe
namespace Go.Proofs.YtadldndmmobpdaaGreatDoor
open Go.RowKit

def grO (n m : Nat) : Bool := decide (200 < n ∨ 200 < m)
end Go.Proofs.YtadldndmmobpdaaGreatDoor
