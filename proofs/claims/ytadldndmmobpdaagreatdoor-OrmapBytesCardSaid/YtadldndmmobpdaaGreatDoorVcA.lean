/- What is wrong with a vector (both). -/
import Derived.Test.YtadldndmmobpdaaGreatDoorDb
import Derived.Test.YtadldndmmobpdaaGreatDoorPl
namespace Go.Proofs.YtadldndmmobpdaaGreatDoor
open Go.RowKit

end Go.Proofs.YtadldndmmobpdaaGreatDoor
