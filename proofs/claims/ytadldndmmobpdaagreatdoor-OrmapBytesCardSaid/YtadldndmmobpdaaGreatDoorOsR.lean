/- The document's sets of additions: the names of additions, what is wrong with a set. -/
import Derived.Test.YtadldndmmobpdaaGreatDoorOsK
namespace Go.Proofs.YtadldndmmobpdaaGreatDoor
open Go.RowKit

end Go.Proofs.YtadldndmmobpdaaGreatDoor
