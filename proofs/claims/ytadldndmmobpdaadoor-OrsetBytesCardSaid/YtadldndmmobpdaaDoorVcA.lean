/- What is wrong with a vector (both). -/
import Derived.Test.YtadldndmmobpdaaDoorDb
import Derived.Test.YtadldndmmobpdaaDoorPl
namespace Go.Proofs.YtadldndmmobpdaaDoor
open Go.RowKit

end Go.Proofs.YtadldndmmobpdaaDoor
