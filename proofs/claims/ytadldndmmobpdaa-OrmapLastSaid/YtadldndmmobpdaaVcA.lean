/- What is wrong with a vector (both). -/
import Derived.Test.YtadldndmmobpdaaDb
import Derived.Test.YtadldndmmobpdaaPl
namespace Go.Proofs.Ytadldndmmobpdaa
open Go.RowKit

end Go.Proofs.Ytadldndmmobpdaa
