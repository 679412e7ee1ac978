/- What is wrong with a vector (both). -/
import Derived.Test.YtadldndmmobpdaaM25
import Derived.Test.YtadldndmmobpdaaPl
namespace Go.Proofs.Ytadldndmmobpdaa
open Go.RowKit

end Go.Proofs.Ytadldndmmobpdaa
