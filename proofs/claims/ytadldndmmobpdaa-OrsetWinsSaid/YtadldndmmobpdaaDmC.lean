/- slices.Values, AppendSeq, Collect at names. -/
import Derived.Test.YtadldndmmobpdaaDtR
import Derived.Test.YtadldndmmobpdaaM3
import Derived.Test.YtadldndmmobpdaaGc
import Derived.TacticsInMore
import Derived.LoopNIn
import Derived.LoopIn
import Derived.Shelf.Abstract
namespace Go.Proofs.Ytadldndmmobpdaa
open Go.RowKit

attribute [local go_sem] Oper.semAt_some

end Go.Proofs.Ytadldndmmobpdaa
