/- What is wrong with a vector (both). -/
import Derived.Test.YtdoojgehlnpcnaaDoorDb
import Derived.Test.YtdoojgehlnpcnaaDoorPl
namespace Go.Proofs.YtdoojgehlnpcnaaDoor
open Go.RowKit

end Go.Proofs.YtdoojgehlnpcnaaDoor
