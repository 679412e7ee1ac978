/- The document's Beyond: what of a set is not within a vector. -/
import Derived.Test.YtpfohpfgfdeecaaDtF
import Derived.Test.YtpfohpfgfdeecaaDg
namespace Go.Proofs.Ytpfohpfgfdeecaa
open Go.RowKit


end Go.Proofs.Ytpfohpfgfdeecaa
