/- The document's Fold. -/
import Derived.Test.YtpfohpfgfdeecaaVcC
import Derived.Test.YtpfohpfgfdeecaaDtI
import Derived.Test.YtpfohpfgfdeecaaGb
namespace Go.Proofs.Ytpfohpfgfdeecaa
open Go.RowKit

end Go.Proofs.Ytpfohpfgfdeecaa
