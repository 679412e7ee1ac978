/- The document's Take. -/
import Derived.Test.YtpfohpfgfdeecaaVcB
namespace Go.Proofs.Ytpfohpfgfdeecaa
open Go.RowKit

end Go.Proofs.Ytpfohpfgfdeecaa
