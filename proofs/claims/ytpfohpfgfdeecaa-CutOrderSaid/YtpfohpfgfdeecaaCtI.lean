/- The statements' own To and From. -/
import Derived.Test.YtpfohpfgfdeecaaCx
namespace Go.Proofs.Ytpfohpfgfdeecaa
open Go.RowKit
end Go.Proofs.Ytpfohpfgfdeecaa
