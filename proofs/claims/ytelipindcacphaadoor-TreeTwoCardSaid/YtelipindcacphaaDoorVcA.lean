/- What is wrong with a vector (both). -/
import Derived.Test.YtelipindcacphaaDoorM25
import Derived.Test.YtelipindcacphaaDoorPl
namespace Go.Proofs.YtelipindcacphaaDoor
open Go.RowKit

end Go.Proofs.YtelipindcacphaaDoor
