/- What is wrong with a vector (both). -/
import Derived.Test.YtelipindcacphaaGreatDoorDb
import Derived.Test.YtelipindcacphaaGreatDoorPl
namespace Go.Proofs.YtelipindcacphaaGreatDoor
open Go.RowKit

end Go.Proofs.YtelipindcacphaaGreatDoor
