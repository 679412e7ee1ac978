/- Sets of names: the document's check; whether two lists are the same; a list of one's own. Are two lists of names the same? Is a name in one? -/
import Derived.Test.YtelipindcacphaaGreatDoorDa
import Derived.RegionTactic
namespace Go.Proofs.YtelipindcacphaaGreatDoor
open Go.RowKit

end Go.Proofs.YtelipindcacphaaGreatDoor
namespace Go.Proofs.YtelipindcacphaaGreatDoor
open Go.RowKit

end Go.Proofs.YtelipindcacphaaGreatDoor
