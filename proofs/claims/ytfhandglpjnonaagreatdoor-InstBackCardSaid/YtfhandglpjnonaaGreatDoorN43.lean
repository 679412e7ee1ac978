/- The document's Read of effects: the next effect of a reader. The document's Read of vectors. The document's Read of transactions: the next transaction of a reader. The document's readCmd. The document's Read: the message that bytes are. -/
import Derived.Test.YtfhandglpjnonaaGreatDoorN37
import Derived.Test.YtfhandglpjnonaaGreatDoorM47
import Derived.Test.YtfhandglpjnonaaGreatDoorN06
import Derived.Deep.DeepCutAuto
import Derived.Deep.CutBlock
import Derived.Test.YtfhandglpjnonaaGreatDoorVrC
import Derived.Test.YtfhandglpjnonaaGreatDoorN36
import Derived.Test.YtfhandglpjnonaaGreatDoorN25
import Derived.Test.YtfhandglpjnonaaGreatDoorJe
import Derived.Test.YtfhandglpjnonaaGreatDoorM46
import Derived.Test.YtfhandglpjnonaaGreatDoorN39
import Derived.Test.YtfhandglpjnonaaGreatDoorQG
import Derived.Test.YtfhandglpjnonaaGreatDoorQI
namespace Go.Proofs.YtfhandglpjnonaaGreatDoor
open Go.RowKit
section
variable {w wx wy : World} {B g : Nat} {S S' : Rs} {m m' : Mm}
end
end Go.Proofs.YtfhandglpjnonaaGreatDoor
