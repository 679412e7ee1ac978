/- For any message and command InstTells answers true and leaves its arguments as they were: no condition on them. -/
import Derived.Test.YtfhandglpjnonaaGreatDoorTwI
import Derived.Test.YtfhandglpjnonaaGreatDoorQs
import Derived.Test.YtfhandglpjnonaaGreatDoorN50
import Derived.Test.YtfhandglpjnonaaGreatDoorTie
import Derived.Test.YtfhandglpjnonaaGreatDoorCards
import Derived.SevenTiedAt
namespace Go.Proofs.YtfhandglpjnonaaGreatDoor
open Go.ChangeShapes Go.WideShapes Go.ChangeAt Go.RowKit

end Go.Proofs.YtfhandglpjnonaaGreatDoor
