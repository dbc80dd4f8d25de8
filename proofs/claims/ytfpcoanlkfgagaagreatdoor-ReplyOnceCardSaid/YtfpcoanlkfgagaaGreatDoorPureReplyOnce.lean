/- The plain law of ReplyOnce: nothing is left to show. -/
import Derived.Test.YtfpcoanlkfgagaaGreatDoorRdrO
namespace Go.Proofs.YtfpcoanlkfgagaaGreatDoor.Pure
theorem ReplyOnce : RdrO.odometerlaw08_ReplyOnce.Pure := trivial
end Go.Proofs.YtfpcoanlkfgagaaGreatDoor.Pure
