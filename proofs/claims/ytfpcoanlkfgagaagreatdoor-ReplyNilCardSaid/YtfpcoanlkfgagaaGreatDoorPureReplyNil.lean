/- The plain law of ReplyNil: nothing is left to show. -/
import Derived.Test.YtfpcoanlkfgagaaGreatDoorRdrN
namespace Go.Proofs.YtfpcoanlkfgagaaGreatDoor.Pure
theorem ReplyNil : RdrN.odometerlaw08_ReplyNil.Pure := trivial
end Go.Proofs.YtfpcoanlkfgagaaGreatDoor.Pure
