/- The plain law of SinkOrder: its walk's theorem has it all. -/
import Derived.Test.YtpihpkphhkcdlaaGreatDoorOw
import Derived.Test.YtpihpkphhkcdlaaGreatDoorGlOf
namespace Go.Proofs.YtpihpkphhkcdlaaGreatDoor.Pure
open Go.RowKit
theorem SinkOrder : Ow.odometerlaw31_SinkOrder.Pure := trivial
end Go.Proofs.YtpihpkphhkcdlaaGreatDoor.Pure
