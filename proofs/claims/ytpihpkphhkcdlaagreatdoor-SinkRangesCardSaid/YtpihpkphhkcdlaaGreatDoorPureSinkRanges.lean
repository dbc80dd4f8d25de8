/- The plain law of SinkRanges: its walk's theorem has it all. -/
import Derived.Test.YtpihpkphhkcdlaaGreatDoorRw
import Derived.Test.YtpihpkphhkcdlaaGreatDoorGlOf
namespace Go.Proofs.YtpihpkphhkcdlaaGreatDoor.Pure
open Go.RowKit
theorem SinkRanges : Rw.odometerlaw31_SinkRanges.Pure := trivial
end Go.Proofs.YtpihpkphhkcdlaaGreatDoor.Pure
