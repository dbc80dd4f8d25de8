/- The plain law of SinkNil: its walk's theorem has it all. -/
import Derived.Test.YtpihpkphhkcdlaaGreatDoorNw
import Derived.Test.YtpihpkphhkcdlaaGreatDoorGlOf
namespace Go.Proofs.YtpihpkphhkcdlaaGreatDoor.Pure
open Go.RowKit
theorem SinkNil : Nw.odometerlaw31_SinkNil.Pure := trivial
end Go.Proofs.YtpihpkphhkcdlaaGreatDoor.Pure
