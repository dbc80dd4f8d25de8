/- The plain law of ScriptTexts: its walk's theorem has it all. -/
import Derived.Test.YtjapnbghnnbamaaGreatDoorZE
import Derived.Test.YtjapnbghnnbamaaGreatDoorGlOf
namespace Go.Proofs.YtjapnbghnnbamaaGreatDoor.Pure
open Go.RowKit
theorem ScriptTexts : ZE.odometerlaw23_ScriptTexts.Pure := trivial
end Go.Proofs.YtjapnbghnnbamaaGreatDoor.Pure
