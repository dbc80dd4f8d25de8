/- The plain law of ScriptReads: its walk's theorem has it all. -/
import Derived.Test.YtjapnbghnnbamaaGreatDoorZR
import Derived.Test.YtjapnbghnnbamaaGreatDoorGlOf
namespace Go.Proofs.YtjapnbghnnbamaaGreatDoor.Pure
open Go.RowKit
theorem ScriptReads : ZR.odometerlaw23_ScriptReads.Pure := trivial
end Go.Proofs.YtjapnbghnnbamaaGreatDoor.Pure
