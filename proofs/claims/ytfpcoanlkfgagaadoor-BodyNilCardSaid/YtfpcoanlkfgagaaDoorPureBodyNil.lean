/- The plain law of BodyNil: nothing is left to show. -/
import Derived.Test.YtfpcoanlkfgagaaDoorDecL
namespace Go.Proofs.YtfpcoanlkfgagaaDoor.Pure
theorem BodyNil : DecL.odometerlaw07_BodyNil.Pure := trivial
end Go.Proofs.YtfpcoanlkfgagaaDoor.Pure
