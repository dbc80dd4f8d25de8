/- The plain law of BodyChunks: nothing is left to show. -/
import Derived.Test.YtfpcoanlkfgagaaDoorDecD
namespace Go.Proofs.YtfpcoanlkfgagaaDoor.Pure
theorem BodyChunks : DecD.odometerlaw07_BodyChunks.Pure := trivial
end Go.Proofs.YtfpcoanlkfgagaaDoor.Pure
