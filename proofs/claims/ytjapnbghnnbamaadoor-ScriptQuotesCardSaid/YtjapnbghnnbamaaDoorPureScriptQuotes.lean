/- The plain law of ScriptQuotes: its walk's theorem has it all. -/
import Derived.Test.YtjapnbghnnbamaaDoorSQ
import Derived.Test.YtjapnbghnnbamaaDoorGlOf
namespace Go.Proofs.YtjapnbghnnbamaaDoor.Pure
open Go.RowKit
theorem ScriptQuotes : SQ.odometerlaw23_ScriptQuotes.Pure := trivial
end Go.Proofs.YtjapnbghnnbamaaDoor.Pure
