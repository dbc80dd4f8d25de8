/- The reference's Parse by its plain law. -/
import Derived.Test.YtfpcoanlkfgagaaDoorExtBR
import Derived.Test.YtfpcoanlkfgagaaDoorPlainG2
namespace Go.Proofs.YtfpcoanlkfgagaaDoor.Pure
open Go.RowKit Go.Proofs.YtfpcoanlkfgagaaDoor.PB0 Go.Proofs.YtfpcoanlkfgagaaDoor.Ext Go.Proofs.YtfpcoanlkfgagaaDoorW.PrintWords Go.Proofs.YtfpcoanlkfgagaaDoor.Plain
theorem ref_eq (b : List UInt8) (hb : b.length ≤ 100000000) : odometerref06_Parse.f (numsL b) = some (parseS (readS b)) := evOf_eq (parse_ref b hb)
end Go.Proofs.YtfpcoanlkfgagaaDoor.Pure
