/- The closed facts of the chapter hold. -/
import Derived.Test.YtfpcoanlkfgagaaDoorPBK
import Derived.Test.YtfpcoanlkfgagaaDoorPureK
namespace Go.Proofs.YtfpcoanlkfgagaaDoor.Pure
open Go.RowKit Go.Proofs.YtfpcoanlkfgagaaDoor.PB Go.Proofs.YtfpcoanlkfgagaaDoor.PB0 Go.Proofs.YtfpcoanlkfgagaaDoor.Ext Go.Proofs.YtfpcoanlkfgagaaDoorW.PrintWords Go.Proofs.YtfpcoanlkfgagaaDoor.Plain
theorem known_eq : odometerlaw06_known.f = some true := by
  unfold odometerlaw06_known.f bytesLit.f
  simp only [Option.bind_some]
  rw [← n1, ← n2, ← n3, head_eq k1 (by decide), head_eq k2 (by decide), head_eq k3 (by decide), e1, e2, e3]
  simp
theorem known_bind {α : Type} (f : Bool → Option α) : (odometerlaw06_known.f).bind f = f true := by rw [known_eq]; rfl
end Go.Proofs.YtfpcoanlkfgagaaDoor.Pure
