/- The plain law of HeadTexts: of every text, the program's answers on names and texts are the reference's. -/
import Derived.Test.YtfpcoanlkfgagaaDoorPBT
import Derived.Test.YtfpcoanlkfgagaaDoorPlainB2
import Derived.Test.YtfpcoanlkfgagaaDoorPureA
namespace Go.Proofs.YtfpcoanlkfgagaaDoor.Pure
open Go.RowKit Go.Proofs.YtfpcoanlkfgagaaDoor.PB Go.Proofs.YtfpcoanlkfgagaaDoor.PB0 Go.Proofs.YtfpcoanlkfgagaaDoor.Ext Go.Proofs.YtfpcoanlkfgagaaDoorW.PrintWords Go.Proofs.YtfpcoanlkfgagaaDoor.Plain
theorem HeadTexts : odometerlaw06_HeadTexts.Pure := by
  intro a0 ha
  have h1 : head_MayName.f a0 = some (mayName (L a0)) := evOf_eq (name_prog a0 ha)
  have h2 : odometerref06_MayName.f a0 = some (mayName (L a0)) := evOf_eq (name_ref a0 ha)
  have h3 : head_MayText.f a0 = some (mayText (L a0)) := evOf_eq (text_prog a0 ha)
  have h4 : odometerref06_MayText.f a0 = some (mayText (L a0)) := evOf_eq (text_ref a0 ha)
  unfold odometerlaw06_HeadTexts.f
  simp only [known_bind, h1, h2, h3, h4, Option.bind_some, beq_self_eq_true, if_true, ite_self]
end Go.Proofs.YtfpcoanlkfgagaaDoor.Pure
