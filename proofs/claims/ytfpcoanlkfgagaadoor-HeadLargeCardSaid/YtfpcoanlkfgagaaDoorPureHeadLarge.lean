/- The plain law of HeadLarge: of any bytes, both readers say the same. -/
import Derived.Test.YtfpcoanlkfgagaaDoorPBL
import Derived.Test.YtfpcoanlkfgagaaDoorPureR
import Derived.Test.YtfpcoanlkfgagaaDoorPureA
namespace Go.Proofs.YtfpcoanlkfgagaaDoor.Pure
open Go.RowKit Go.Proofs.YtfpcoanlkfgagaaDoor.PB Go.Proofs.YtfpcoanlkfgagaaDoor.PB0 Go.Proofs.YtfpcoanlkfgagaaDoor.Ext Go.Proofs.YtfpcoanlkfgagaaDoorW.PrintWords Go.Proofs.YtfpcoanlkfgagaaDoor.Plain
theorem HeadLarge : odometerlaw06_HeadLarge.Pure := by
  refine ⟨known_eq, fun xs hb hl => ?_⟩
  have hx := numsL_of xs hb
  obtain ⟨b, hbb⟩ : ∃ b, b = Lib.bytesOf xs := ⟨_, rfl⟩
  rw [← hbb] at hx
  have hlen : b.length ≤ 100000000 := by rw [hx, numsL_length] at hl; omega
  have h1 := head_eq b hlen
  have h2 : odometerref06_Parse.f (numsL b) = some (parseT b) := ref_eq b hlen
  rw [← hx] at h1 h2
  exact ⟨_, _, _, _, _, _, h1, h2⟩
end Go.Proofs.YtfpcoanlkfgagaaDoor.Pure
