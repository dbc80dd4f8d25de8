/- The plain law of HeadParses: of any bytes, what the program's Parse tells is what the reference's tells, and the bytes stay. -/
import Derived.Test.YtfpcoanlkfgagaaDoorPBP
import Derived.Test.YtfpcoanlkfgagaaDoorPureR
import Derived.Test.YtfpcoanlkfgagaaDoorPureA
namespace Go.Proofs.YtfpcoanlkfgagaaDoor.Pure
open Go.RowKit Go.Proofs.YtfpcoanlkfgagaaDoor.PB Go.Proofs.YtfpcoanlkfgagaaDoor.PB0 Go.Proofs.YtfpcoanlkfgagaaDoor.Ext Go.Proofs.YtfpcoanlkfgagaaDoorW.PrintWords Go.Proofs.YtfpcoanlkfgagaaDoor.Plain
theorem HeadParses : odometerlaw06_HeadParses.Pure := by
  intro l0 _ _ hb
  have hl := numsL_of l0 hb
  obtain ⟨b, hbb⟩ : ∃ b, b = Lib.bytesOf l0 := ⟨_, rfl⟩
  rw [← hbb] at hl
  by_cases h : (l0.length : Int) > 20000
  · refine ⟨?_, .inl h⟩
    unfold odometerlaw06_HeadParses.f
    rw [if_pos h, known_bind]
  · have hlen : b.length ≤ 20000 := by rw [hl, numsL_length] at h; omega
    have h1 := head_eq b (by omega)
    have h2 : odometerref06_Parse.f (numsL b) = some (parseT b) := ref_eq b (by omega)
    refine ⟨?_, .inr ⟨_, by rw [hl]; exact h1, by rw [hl]; exact h2⟩⟩
    unfold odometerlaw06_HeadParses.f
    rw [if_neg h, if_pos (by simp; omega)]
    simp only [List.nil_append, Option.bind_some, hl]
    rw [h1, h2]
    simp only [Option.bind_some, known_bind, beq_self_eq_true, Bool.and_self, if_true]
end Go.Proofs.YtfpcoanlkfgagaaDoor.Pure
