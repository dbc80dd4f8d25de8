/- The plain law of HeadMeans: an error of a beginning is the whole's, and a whole head's answer does not hang on what stands behind it. -/
import Derived.Test.YtfpcoanlkfgagaaDoorPBM
import Derived.Test.YtfpcoanlkfgagaaDoorPureA
namespace Go.Proofs.YtfpcoanlkfgagaaDoor.Pure
open Go.RowKit Go.Proofs.YtfpcoanlkfgagaaDoor.PB Go.Proofs.YtfpcoanlkfgagaaDoor.PB0 Go.Proofs.YtfpcoanlkfgagaaDoor.Ext Go.Proofs.YtfpcoanlkfgagaaDoorW.PrintWords Go.Proofs.YtfpcoanlkfgagaaDoor.Plain
theorem means_known (l0 l1 : List Int) (a2 : Int) : odometerlaw06_HeadMeans.j0 1 l0 l1 a2 true = some true := by
  simp only [odometerlaw06_HeadMeans.j0, if_true, known_bind]
theorem HeadMeans : odometerlaw06_HeadMeans.Pure := by
  intro l0 l1 a2 _ _ hb0 _ _ hb1 _
  refine ⟨1, ?_⟩
  unfold odometerlaw06_HeadMeans.f
  by_cases h0 : (l0.length : Int) > 9000
  · rw [if_pos h0]; exact means_known _ _ _
  · rw [if_neg h0]
    by_cases h1 : (l1.length : Int) > 9000
    · rw [if_pos h1]; exact means_known _ _ _
    · rw [if_neg h1]
      by_cases h2 : a2 < 0
      · rw [if_pos h2]; exact means_known _ _ _
      · rw [if_neg h2]
        by_cases h3 : a2 > (l0.length : Int)
        · rw [decide_eq_true h3]; exact means_known _ _ _
        · rw [decide_eq_false h3]
          have hl0 := numsL_of l0 hb0
          have hl1 := numsL_of l1 hb1
          obtain ⟨b, hbb⟩ : ∃ b, b = Lib.bytesOf l0 := ⟨_, rfl⟩
          obtain ⟨c, hcc⟩ : ∃ c, c = Lib.bytesOf l1 := ⟨_, rfl⟩
          rw [← hbb] at hl0
          rw [← hcc] at hl1
          have hbl : l0.length = b.length := by rw [hl0, numsL_length]
          have hcl : l1.length = c.length := by rw [hl1, numsL_length]
          have ep : l0.take a2.toNat = numsL (b.take a2.toNat) := by rw [hl0, numsL_take]
          have ew : l0 ++ l1 = numsL (b.take a2.toNat ++ (b.drop a2.toNat ++ c)) := by rw [← List.append_assoc, List.take_append_drop, numsL_append, ← hl0, ← hl1]
          have hpl : (b.take a2.toNat).length ≤ b.length := by rw [List.length_take]; omega
          have hpl2 : ((b.take a2.toNat).length : Int) ≤ a2 := by rw [List.length_take]; omega
          simp only [odometerlaw06_HeadMeans.j0]
          rw [if_neg (by decide), if_pos (by omega), if_pos (by omega), ep, head_eq _ (by omega)]
          simp only [List.nil_append, Option.bind_some]
          rw [if_pos (show ([] : List Int).length + l0.length < 140737488355328 by simp; omega), if_pos (show l0.length + l1.length < 140737488355328 by omega), ew, head_eq _ (by simp only [List.length_append, List.length_drop]; omega)]
          simp only [Option.bind_some, known_bind]
          by_cases hz : parseT (b.take a2.toNat) = wrongT 0
          · rw [hz]
            rw [if_pos (show (wrongT 0).2.2.2.2.2 = 0 from rfl), if_pos (show (wrongT 0).2.2.2.2.1 = 0 from rfl), if_pos (show (wrongT 0).2.2.2.2.1 ≤ a2 by show (0 : Int) ≤ a2; omega)]
          · rw [parseT_pre _ _ hz]
            rcases parseT_cases (b.take a2.toNat) with ⟨e, he⟩ | ⟨h5, m, h6, h7, h8⟩
            · have hne : e ≠ 0 := fun h => hz (by rw [he, h])
              rw [he]
              rw [if_neg (show ¬ (wrongT e).2.2.2.2.2 = 0 from hne), if_pos rfl]
              exact if_pos (show (wrongT e).2.2.2.2.1 = 0 from rfl)
            · rw [if_pos h5, if_neg (by rw [h6]; omega)]
              rw [if_pos (by simp only [beq_self_eq_true, Bool.and_self]), if_pos rfl, if_pos h5, if_pos (by rw [h6]; omega)]
end Go.Proofs.YtfpcoanlkfgagaaDoor.Pure
