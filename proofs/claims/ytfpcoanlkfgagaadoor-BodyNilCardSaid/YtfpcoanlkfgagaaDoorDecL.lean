/- The law BodyNil: its walk: what is answered of a decoder that is not there, and the known rows. -/
import Derived.Test.YtfpcoanlkfgagaaDoorDecK
namespace Go.Proofs.YtfpcoanlkfgagaaDoor.DecL
open Go.RowKit Go.Proofs.YtfpcoanlkfgagaaDoorW.PrintWords Go.Proofs.YtfpcoanlkfgagaaDoorW.PrintLast Go.Proofs.YtfpcoanlkfgagaaDoor.Ext Go.Proofs.YtfpcoanlkfgagaaDoor.Dec Go.Proofs.YtfpcoanlkfgagaaDoor.DecW Go.Proofs.YtfpcoanlkfgagaaDoor.DecQ Go.Proofs.YtfpcoanlkfgagaaDoor.DecK
set_option linter.unusedVariables false
set_option linter.unusedSimpArgs false
def odometerlaw07_BodyNil.Pure : Prop := True
set_option maxHeartbeats 4000000 in
set_option maxRecDepth 100000 in
theorem odometerlaw07_BodyNil.walk (P : odometerlaw07_BodyNil.Pure) (w : World) (hG : Glob w) : Calls Tryd.prog 4 #[] w fun e w' => e = .returned (.bool true) ∧ Below w.heap.size w w' := by
  have HG := Aside0.mk hG
  have kc := fun (w : World) (C : Array Value) (n c : Nat) => Lib.run_convert_bytes_const (P := Tryd.prog) w 22 5 C n c Tryd.underlying22 Tryd.underlying5
  have HA := Aside0.mk (below_alloc (Below.refl w.heap.size w) (.cells #[.int .u8 97] 5 (1, 2)))
  clear hG
  go_enter Tryd.func4, Tryd.ntmps4
  go_wp2_with (first | (go_at_call 17; (with_reducible refine (end_nil _).mono ?_); rintro e w_ ⟨rfl, rfl⟩) | (go_at_call 14; (with_reducible refine (push_nil_calls _ _ _ _).mono ?_); rintro e w_ ⟨rfl, rfl⟩) | (go_at_call 15; (with_reducible refine (done_nil _).mono ?_); rintro e w_ ⟨rfl, rfl⟩) | (go_at_call 18; (with_reducible refine (err_nil _).mono ?_); rintro e w_ ⟨rfl, rfl⟩) | (go_at_call 16; (with_reducible refine (body_nil _).mono ?_); rintro e w_ ⟨rfl, rfl⟩) | (go_at_call 19; (with_reducible refine (copy_nil _).mono ?_); rintro e w_ ⟨rfl, rfl⟩) | (go_at_call 10; (with_reducible refine (known_calls _ (HG.out.below HA.out)).mono ?_); rintro e w2 ⟨rfl, hb⟩; have HB := Aside0.mk hb; clear hb))
  go_ret
  exact ⟨rfl, below_step HA.out HB.out⟩
end Go.Proofs.YtfpcoanlkfgagaaDoor.DecL
