/- The law ReplyNil: its walk: what is answered of a reader that is not there, and the known rows. -/
import Derived.Test.YtfpcoanlkfgagaaGreatDoorRdrK
namespace Go.Proofs.YtfpcoanlkfgagaaGreatDoor.RdrN
open Go.RowKit Go.Proofs.YtfpcoanlkfgagaaGreatDoorW.PrintWords Go.Proofs.YtfpcoanlkfgagaaGreatDoorW.PrintLast Go.Proofs.YtfpcoanlkfgagaaGreatDoor.Ext Go.Proofs.YtfpcoanlkfgagaaGreatDoor.Dec Go.Proofs.YtfpcoanlkfgagaaGreatDoor.DecW Go.Proofs.YtfpcoanlkfgagaaGreatDoor.Rdr Go.Proofs.YtfpcoanlkfgagaaGreatDoor.RdrW Go.Proofs.YtfpcoanlkfgagaaGreatDoor.RdrY Go.Proofs.YtfpcoanlkfgagaaGreatDoor.RdrK
set_option linter.unusedVariables false
set_option linter.unusedSimpArgs false
def odometerlaw08_ReplyNil.Pure : Prop := True
set_option maxHeartbeats 4000000 in
set_option maxRecDepth 100000 in
theorem odometerlaw08_ReplyNil.walk (P : odometerlaw08_ReplyNil.Pure) (w : World) (hG : Glob w) : Calls Tryz.prog 4 #[] w fun e w' => e = .returned (.bool true) ∧ Below w.heap.size w w' := by
  have HG := Aside0.mk hG
  have kc := fun (w : World) (C : Array Value) (n c : Nat) => Lib.run_convert_bytes_const (P := Tryz.prog) w 22 5 C n c Tryz.underlying22 Tryz.underlying5
  have HA := Aside0.mk (below_alloc (Below.refl w.heap.size w) (.cells #[.int .u8 97] 5 (1, 2)))
  clear hG
  go_enter Tryz.func4, Tryz.ntmps4
  go_upto_region 4 with (first | (go_at_call 7; (with_reducible refine (push_nil_ _ _ _ _).mono ?_); rintro e w_ ⟨rfl, rfl⟩) | (go_at_call 8; (with_reducible refine (end_nil_ _).mono ?_); rintro e w_ ⟨rfl, rfl⟩))
  obtain ⟨w1, hw1⟩ : ∃ w1, w1 = w.alloc (.cells #[.int .u8 97] 5 (1, 2)) := ⟨_, rfl⟩
  rw [← hw1] at HA ⊢
  clear hw1 kc
  go_upto_region 5 with (first | (go_at_call 9; (with_reducible refine (reply_nil_ _).mono ?_); rintro e w2 ⟨v, rfl, ho, hfr, hb⟩; obtain ⟨A3, n3, rfl, hn3⟩ := own_slice2 ho; have HB := Aside0.mk (below_alloc (below_step HA.out hb) (.cells #[.int .i64 0, .slice A3 0 n3, .bool false] 28)); clear ho hfr hb hn3))
  obtain ⟨w3, hw3⟩ : ∃ w3, w3 = w2.alloc (.cells #[.int .i64 0, .slice A3 0 n3, .bool false] 28) := ⟨_, rfl⟩
  rw [← hw3] at HB ⊢
  clear hw3 HA
  go_upto_region 6 with (first | (go_at_call 12; (with_reducible refine (head_nil_ _).mono ?_); rintro e w4 ⟨rfl, hb⟩; have HB2 := Aside0.mk (below_alloc (below_step HB.out hb) (.cells #[.int .i64 0, .int .i64 0, .bool false, .bool false] 35)); clear hb))
  obtain ⟨w5, hw5⟩ : ∃ w5, w5 = w4.alloc (.cells #[.int .i64 0, .int .i64 0, .bool false, .bool false] 35) := ⟨_, rfl⟩
  rw [← hw5] at HB2 ⊢
  clear hw5 HB
  go_wp2_with (first | (go_at_call 13; (with_reducible refine (wrong_nil_ _).mono ?_); rintro e w_ ⟨rfl, rfl⟩) | (go_at_call 11; (with_reducible refine (over_nil_ _).mono ?_); rintro e w_ ⟨rfl, rfl⟩) | (go_at_call 14; (with_reducible refine (rest_nil_ _).mono ?_); rintro e w_ ⟨rfl, rfl⟩) | (go_at_call 15; (with_reducible refine (copy_nil_ _).mono ?_); rintro e w_ ⟨rfl, rfl⟩) | (go_at_call 5; (with_reducible refine (known_calls _ (HG.out.below HB2.out)).mono ?_); rintro e w6 ⟨rfl, hb⟩; have HB3 := Aside0.mk hb; clear hb))
  go_ret
  exact ⟨rfl, below_step HB2.out HB3.out⟩
end Go.Proofs.YtfpcoanlkfgagaaGreatDoor.RdrN
