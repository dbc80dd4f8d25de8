/- MayName and MayText, of the program and of the reference, without a bound on rounds. -/
import Derived.Test.YtfpcoanlkfgagaaDoorExtB
import Derived.Test.YtfpcoanlkfgagaaDoorPAx4
namespace Go.Proofs.YtfpcoanlkfgagaaDoor.PB0
open Go.RowKit Go.Proofs.YtfpcoanlkfgagaaDoorW.PrintWords Go.Proofs.YtfpcoanlkfgagaaDoor.Ext
noncomputable def head_MayText.f (a0 : ByteArray) : Option (Bool) := evOf (fun k => PA.head_MayText.f k a0)
theorem head_MayText.calls (a0 : ByteArray) (r : Bool) (w : World) (h : head_MayText.f a0 = some r) :
    Calls Tryd.prog 25 #[.string a0] w fun e w' => e = .returned (.bool r) ∧ Drawn0 w w' := by
  obtain ⟨k, hk⟩ := evOf_some h
  exact PA.head_MayText.calls k a0 r w hk
noncomputable def head_MayName.f (a0 : ByteArray) : Option (Bool) := evOf (fun k => PA.head_MayName.f k a0)
theorem head_MayName.calls (a0 : ByteArray) (r : Bool) (w : World) (h : head_MayName.f a0 = some r) :
    Calls Tryd.prog 23 #[.string a0] w fun e w' => e = .returned (.bool r) ∧ Drawn0 w w' := by
  obtain ⟨k, hk⟩ := evOf_some h
  exact PA.head_MayName.calls k a0 r w hk
noncomputable def odometerref06_MayText.f (a0 : ByteArray) : Option (Bool) := evOf (fun k => PA.odometerref06_MayText.f k a0)
theorem odometerref06_MayText.calls (a0 : ByteArray) (r : Bool) (w : World) (h : odometerref06_MayText.f a0 = some r) :
    Calls Tryd.prog 26 #[.string a0] w fun e w' => e = .returned (.bool r) ∧ Drawn0 w w' := by
  obtain ⟨k, hk⟩ := evOf_some h
  exact PA.odometerref06_MayText.calls k a0 r w hk
noncomputable def odometerref06_MayName.f (a0 : ByteArray) : Option (Bool) := evOf (fun k => PA.odometerref06_MayName.f k a0)
theorem odometerref06_MayName.calls (a0 : ByteArray) (r : Bool) (w : World) (h : odometerref06_MayName.f a0 = some r) :
    Calls Tryd.prog 24 #[.string a0] w fun e w' => e = .returned (.bool r) ∧ Drawn0 w w' := by
  obtain ⟨k, hk⟩ := evOf_some h
  exact PA.odometerref06_MayName.calls k a0 r w hk
end Go.Proofs.YtfpcoanlkfgagaaDoor.PB0
