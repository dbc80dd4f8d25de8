/- The reference's Parse without a bound on rounds. -/
import Derived.Test.YtfpcoanlkfgagaaDoorExtB
import Derived.Test.YtfpcoanlkfgagaaDoorRi
namespace Go.Proofs.YtfpcoanlkfgagaaDoor.PB0
open Go.RowKit Go.Proofs.YtfpcoanlkfgagaaDoorW.PrintWords Go.Proofs.YtfpcoanlkfgagaaDoor.Ext
noncomputable def odometerref06_Parse.f (l0 : List Int) : Option (Int × Int × Bool × Bool × Int × Int) := evOf (fun k => PA.odometerref06_Parse.f k l0)
theorem odometerref06_Parse.calls (A0 : Option Addr) (c0 : Nat) (l0 : List Int) (r1 : Int) (r2 : Int) (r3 : Bool) (r4 : Bool) (r5 : Int) (r6 : Int) (w : World) (hr0 : Kd.C (Kd.int .u8) w A0 l0.length l0) (hc0 : l0.length ≤ c0) (h : odometerref06_Parse.f l0 = some (r1, r2, r3, r4, r5, r6)) :
    Calls Tryd.prog 22 #[.slice A0 l0.length c0] w fun e w' => e = .returned (.tuple #[.agg #[.int .i64 r1, .int .i64 r2, .bool r3, .bool r4], .int .i64 r5, .int .i64 r6]) ∧ Below w.heap.size w w' := by
  obtain ⟨k, hk⟩ := evOf_some h
  exact PA.odometerref06_Parse.calls k A0 c0 l0 r1 r2 r3 r4 r5 r6 w hr0 hc0 hk

end Go.Proofs.YtfpcoanlkfgagaaDoor.PB0
