/- The program's Parse without a bound on rounds: what it comes to from some number of rounds on; for the walks of the laws of heads. -/
import Derived.Test.YtfpcoanlkfgagaaDoorRg
namespace Go.Proofs.YtfpcoanlkfgagaaDoor.PB0
open Go.RowKit Go.Proofs.YtfpcoanlkfgagaaDoorW.PrintWords Go.Proofs.YtfpcoanlkfgagaaDoor.Ext
/-- What a function of a number of rounds comes to, if it comes to anything. -/
noncomputable def evOf {α : Type} (g : Nat → Option α) : Option α := open Classical in if h : ∃ r, Ev g r then some h.choose else none
theorem evOf_some {α : Type} {g : Nat → Option α} {r : α} (h : evOf g = some r) : ∃ k, g k = some r := by
  unfold evOf at h
  split at h
  · rename_i hx
    have hs := hx.choose_spec
    rw [Option.some.inj h] at hs
    exact hs.rounds
  · cases h
theorem evOf_eq {α : Type} {g : Nat → Option α} {r : α} (h : Ev g r) : evOf g = some r := by
  unfold evOf
  have hx : ∃ r, Ev g r := ⟨r, h⟩
  rw [dif_pos hx]
  obtain ⟨K1, h1⟩ := hx.choose_spec
  obtain ⟨K2, h2⟩ := h
  have a := h1 (max K1 K2) (Nat.le_max_left _ _)
  have b := h2 (max K1 K2) (Nat.le_max_right _ _)
  rw [← a, b]

noncomputable def head_Parse.f (l0 : List Int) : Option (Int × Int × Bool × Bool × Int × Int) := evOf (fun k => PA.head_Parse.f k l0)
theorem head_Parse.calls (A0 : Option Addr) (c0 : Nat) (l0 : List Int) (r1 r2 : Int) (r3 r4 : Bool) (r5 r6 : Int) (w : World) (hr0 : Kd.C (Kd.int .u8) w A0 l0.length l0) (hc0 : l0.length ≤ c0) (hG : Glob w) (h : head_Parse.f l0 = some (r1, r2, r3, r4, r5, r6)) :
    Calls Tryd.prog 21 #[.slice A0 l0.length c0] w fun e w' => e = .returned (.tuple #[.agg #[.int .i64 r1, .int .i64 r2, .bool r3, .bool r4], .int .i64 r5, .int .i64 r6]) ∧ Below w.heap.size w w' := by
  obtain ⟨k, hk⟩ := evOf_some h
  exact PA.head_Parse.calls k A0 c0 l0 r1 r2 r3 r4 r5 r6 w hr0 hc0 hG hk

end Go.Proofs.YtfpcoanlkfgagaaDoor.PB0
