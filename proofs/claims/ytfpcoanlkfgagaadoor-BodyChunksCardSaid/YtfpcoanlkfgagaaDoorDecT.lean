/- head.MayText and head.MayName, without a bound on rounds. -/
import Derived.Test.YtfpcoanlkfgagaaDoorPAx2
namespace Go.Proofs.YtfpcoanlkfgagaaDoor.DecT
open Go.RowKit Go.Proofs.YtfpcoanlkfgagaaDoorW.PrintWords Go.Proofs.YtfpcoanlkfgagaaDoor.Ext
/-- What a function of a number of rounds comes to, if it comes to anything. -/
noncomputable def evT (g : Nat → Option Bool) : Option Bool := open Classical in if h : ∃ k, (g k).isSome = true then g h.choose else none
theorem evT_some {g : Nat → Option Bool} {r : Bool} (h : evT g = some r) : ∃ k, g k = some r := by
  unfold evT at h
  split at h
  · exact ⟨_, h⟩
  · cases h
theorem mono_le {g : Nat → Option Bool} (hm : ∀ k, LeO (g k) (g (k + 1))) {k : Nat} {r : Bool} (h : g k = some r) : ∀ n, g (k + n) = some r
  | 0 => h
  | n + 1 => hm (k + n) r (mono_le hm h n)
theorem evT_eq {g : Nat → Option Bool} (hm : ∀ k, LeO (g k) (g (k + 1))) {k : Nat} {r : Bool} (h : g k = some r) : evT g = some r := by
  unfold evT
  have hx : ∃ k, (g k).isSome = true := ⟨k, by rw [h]; rfl⟩
  rw [dif_pos hx]
  obtain ⟨r2, h2⟩ := Option.isSome_iff_exists.1 hx.choose_spec
  have a := mono_le hm h hx.choose
  have b := mono_le hm h2 k
  rw [Nat.add_comm] at b
  rw [h2, ← b, a]
noncomputable def mayText.f (a0 : ByteArray) : Option (Bool) := evT (fun k => PA.head_MayText.f k a0)
theorem mayText.calls (a0 : ByteArray) (r : Bool) (w : World) (h : mayText.f a0 = some r) :
    Calls Tryd.prog 25 #[.string a0] w fun e w' => e = .returned (.bool r) ∧ Below w.heap.size w w' := by
  obtain ⟨k, hk⟩ := evT_some h
  refine (PA.head_MayText.calls k a0 r w hk).mono ?_
  rintro e w' ⟨he, n, rfl⟩
  exact ⟨he, pw_below_drewN (Below.refl _ _) n⟩
noncomputable def mayName.f (a0 : ByteArray) : Option (Bool) := evT (fun k => PA.head_MayName.f k a0)
theorem mayName.calls (a0 : ByteArray) (r : Bool) (w : World) (h : mayName.f a0 = some r) :
    Calls Tryd.prog 23 #[.string a0] w fun e w' => e = .returned (.bool r) ∧ Below w.heap.size w w' := by
  obtain ⟨k, hk⟩ := evT_some h
  refine (PA.head_MayName.calls k a0 r w hk).mono ?_
  rintro e w' ⟨he, n, rfl⟩
  exact ⟨he, pw_below_drewN (Below.refl _ _) n⟩
end Go.Proofs.YtfpcoanlkfgagaaDoor.DecT
