/- Written by a program of this session (wip/tools/myprint.py) out of the translation: plain Lean functions and their walks. -/
import Derived.Test.YtpihpkphhkcdlaaGreatDoorPRx0
import Derived.Test.YtpihpkphhkcdlaaGreatDoorPRx11
import Derived.Test.YtpihpkphhkcdlaaGreatDoorPRx12
import Derived.Test.YtpihpkphhkcdlaaGreatDoorPRx13
import Derived.Test.YtpihpkphhkcdlaaGreatDoorPRx14
namespace Go.Proofs.YtpihpkphhkcdlaaGreatDoor.PR
open Go.RowKit Go.Proofs.YtpihpkphhkcdlaaGreatDoorW.PrintWords Go.Proofs.YtpihpkphhkcdlaaGreatDoorW.PrintLast Go.Proofs.YtpihpkphhkcdlaaGreatDoor.Ext Go.Proofs.YtpihpkphhkcdlaaGreatDoorW.PrintMore
attribute [local go_sem] max2_int min2_int max_two min_two max_three min_three max_four min_four   -- for this text's walks alone
set_option linter.unusedVariables false
set_option linter.unusedSimpArgs false

/-! ### odometerref20_Decode: function 46 -/
mutual
def odometerref20_Decode.j0 : Nat → List Int → Bool → Int → Int → Option (Int × Int × (List (S73)) × Int)
  | 0, _, _, _, _ => none
  | k + 1, x0, x24, x289000, x289001 => if x24 = true then (some (x289000, x289001, ([] : List (S73)), 25)) else (if (x0.length : Int) < 8 then (some (x289000, x289001, ([] : List (S73)), 11)) else (if 0 ≤ (wrap64 ((x0.length : Int) - 4)) then (if (wrap64 ((x0.length : Int) - 4)) ≤ (x0.length : Int) then ((odometerref20_sum.f k (x0.take ((wrap64 ((x0.length : Int) - 4)) : Int).toNat)).bind fun t291 => (if (strOfNums t291).toList = (strOfNums (x0.drop ((wrap64 ((x0.length : Int) - 4)) : Int).toNat)).toList then ((odometerref20_number.f k (x0.take ((wrap64 ((x0.length : Int) - 4)) : Int).toNat) 4).bind fun bt297 => (if bt297.2.2 = 0 then ((odometerref20_number.f k (x0.take ((wrap64 ((x0.length : Int) - 4)) : Int).toNat) bt297.2.1).bind fun bt300 => (if bt300.2.2 = 0 then (if (Int.tmod bt300.1 2) = 1 then (odometerref20_Decode.j1 k (x0.take ((wrap64 ((x0.length : Int) - 4)) : Int).toNat) bt300.2.1 x289000 x289001 bt297.1 (wrap64 ((-1) - (wrap64 (IntKind.u64.wrap (Int.tdiv bt300.1 2)))))) else (odometerref20_Decode.j1 k (x0.take ((wrap64 ((x0.length : Int) - 4)) : Int).toNat) bt300.2.1 x289000 x289001 bt297.1 (wrap64 (IntKind.u64.wrap (Int.tdiv bt300.1 2))))) else (some (x289000, x289001, ([] : List (S73)), bt300.2.2)))) else (some (x289000, x289001, ([] : List (S73)), bt297.2.2)))) else (some (x289000, x289001, ([] : List (S73)), 24)))) else (none)) else (none)))
def odometerref20_Decode.j1 : Nat → List Int → Int → Int → Int → Int → Int → Option (Int × Int × (List (S73)) × Int)
  | 0, _, _, _, _, _, _ => none
  | k + 1, x0, x8, x289000, x289001, x297000, x297001 => (odometerref20_number.f k x0 x8).bind fun bt303 => (if bt303.2.2 = 0 then (odometerref20_Decode.l0 k x0 bt303.2.1 bt303.1 0 x289000 x289001 x297000 x297001 ([] : List (S73))) else (some (x289000, x289001, ([] : List (S73)), bt303.2.2)))
def odometerref20_Decode.l0 : Nat → List Int → Int → Int → Int → Int → Int → Int → Int → List (S73) → Option (Int × Int × (List (S73)) × Int)
  | 0, _, _, _, _, _, _, _, _, _ => none
  | k + 1, x0, x8, x10, x11, x289000, x289001, x297000, x297001, x297002 => if x11 < x10 then ((odometerref20_record.f k x0 x8 x297001).bind fun bt306 => (if bt306.2.2.2.2.2.2 = 0 then (if x297002.length < 2932031007402 then (odometerref20_Decode.l0 k x0 bt306.2.2.2.2.2.1 x10 (IntKind.u64.wrap (x11 + 1)) x289000 x289001 x297000 x297001 (x297002 ++ [(⟨bt306.1, bt306.2.1, bt306.2.2.1, bt306.2.2.2.1, bt306.2.2.2.2.1⟩ : S73)])) else (none)) else (some (x289000, x289001, ([] : List (S73)), bt306.2.2.2.2.2.2)))) else (if x8 < (x0.length : Int) then (some (x289000, x289001, ([] : List (S73)), 11)) else ((odometerref20_May.f k x297000 x297001 x297002).bind fun t317 => (if t317 = true then (some (x297000, x297001, x297002, 0)) else (some (x289000, x289001, ([] : List (S73)), 2)))))
end
def odometerref20_Decode.f (k : Nat) (l0 : List Int) : Option (Int × Int × (List (S73)) × Int) := if (l0.length : Int) < 4 then (odometerref20_Decode.j0 k l0 true 0 0) else (if 4 ≤ (l0.length : Int) then (odometerref20_Decode.j0 k l0 ((strOfNums (l0.take 4)).toList != ([79, 68, 79, 1] : List UInt8)) 0 0) else (none))
theorem odometerref20_Decode.mono_l : ∀ k, (∀ y0 y1 y2 y3, LeO (odometerref20_Decode.j0 k y0 y1 y2 y3) (odometerref20_Decode.j0 (k + 1) y0 y1 y2 y3)) ∧ (∀ y0 y1 y2 y3 y4 y5, LeO (odometerref20_Decode.j1 k y0 y1 y2 y3 y4 y5) (odometerref20_Decode.j1 (k + 1) y0 y1 y2 y3 y4 y5)) ∧ (∀ y0 y1 y2 y3 y4 y5 y6 y7 y8, LeO (odometerref20_Decode.l0 k y0 y1 y2 y3 y4 y5 y6 y7 y8) (odometerref20_Decode.l0 (k + 1) y0 y1 y2 y3 y4 y5 y6 y7 y8))
  | 0 => ⟨fun _ _ _ _ r h => by simp [odometerref20_Decode.j0] at h, fun _ _ _ _ _ _ r h => by simp [odometerref20_Decode.j1] at h, fun _ _ _ _ _ _ _ _ _ r h => by simp [odometerref20_Decode.l0] at h⟩
  | k + 1 => by
    obtain ⟨ih0, ih1, ih2⟩ := odometerref20_Decode.mono_l k
    refine ⟨?_, ?_, ?_⟩
    · intro y0 y1 y2 y3
      unfold odometerref20_Decode.j0
      repeat' first
      | (with_reducible exact ih0 _ _ _ _)
      | (with_reducible exact ih1 _ _ _ _ _ _)
      | (with_reducible exact ih2 _ _ _ _ _ _ _ _ _)
      | (with_reducible exact odometerref20_May.mono _ _ _ _)
      | (with_reducible exact odometerref20_number.mono _ _ _)
      | (with_reducible exact odometerref20_record.mono _ _ _ _)
      | (with_reducible exact odometerref20_sum.mono _ _)
      | (with_reducible exact LeO.refl _)
      | (with_reducible exact LeO.none _)
      | (with_reducible refine LeO.ite ?_ ?_)
      | (with_reducible refine LeO.bind ?_ (fun _ => ?_))
      | exact ih0 _ _ _ _
      | exact ih1 _ _ _ _ _ _
      | exact ih2 _ _ _ _ _ _ _ _ _
      | exact odometerref20_May.mono _ _ _ _
      | exact odometerref20_number.mono _ _ _
      | exact odometerref20_record.mono _ _ _ _
      | exact odometerref20_sum.mono _ _
      | exact LeO.none _
      | refine LeO.ite ?_ ?_
      | refine LeO.bind ?_ (fun _ => ?_)
    · intro y0 y1 y2 y3 y4 y5
      unfold odometerref20_Decode.j1
      repeat' first
      | (with_reducible exact ih0 _ _ _ _)
      | (with_reducible exact ih1 _ _ _ _ _ _)
      | (with_reducible exact ih2 _ _ _ _ _ _ _ _ _)
      | (with_reducible exact odometerref20_May.mono _ _ _ _)
      | (with_reducible exact odometerref20_number.mono _ _ _)
      | (with_reducible exact odometerref20_record.mono _ _ _ _)
      | (with_reducible exact odometerref20_sum.mono _ _)
      | (with_reducible exact LeO.refl _)
      | (with_reducible exact LeO.none _)
      | (with_reducible refine LeO.ite ?_ ?_)
      | (with_reducible refine LeO.bind ?_ (fun _ => ?_))
      | exact ih0 _ _ _ _
      | exact ih1 _ _ _ _ _ _
      | exact ih2 _ _ _ _ _ _ _ _ _
      | exact odometerref20_May.mono _ _ _ _
      | exact odometerref20_number.mono _ _ _
      | exact odometerref20_record.mono _ _ _ _
      | exact odometerref20_sum.mono _ _
      | exact LeO.none _
      | refine LeO.ite ?_ ?_
      | refine LeO.bind ?_ (fun _ => ?_)
    · intro y0 y1 y2 y3 y4 y5 y6 y7 y8
      unfold odometerref20_Decode.l0
      repeat' first
      | (with_reducible exact ih0 _ _ _ _)
      | (with_reducible exact ih1 _ _ _ _ _ _)
      | (with_reducible exact ih2 _ _ _ _ _ _ _ _ _)
      | (with_reducible exact odometerref20_May.mono _ _ _ _)
      | (with_reducible exact odometerref20_number.mono _ _ _)
      | (with_reducible exact odometerref20_record.mono _ _ _ _)
      | (with_reducible exact odometerref20_sum.mono _ _)
      | (with_reducible exact LeO.refl _)
      | (with_reducible exact LeO.none _)
      | (with_reducible refine LeO.ite ?_ ?_)
      | (with_reducible refine LeO.bind ?_ (fun _ => ?_))
      | exact ih0 _ _ _ _
      | exact ih1 _ _ _ _ _ _
      | exact ih2 _ _ _ _ _ _ _ _ _
      | exact odometerref20_May.mono _ _ _ _
      | exact odometerref20_number.mono _ _ _
      | exact odometerref20_record.mono _ _ _ _
      | exact odometerref20_sum.mono _ _
      | exact LeO.none _
      | refine LeO.ite ?_ ?_
      | refine LeO.bind ?_ (fun _ => ?_)
theorem odometerref20_Decode.mono : ∀ a0 k, LeO (odometerref20_Decode.f k a0) (odometerref20_Decode.f (k + 1) a0) := by
  intro a0 k
  obtain ⟨ih0, ih1, ih2⟩ := odometerref20_Decode.mono_l k
  unfold odometerref20_Decode.f
  repeat' first
      | (with_reducible exact ih0 _ _ _ _)
      | (with_reducible exact ih1 _ _ _ _ _ _)
      | (with_reducible exact ih2 _ _ _ _ _ _ _ _ _)
      | (with_reducible exact odometerref20_May.mono _ _ _ _)
      | (with_reducible exact odometerref20_number.mono _ _ _)
      | (with_reducible exact odometerref20_record.mono _ _ _ _)
      | (with_reducible exact odometerref20_sum.mono _ _)
      | (with_reducible exact LeO.refl _)
      | (with_reducible exact LeO.none _)
      | (with_reducible refine LeO.ite ?_ ?_)
      | (with_reducible refine LeO.bind ?_ (fun _ => ?_))
      | exact ih0 _ _ _ _
      | exact ih1 _ _ _ _ _ _
      | exact ih2 _ _ _ _ _ _ _ _ _
      | exact odometerref20_May.mono _ _ _ _
      | exact odometerref20_number.mono _ _ _
      | exact odometerref20_record.mono _ _ _ _
      | exact odometerref20_sum.mono _ _
      | exact LeO.none _
      | refine LeO.ite ?_ ?_
      | refine LeO.bind ?_ (fun _ => ?_)
end Go.Proofs.YtpihpkphhkcdlaaGreatDoor.PR
