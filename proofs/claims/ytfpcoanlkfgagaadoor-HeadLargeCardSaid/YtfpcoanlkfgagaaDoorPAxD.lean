/- Written by a program of this session (wip/tools/myprint.py) out of the translation: plain Lean functions and their walks. -/
import Derived.Test.YtfpcoanlkfgagaaDoorPAx0
import Derived.Test.YtfpcoanlkfgagaaDoorPAx7
import Derived.Test.YtfpcoanlkfgagaaDoorPAx8
import Derived.Test.YtfpcoanlkfgagaaDoorPAx9
namespace Go.Proofs.YtfpcoanlkfgagaaDoor.PA
open Go.RowKit Go.Proofs.YtfpcoanlkfgagaaDoorW.PrintWords Go.Proofs.YtfpcoanlkfgagaaDoorW.PrintLast Go.Proofs.YtfpcoanlkfgagaaDoor.Ext Go.Proofs.YtfpcoanlkfgagaaDoorW.PrintMore
attribute [local go_sem] max2_int min2_int max_two min_two max_three min_three max_four min_four   -- for this text's walks alone
set_option linter.unusedVariables false
set_option linter.unusedSimpArgs false

/-! ### odometerref06_Parse: function 22 -/
mutual
def odometerref06_Parse.j0 : Nat → ByteArray → List (S75) → Int → Int → Bool → Int → Int → Bool → Bool → Option (Int × Int × Bool × Bool × Int × Int)
 | 0, _, _, _, _, _, _, _, _, _ => none
 | k + 1, x6, x7, x8, x9, x30, x214000, x214001, x214002, x214003 => if x30 = true then (some (x214000, x214001, x214002, x214003, 0, x9)) else (if 7 < (x6.size : Int) then ((odometerref06_Values.f k x7 (⟨#[99, 111, 110, 116, 101, 110, 116, 45, 108, 101, 110, 103, 116, 104]⟩ : ByteArray)).bind fun t220 => ((odometerref06_Length.f k t220).bind fun bt223 => ((odometerref06_Values.f k x7 (⟨#[116, 114, 97, 110, 115, 102, 101, 114, 45, 101, 110, 99, 111, 100, 105, 110, 103]⟩ : ByteArray)).bind fun t225 => (if bt223.2 = true then (if bt223.1 ≥ 0 then (odometerref06_Parse.j1 k x6 x7 x8 ((bt x6 7) == 48) bt223.1 t225 (decide ((t225.length : Int) > 0)) x214000 x214001 x214002 x214003) else (odometerref06_Parse.j1 k x6 x7 x8 ((bt x6 7) == 48) bt223.1 t225 false x214000 x214001 x214002 x214003)) else (odometerref06_Parse.j1 k x6 x7 x8 ((bt x6 7) == 48) bt223.1 t225 true x214000 x214001 x214002 x214003))))) else (none))
def odometerref06_Parse.j1 : Nat → ByteArray → List (S75) → Int → Bool → Int → List ByteArray → Bool → Int → Int → Bool → Bool → Option (Int × Int × Bool × Bool × Int × Int)
 | 0, _, _, _, _, _, _, _, _, _, _, _ => none
 | k + 1, x6, x7, x8, x10, x11, x13, x54, x214000, x214001, x214002, x214003 => if x54 = true then (some (x214000, x214001, x214002, x214003, 0, 11)) else (if (x13.length : Int) > 0 then (if (x13.length : Int) > 1 then (odometerref06_Parse.j2 k x6 x7 x8 x10 x11 (decide ((x13.length : Int) > 0)) true x214000 x214001 x214002 x214003) else (if 0 < (x13.length : Int) then ((odometerref06_Small.f (rdOf ByteArray.empty x13 0)).bind fun t229 => (if t229.toList = ([99, 104, 117, 110, 107, 101, 100] : List UInt8) then (odometerref06_Parse.j2 k x6 x7 x8 x10 x11 (decide ((x13.length : Int) > 0)) x10 x214000 x214001 x214002 x214003) else (odometerref06_Parse.j2 k x6 x7 x8 x10 x11 (decide ((x13.length : Int) > 0)) true x214000 x214001 x214002 x214003))) else (none))) else (odometerref06_Parse.j2 k x6 x7 x8 x10 x11 (decide ((x13.length : Int) > 0)) false x214000 x214001 x214002 x214003))
def odometerref06_Parse.j2 : Nat → ByteArray → List (S75) → Int → Bool → Int → Bool → Bool → Int → Int → Bool → Bool → Option (Int × Int × Bool × Bool × Int × Int)
 | 0, _, _, _, _, _, _, _, _, _, _, _ => none
 | k + 1, x6, x7, x8, x10, x11, x14, x74, x214000, x214001, x214002, x214003 => if x74 = true then (some (x214000, x214001, x214002, x214003, 0, 12)) else (if 9 < (x6.size : Int) then (if 10 < (x6.size : Int) then (if 11 < (x6.size : Int) then ((odometerref06_Values.f k x7 (⟨#[99, 111, 110, 110, 101, 99, 116, 105, 111, 110]⟩ : ByteArray)).bind fun t231 => ((odometerref06_Says.f k t231 (⟨#[99, 108, 111, 115, 101]⟩ : ByteArray)).bind fun t234 => (if t234 = true then (some (((100 * (((bt x6 9) - 48) % 256)) + (10 * (((bt x6 10) - 48) % 256))) + (((bt x6 11) - 48) % 256), x11, x14, true, x8, 0)) else (if x11 < 0 then (if x14 = true then (if x10 = true then ((odometerref06_Says.f k t231 (⟨#[107, 101, 101, 112, 45, 97, 108, 105, 118, 101]⟩ : ByteArray)).bind fun t235 => (some (((100 * (((bt x6 9) - 48) % 256)) + (10 * (((bt x6 10) - 48) % 256))) + (((bt x6 11) - 48) % 256), x11, x14, !t235, x8, 0))) else (some (((100 * (((bt x6 9) - 48) % 256)) + (10 * (((bt x6 10) - 48) % 256))) + (((bt x6 11) - 48) % 256), x11, x14, false, x8, 0))) else (some (((100 * (((bt x6 9) - 48) % 256)) + (10 * (((bt x6 10) - 48) % 256))) + (((bt x6 11) - 48) % 256), x11, x14, true, x8, 0))) else (if x10 = true then ((odometerref06_Says.f k t231 (⟨#[107, 101, 101, 112, 45, 97, 108, 105, 118, 101]⟩ : ByteArray)).bind fun t236 => (some (((100 * (((bt x6 9) - 48) % 256)) + (10 * (((bt x6 10) - 48) % 256))) + (((bt x6 11) - 48) % 256), x11, x14, !t236, x8, 0))) else (some (((100 * (((bt x6 9) - 48) % 256)) + (10 * (((bt x6 10) - 48) % 256))) + (((bt x6 11) - 48) % 256), x11, x14, false, x8, 0))))))) else (none)) else (none)) else (none))
end
def odometerref06_Parse.f (k : Nat) (l0 : List Int) : Option (Int × Int × Bool × Bool × Int × Int) := (odometerref06_Read.f k l0).bind fun bt214 => (if bt214.2.2.2 = 0 then (odometerref06_Parse.j0 k bt214.1 bt214.2.1 bt214.2.2.1 bt214.2.2.2 (bt214.2.2.1 == 0) 0 0 false false) else (odometerref06_Parse.j0 k bt214.1 bt214.2.1 bt214.2.2.1 bt214.2.2.2 true 0 0 false false))
theorem odometerref06_Parse.mono_l : ∀ k, (∀ y0 y1 y2 y3 y4 y5 y6 y7 y8, LeO (odometerref06_Parse.j0 k y0 y1 y2 y3 y4 y5 y6 y7 y8) (odometerref06_Parse.j0 (k + 1) y0 y1 y2 y3 y4 y5 y6 y7 y8)) ∧ (∀ y0 y1 y2 y3 y4 y5 y6 y7 y8 y9 y10, LeO (odometerref06_Parse.j1 k y0 y1 y2 y3 y4 y5 y6 y7 y8 y9 y10) (odometerref06_Parse.j1 (k + 1) y0 y1 y2 y3 y4 y5 y6 y7 y8 y9 y10)) ∧ (∀ y0 y1 y2 y3 y4 y5 y6 y7 y8 y9 y10, LeO (odometerref06_Parse.j2 k y0 y1 y2 y3 y4 y5 y6 y7 y8 y9 y10) (odometerref06_Parse.j2 (k + 1) y0 y1 y2 y3 y4 y5 y6 y7 y8 y9 y10))
 | 0 => ⟨fun _ _ _ _ _ _ _ _ _ r h => by simp [odometerref06_Parse.j0] at h, fun _ _ _ _ _ _ _ _ _ _ _ r h => by simp [odometerref06_Parse.j1] at h, fun _ _ _ _ _ _ _ _ _ _ _ r h => by simp [odometerref06_Parse.j2] at h⟩
 | k + 1 => by
  obtain ⟨ih0, ih1, ih2⟩ := odometerref06_Parse.mono_l k
  refine ⟨?_, ?_, ?_⟩
  ·intro y0 y1 y2 y3 y4 y5 y6 y7 y8
   unfold odometerref06_Parse.j0
   repeat' first
   | (with_reducible exact ih0 _ _ _ _ _ _ _ _ _)
   | (with_reducible exact ih1 _ _ _ _ _ _ _ _ _ _ _)
   | (with_reducible exact ih2 _ _ _ _ _ _ _ _ _ _ _)
   | (with_reducible exact odometerref06_Length.mono _ _)
   | (with_reducible exact odometerref06_Read.mono _ _)
   | (with_reducible exact odometerref06_Says.mono _ _ _)
   | (with_reducible exact odometerref06_Values.mono _ _ _)
   | (with_reducible exact LeO.refl _)
   | (with_reducible exact LeO.none _)
   | (with_reducible refine LeO.ite ?_ ?_)
   | (with_reducible refine LeO.bind ?_ (fun _ => ?_))
   | exact ih0 _ _ _ _ _ _ _ _ _
   | exact ih1 _ _ _ _ _ _ _ _ _ _ _
   | exact ih2 _ _ _ _ _ _ _ _ _ _ _
   | exact odometerref06_Length.mono _ _
   | exact odometerref06_Read.mono _ _
   | exact odometerref06_Says.mono _ _ _
   | exact odometerref06_Values.mono _ _ _
   | exact LeO.none _
   | refine LeO.ite ?_ ?_
   | refine LeO.bind ?_ (fun _ => ?_)
  ·intro y0 y1 y2 y3 y4 y5 y6 y7 y8 y9 y10
   unfold odometerref06_Parse.j1
   repeat' first
   | (with_reducible exact ih0 _ _ _ _ _ _ _ _ _)
   | (with_reducible exact ih1 _ _ _ _ _ _ _ _ _ _ _)
   | (with_reducible exact ih2 _ _ _ _ _ _ _ _ _ _ _)
   | (with_reducible exact odometerref06_Length.mono _ _)
   | (with_reducible exact odometerref06_Read.mono _ _)
   | (with_reducible exact odometerref06_Says.mono _ _ _)
   | (with_reducible exact odometerref06_Values.mono _ _ _)
   | (with_reducible exact LeO.refl _)
   | (with_reducible exact LeO.none _)
   | (with_reducible refine LeO.ite ?_ ?_)
   | (with_reducible refine LeO.bind ?_ (fun _ => ?_))
   | exact ih0 _ _ _ _ _ _ _ _ _
   | exact ih1 _ _ _ _ _ _ _ _ _ _ _
   | exact ih2 _ _ _ _ _ _ _ _ _ _ _
   | exact odometerref06_Length.mono _ _
   | exact odometerref06_Read.mono _ _
   | exact odometerref06_Says.mono _ _ _
   | exact odometerref06_Values.mono _ _ _
   | exact LeO.none _
   | refine LeO.ite ?_ ?_
   | refine LeO.bind ?_ (fun _ => ?_)
  ·intro y0 y1 y2 y3 y4 y5 y6 y7 y8 y9 y10
   unfold odometerref06_Parse.j2
   repeat' first
   | (with_reducible exact ih0 _ _ _ _ _ _ _ _ _)
   | (with_reducible exact ih1 _ _ _ _ _ _ _ _ _ _ _)
   | (with_reducible exact ih2 _ _ _ _ _ _ _ _ _ _ _)
   | (with_reducible exact odometerref06_Length.mono _ _)
   | (with_reducible exact odometerref06_Read.mono _ _)
   | (with_reducible exact odometerref06_Says.mono _ _ _)
   | (with_reducible exact odometerref06_Values.mono _ _ _)
   | (with_reducible exact LeO.refl _)
   | (with_reducible exact LeO.none _)
   | (with_reducible refine LeO.ite ?_ ?_)
   | (with_reducible refine LeO.bind ?_ (fun _ => ?_))
   | exact ih0 _ _ _ _ _ _ _ _ _
   | exact ih1 _ _ _ _ _ _ _ _ _ _ _
   | exact ih2 _ _ _ _ _ _ _ _ _ _ _
   | exact odometerref06_Length.mono _ _
   | exact odometerref06_Read.mono _ _
   | exact odometerref06_Says.mono _ _ _
   | exact odometerref06_Values.mono _ _ _
   | exact LeO.none _
   | refine LeO.ite ?_ ?_
   | refine LeO.bind ?_ (fun _ => ?_)
theorem odometerref06_Parse.mono : ∀ a0 k, LeO (odometerref06_Parse.f k a0) (odometerref06_Parse.f (k + 1) a0) := by
 intro a0 k
 obtain ⟨ih0, ih1, ih2⟩ := odometerref06_Parse.mono_l k
 unfold odometerref06_Parse.f
 repeat' first
   | (with_reducible exact ih0 _ _ _ _ _ _ _ _ _)
   | (with_reducible exact ih1 _ _ _ _ _ _ _ _ _ _ _)
   | (with_reducible exact ih2 _ _ _ _ _ _ _ _ _ _ _)
   | (with_reducible exact odometerref06_Length.mono _ _)
   | (with_reducible exact odometerref06_Read.mono _ _)
   | (with_reducible exact odometerref06_Says.mono _ _ _)
   | (with_reducible exact odometerref06_Values.mono _ _ _)
   | (with_reducible exact LeO.refl _)
   | (with_reducible exact LeO.none _)
   | (with_reducible refine LeO.ite ?_ ?_)
   | (with_reducible refine LeO.bind ?_ (fun _ => ?_))
   | exact ih0 _ _ _ _ _ _ _ _ _
   | exact ih1 _ _ _ _ _ _ _ _ _ _ _
   | exact ih2 _ _ _ _ _ _ _ _ _ _ _
   | exact odometerref06_Length.mono _ _
   | exact odometerref06_Read.mono _ _
   | exact odometerref06_Says.mono _ _ _
   | exact odometerref06_Values.mono _ _ _
   | exact LeO.none _
   | refine LeO.ite ?_ ?_
   | refine LeO.bind ?_ (fun _ => ?_)
def odometerref06_Parse.T13 : Bool × List (List Nat × List Nat) := (true, [([], []), ([0], [0]), ([1], [1]), ([2], [2]), ([3], [3]), ([], []), ([5], [5]), ([6], [6]), ([7], [7]), ([8], [8]), ([4, 9], [4, 9]), ([], []), ([11], [11]), ([12], [12]), ([13], [13]), ([10, 14], [10, 14]), ([], []), ([], []), ([15, 16, 17], [15, 16, 17]), ([], []), ([19, 18, 0, 1, 2, 3, 4, 5, 6, 7, 8, 9, 10, 11, 12, 13, 14, 15, 16, 17, 18, 19], [18, 19])])
def odometerref06_Parse.B13 : List Nat := [0, 1, 3, 7, 15, 0, 32, 96, 224, 480, 1023, 0, 2048, 6144, 14336, 32767, 0, 0, 262143, 0, 1048575]
theorem odometerref06_Parse.tab13 : rtab .any (opsOf Tryd.f22 13) = odometerref06_Parse.T13 := by kernel_rfl
theorem odometerref06_Parse.bits13 : waitsOk odometerref06_Parse.T13.2 odometerref06_Parse.B13 = true := by kernel_rfl
end Go.Proofs.YtfpcoanlkfgagaaDoor.PA
