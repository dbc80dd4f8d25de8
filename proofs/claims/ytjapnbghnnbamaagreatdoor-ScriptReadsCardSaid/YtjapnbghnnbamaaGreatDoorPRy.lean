/- Written by a program of this session (wip/tools/myprint.py) out of the translation: plain Lean functions and their walks. -/
import Derived.Test.YtjapnbghnnbamaaGreatDoorPRx0
import Derived.Test.YtjapnbghnnbamaaGreatDoorPRx5
import Derived.Test.YtjapnbghnnbamaaGreatDoorPRx6
namespace Go.Proofs.YtjapnbghnnbamaaGreatDoor.PR
open Go.RowKit Go.Proofs.YtjapnbghnnbamaaGreatDoorW.PrintWords Go.Proofs.YtjapnbghnnbamaaGreatDoorW.PrintLast Go.Proofs.YtjapnbghnnbamaaGreatDoor.Ext Go.Proofs.YtjapnbghnnbamaaGreatDoorW.PrintMore
attribute [local go_sem] max2_int min2_int max_two min_two max_three min_three max_four min_four   -- for this text's walks alone
set_option linter.unusedVariables false
set_option linter.unusedSimpArgs false

/-! ### odometerref23_Same: function 8 -/
def odometerref23_Same.l0 : Nat → List (S35) → List (S35) → Int → Option (Bool)
 | 0, _, _, _ => none
 | k + 1, x0, x1, x5 => if x5 < (x0.length : Int) then (if 0 ≤ x5 then (if x5 < (x1.length : Int) then (if ((rd_T35 x0 x5).f0) = ((rd_T35 x1 x5).f0) then (if ((rd_T35 x0 x5).f1) = ((rd_T35 x1 x5).f1) then (if ((rd_T35 x0 x5).f2) = ((rd_T35 x1 x5).f2) then (if (strOfNums ((rd_T35 x0 x5).f3)).toList = (strOfNums ((rd_T35 x1 x5).f3)).toList then (odometerref23_Same.l0 k x0 x1 (wrap64 (x5 + 1))) else (some false)) else (some false)) else (some false)) else (some false)) else (none)) else (none)) else (some true)
def odometerref23_Same.f (k : Nat) (l0 : List (S35)) (l1 : List (S35)) : Option (Bool) := if (l0.length : Int) = (l1.length : Int) then (odometerref23_Same.l0 k l0 l1 0) else (some false)
theorem odometerref23_Same.mono_l : ∀ k, (∀ y0 y1 y2, LeO (odometerref23_Same.l0 k y0 y1 y2) (odometerref23_Same.l0 (k + 1) y0 y1 y2))
 | 0 => fun _ _ _ r h => by simp [odometerref23_Same.l0] at h
 | k + 1 => by
  have ih0 := odometerref23_Same.mono_l k
  ·intro y0 y1 y2
   unfold odometerref23_Same.l0
   repeat' first
   | (with_reducible exact ih0 _ _ _)
   | (with_reducible exact LeO.refl _)
   | (with_reducible exact LeO.none _)
   | (with_reducible refine LeO.ite ?_ ?_)
   | (with_reducible refine LeO.bind ?_ (fun _ => ?_))
   | exact ih0 _ _ _
   | exact LeO.none _
   | refine LeO.ite ?_ ?_
   | refine LeO.bind ?_ (fun _ => ?_)
theorem odometerref23_Same.mono : ∀ a0 a1 k, LeO (odometerref23_Same.f k a0 a1) (odometerref23_Same.f (k + 1) a0 a1) := by
 intro a0 a1 k
 have ih0 := odometerref23_Same.mono_l k
 unfold odometerref23_Same.f
 repeat' first
   | (with_reducible exact ih0 _ _ _)
   | (with_reducible exact LeO.refl _)
   | (with_reducible exact LeO.none _)
   | (with_reducible refine LeO.ite ?_ ?_)
   | (with_reducible refine LeO.bind ?_ (fun _ => ?_))
   | exact ih0 _ _ _
   | exact LeO.none _
   | refine LeO.ite ?_ ?_
   | refine LeO.bind ?_ (fun _ => ?_)
set_option maxHeartbeats 8000000 in
set_option maxRecDepth 100000 in
theorem odometerref23_Same.calls (k : Nat) (A0 : Option Addr) (c0 : Nat) (l0 : List (S35)) (A1 : Option Addr) (c1 : Nat) (l1 : List (S35)) (r : Bool) (w : World) (hr0 : Kd.C k35 w A0 l0.length l0) (hc0 : l0.length ≤ c0) (hr1 : Kd.C k35 w A1 l1.length l1) (hc1 : l1.length ≤ c1) (h : odometerref23_Same.f k l0 l1 = some r) :
  Calls Tryz.prog 8 #[.slice A0 l0.length c0, .slice A1 l1.length c1] w fun e w' => e = .returned (.bool r) ∧ Drawn0 w w' := by
 have HR0 := Aside0.mk hr0
 have HC0 := Aside0.mk hc0
 clear hr0 hc0
 have HR1 := Aside0.mk hr1
 have HC1 := Aside0.mk hc1
 clear hr1 hc1
 have H : (if (l0.length : Int) = (l1.length : Int) then (odometerref23_Same.l0 k l0 l1 0) else (some false)) = some r := h
 clear h
 by_cases c3 : (l0.length : Int) = (l1.length : Int)
 ·rw [if_pos c3] at H
  have c3b0 : ((l0.length : Int) == (l1.length : Int)) = true := beq_iff_eq.mpr c3
  have c3b1 : ((l0.length : Int) != (l1.length : Int)) = false := bne_eq_false_iff_eq.mpr c3
  have c3b2 : (l0.length == l1.length) = true := by first | simpa using c3 | (simp at c3 ⊢; omega)
  clear c3
  have H' := Aside0.mk H
  clear H
  go_enter Tryz.func8, Tryz.ntmps8
  go_wp2
  repeat (go_quiet (fail); try go_wp2)
  go_loopg [5] k (fun kq v5 w' => ∃ (x5_1 : Int), v5 = .int .i64 x5_1 ∧ Aside0 (odometerref23_Same.l0 kq l0 l1 x5_1 = some r) ∧ Aside0 (kq ≤ k) ∧ Drawn0 w w')
  case atStart => exact ⟨(0), (by first | rfl | (simp; done) | (simp [*]; done)), H', ⟨Nat.le_refl _⟩, by repeat (first | exact Drawn0.refl _ | apply Drawn0.step)⟩
  case round =>
   clear H'
   try clear c1
   try clear p2
   try clear c3
   try clear c3b0
   try clear c3b1
   try clear c3b2
   obtain ⟨x5_1, rfl, HA, HK1, ⟨m1, rfl⟩⟩ := hrel
   cases gk with
   | zero => exact absurd HA.out (by simp [odometerref23_Same.l0])
   | succ k1 =>
    have H := HA.out
    clear HA
    simp only [odometerref23_Same.l0] at H
    by_cases c4 : x5_1 < (l0.length : Int)
    ·rw [if_pos c4] at H
     have c4b0 : decide (x5_1 < (l0.length : Int)) = true := decide_eq_true c4
     clear c4
     by_cases c5 : 0 ≤ x5_1
     ·rw [if_pos c5] at H
      have c5b0 : decide (0 ≤ x5_1) = true := decide_eq_true c5
      clear c5
      by_cases c6 : x5_1 < (l1.length : Int)
      ·rw [if_pos c6] at H
       have c6b0 : decide (x5_1 < (l1.length : Int)) = true := decide_eq_true c6
       clear c6
       by_cases c7 : ((rd_T35 l0 x5_1).f0) = ((rd_T35 l1 x5_1).f0)
       ·rw [if_pos c7] at H
        have c7b0 : (((rd_T35 l0 x5_1).f0) == ((rd_T35 l1 x5_1).f0)) = true := beq_iff_eq.mpr c7
        have c7b1 : (((rd_T35 l0 x5_1).f0) != ((rd_T35 l1 x5_1).f0)) = false := bne_eq_false_iff_eq.mpr c7
        clear c7
        by_cases c8 : ((rd_T35 l0 x5_1).f1) = ((rd_T35 l1 x5_1).f1)
        ·rw [if_pos c8] at H
         have c8b0 : (((rd_T35 l0 x5_1).f1) == ((rd_T35 l1 x5_1).f1)) = true := beq_iff_eq.mpr c8
         have c8b1 : (((rd_T35 l0 x5_1).f1) != ((rd_T35 l1 x5_1).f1)) = false := bne_eq_false_iff_eq.mpr c8
         clear c8
         by_cases c9 : ((rd_T35 l0 x5_1).f2) = ((rd_T35 l1 x5_1).f2)
         ·rw [if_pos c9] at H
          have c9b0 : (((rd_T35 l0 x5_1).f2) == ((rd_T35 l1 x5_1).f2)) = true := beq_iff_eq.mpr c9
          have c9b1 : (((rd_T35 l0 x5_1).f2) != ((rd_T35 l1 x5_1).f2)) = false := bne_eq_false_iff_eq.mpr c9
          clear c9
          by_cases c10 : (strOfNums ((rd_T35 l0 x5_1).f3)).toList = (strOfNums ((rd_T35 l1 x5_1).f3)).toList
          ·rw [if_pos c10] at H
           have c10b0 : ((strOfNums ((rd_T35 l0 x5_1).f3)).toList == (strOfNums ((rd_T35 l1 x5_1).f3)).toList) = true := beq_iff_eq.mpr c10
           have c10b1 : ((strOfNums ((rd_T35 l0 x5_1).f3)).toList != (strOfNums ((rd_T35 l1 x5_1).f3)).toList) = false := bne_eq_false_iff_eq.mpr c10
           clear c10
           have H' := Aside0.mk H
           clear H
           have p223 : 0 ≤ (x5_1 : Int) := of_decide_eq_true (by first | (with_reducible assumption) | assumption)
           have q223 : x5_1 < (l0.length : Int) := of_decide_eq_true (by first | (with_reducible assumption) | assumption)
           obtain ⟨ad223, A223_3, c223_3, e223, hx223_0, hx223_1, hx223_2, hx223_3, hl223_3, hi223_3⟩ := at_T35 HR0.out x5_1 p223 q223
           cases e223
           have HR223_3 := Aside0.mk hi223_3
           have HC223_3 := Aside0.mk hl223_3
           clear hi223_3 hl223_3
           replace p223 := eq_true p223
           replace q223 := eq_true q223
           have p224 : 0 ≤ (x5_1 : Int) := of_decide_eq_true (by first | (with_reducible assumption) | assumption)
           have q224 : x5_1 < (l1.length : Int) := of_decide_eq_true (by first | (with_reducible assumption) | assumption)
           obtain ⟨ad224, A224_3, c224_3, e224, hx224_0, hx224_1, hx224_2, hx224_3, hl224_3, hi224_3⟩ := at_T35 HR1.out x5_1 p224 q224
           cases e224
           have HR224_3 := Aside0.mk hi224_3
           have HC224_3 := Aside0.mk hl224_3
           clear hi224_3 hl224_3
           replace p224 := eq_true p224
           replace q224 := eq_true q224
           have p225 : 0 ≤ (x5_1 : Int) := of_decide_eq_true (by first | (with_reducible assumption) | assumption)
           have q225 : x5_1 < (l0.length : Int) := of_decide_eq_true (by first | (with_reducible assumption) | assumption)
           obtain ⟨ad225, A225_3, c225_3, e225, hx225_0, hx225_1, hx225_2, hx225_3, hl225_3, hi225_3⟩ := at_T35 HR0.out x5_1 p225 q225
           obtain rfl : ad223 = ad225 := (by injection e225)
           have HR225_3 := Aside0.mk hi225_3
           have HC225_3 := Aside0.mk hl225_3
           clear hi225_3 hl225_3
           replace p225 := eq_true p225
           replace q225 := eq_true q225
           have ea_ := Option.some.inj (hx223_3.symm.trans hx225_3)
           injection ea_ with ea_ en_ ec_
           subst ea_
           subst ec_
           clear en_
           have p226 : 0 ≤ (x5_1 : Int) := of_decide_eq_true (by first | (with_reducible assumption) | assumption)
           have q226 : x5_1 < (l1.length : Int) := of_decide_eq_true (by first | (with_reducible assumption) | assumption)
           obtain ⟨ad226, A226_3, c226_3, e226, hx226_0, hx226_1, hx226_2, hx226_3, hl226_3, hi226_3⟩ := at_T35 HR1.out x5_1 p226 q226
           obtain rfl : ad224 = ad226 := (by injection e226)
           have HR226_3 := Aside0.mk hi226_3
           have HC226_3 := Aside0.mk hl226_3
           clear hi226_3 hl226_3
           replace p226 := eq_true p226
           replace q226 := eq_true q226
           have ea_ := Option.some.inj (hx224_3.symm.trans hx226_3)
           injection ea_ with ea_ en_ ec_
           subst ea_
           subst ec_
           clear en_
           have p227 : 0 ≤ (x5_1 : Int) := of_decide_eq_true (by first | (with_reducible assumption) | assumption)
           have q227 : x5_1 < (l0.length : Int) := of_decide_eq_true (by first | (with_reducible assumption) | assumption)
           obtain ⟨ad227, A227_3, c227_3, e227, hx227_0, hx227_1, hx227_2, hx227_3, hl227_3, hi227_3⟩ := at_T35 HR0.out x5_1 p227 q227
           obtain rfl : ad223 = ad227 := (by injection e227)
           have HR227_3 := Aside0.mk hi227_3
           have HC227_3 := Aside0.mk hl227_3
           clear hi227_3 hl227_3
           replace p227 := eq_true p227
           replace q227 := eq_true q227
           have ea_ := Option.some.inj (hx223_3.symm.trans hx227_3)
           injection ea_ with ea_ en_ ec_
           subst ea_
           subst ec_
           clear en_
           have p228 : 0 ≤ (x5_1 : Int) := of_decide_eq_true (by first | (with_reducible assumption) | assumption)
           have q228 : x5_1 < (l1.length : Int) := of_decide_eq_true (by first | (with_reducible assumption) | assumption)
           obtain ⟨ad228, A228_3, c228_3, e228, hx228_0, hx228_1, hx228_2, hx228_3, hl228_3, hi228_3⟩ := at_T35 HR1.out x5_1 p228 q228
           obtain rfl : ad224 = ad228 := (by injection e228)
           have HR228_3 := Aside0.mk hi228_3
           have HC228_3 := Aside0.mk hl228_3
           clear hi228_3 hl228_3
           replace p228 := eq_true p228
           replace q228 := eq_true q228
           have ea_ := Option.some.inj (hx224_3.symm.trans hx228_3)
           injection ea_ with ea_ en_ ec_
           subst ea_
           subst ec_
           clear en_
           have p229 : 0 ≤ (x5_1 : Int) := of_decide_eq_true (by first | (with_reducible assumption) | assumption)
           have q229 : x5_1 < (l0.length : Int) := of_decide_eq_true (by first | (with_reducible assumption) | assumption)
           obtain ⟨ad229, A229_3, c229_3, e229, hx229_0, hx229_1, hx229_2, hx229_3, hl229_3, hi229_3⟩ := at_T35 HR0.out x5_1 p229 q229
           obtain rfl : ad223 = ad229 := (by injection e229)
           have HR229_3 := Aside0.mk hi229_3
           have HC229_3 := Aside0.mk hl229_3
           clear hi229_3 hl229_3
           replace p229 := eq_true p229
           replace q229 := eq_true q229
           have ea_ := Option.some.inj (hx223_3.symm.trans hx229_3)
           injection ea_ with ea_ en_ ec_
           subst ea_
           subst ec_
           clear en_
           have hcv11 := C_string0 (P := Tryz.prog) (A := A223_3) (c := c223_3) Tryz.underlying33 Tryz.underlying5 Tryz.underlying9 HR229_3.out
           have hcq11 := C_stringN (P := Tryz.prog) (A := A223_3) (c := c223_3) Tryz.underlying33 Tryz.underlying5 Tryz.underlying9 HR229_3.out
           have p230 : 0 ≤ (x5_1 : Int) := of_decide_eq_true (by first | (with_reducible assumption) | assumption)
           have q230 : x5_1 < (l1.length : Int) := of_decide_eq_true (by first | (with_reducible assumption) | assumption)
           obtain ⟨ad230, A230_3, c230_3, e230, hx230_0, hx230_1, hx230_2, hx230_3, hl230_3, hi230_3⟩ := at_T35 HR1.out x5_1 p230 q230
           obtain rfl : ad224 = ad230 := (by injection e230)
           have HR230_3 := Aside0.mk hi230_3
           have HC230_3 := Aside0.mk hl230_3
           clear hi230_3 hl230_3
           replace p230 := eq_true p230
           replace q230 := eq_true q230
           have ea_ := Option.some.inj (hx224_3.symm.trans hx230_3)
           injection ea_ with ea_ en_ ec_
           subst ea_
           subst ec_
           clear en_
           have hcv12 := C_string0 (P := Tryz.prog) (A := A224_3) (c := c224_3) Tryz.underlying33 Tryz.underlying5 Tryz.underlying9 HR230_3.out
           have hcq12 := C_stringN (P := Tryz.prog) (A := A224_3) (c := c224_3) Tryz.underlying33 Tryz.underlying5 Tryz.underlying9 HR230_3.out
           go_wp2
           repeat (go_quiet (fail); try go_wp2)
           go_roundg k1
           case measure => have := HK1.out; omega
           case rel => exact ⟨(wrap64 (x5_1 + 1)), (by first | rfl | (simp; done) | (simp [*]; done)), H', ⟨by have := HK1.out; omega⟩, by repeat (first | exact Drawn0.refl _ | apply Drawn0.step)⟩
          ·rw [if_neg c10] at H
           have c10b0 : ((strOfNums ((rd_T35 l0 x5_1).f3)).toList == (strOfNums ((rd_T35 l1 x5_1).f3)).toList) = false := beq_eq_false_iff_ne.mpr c10
           have c10b1 : ((strOfNums ((rd_T35 l0 x5_1).f3)).toList != (strOfNums ((rd_T35 l1 x5_1).f3)).toList) = true := bne_iff_ne.mpr c10
           obtain rfl := Option.some.inj H
           have p223 : 0 ≤ (x5_1 : Int) := of_decide_eq_true (by first | (with_reducible assumption) | assumption)
           have q223 : x5_1 < (l0.length : Int) := of_decide_eq_true (by first | (with_reducible assumption) | assumption)
           obtain ⟨ad223, A223_3, c223_3, e223, hx223_0, hx223_1, hx223_2, hx223_3, hl223_3, hi223_3⟩ := at_T35 HR0.out x5_1 p223 q223
           cases e223
           have HR223_3 := Aside0.mk hi223_3
           have HC223_3 := Aside0.mk hl223_3
           clear hi223_3 hl223_3
           replace p223 := eq_true p223
           replace q223 := eq_true q223
           have p224 : 0 ≤ (x5_1 : Int) := of_decide_eq_true (by first | (with_reducible assumption) | assumption)
           have q224 : x5_1 < (l1.length : Int) := of_decide_eq_true (by first | (with_reducible assumption) | assumption)
           obtain ⟨ad224, A224_3, c224_3, e224, hx224_0, hx224_1, hx224_2, hx224_3, hl224_3, hi224_3⟩ := at_T35 HR1.out x5_1 p224 q224
           cases e224
           have HR224_3 := Aside0.mk hi224_3
           have HC224_3 := Aside0.mk hl224_3
           clear hi224_3 hl224_3
           replace p224 := eq_true p224
           replace q224 := eq_true q224
           have p225 : 0 ≤ (x5_1 : Int) := of_decide_eq_true (by first | (with_reducible assumption) | assumption)
           have q225 : x5_1 < (l0.length : Int) := of_decide_eq_true (by first | (with_reducible assumption) | assumption)
           obtain ⟨ad225, A225_3, c225_3, e225, hx225_0, hx225_1, hx225_2, hx225_3, hl225_3, hi225_3⟩ := at_T35 HR0.out x5_1 p225 q225
           obtain rfl : ad223 = ad225 := (by injection e225)
           have HR225_3 := Aside0.mk hi225_3
           have HC225_3 := Aside0.mk hl225_3
           clear hi225_3 hl225_3
           replace p225 := eq_true p225
           replace q225 := eq_true q225
           have ea_ := Option.some.inj (hx223_3.symm.trans hx225_3)
           injection ea_ with ea_ en_ ec_
           subst ea_
           subst ec_
           clear en_
           have p226 : 0 ≤ (x5_1 : Int) := of_decide_eq_true (by first | (with_reducible assumption) | assumption)
           have q226 : x5_1 < (l1.length : Int) := of_decide_eq_true (by first | (with_reducible assumption) | assumption)
           obtain ⟨ad226, A226_3, c226_3, e226, hx226_0, hx226_1, hx226_2, hx226_3, hl226_3, hi226_3⟩ := at_T35 HR1.out x5_1 p226 q226
           obtain rfl : ad224 = ad226 := (by injection e226)
           have HR226_3 := Aside0.mk hi226_3
           have HC226_3 := Aside0.mk hl226_3
           clear hi226_3 hl226_3
           replace p226 := eq_true p226
           replace q226 := eq_true q226
           have ea_ := Option.some.inj (hx224_3.symm.trans hx226_3)
           injection ea_ with ea_ en_ ec_
           subst ea_
           subst ec_
           clear en_
           have p227 : 0 ≤ (x5_1 : Int) := of_decide_eq_true (by first | (with_reducible assumption) | assumption)
           have q227 : x5_1 < (l0.length : Int) := of_decide_eq_true (by first | (with_reducible assumption) | assumption)
           obtain ⟨ad227, A227_3, c227_3, e227, hx227_0, hx227_1, hx227_2, hx227_3, hl227_3, hi227_3⟩ := at_T35 HR0.out x5_1 p227 q227
           obtain rfl : ad223 = ad227 := (by injection e227)
           have HR227_3 := Aside0.mk hi227_3
           have HC227_3 := Aside0.mk hl227_3
           clear hi227_3 hl227_3
           replace p227 := eq_true p227
           replace q227 := eq_true q227
           have ea_ := Option.some.inj (hx223_3.symm.trans hx227_3)
           injection ea_ with ea_ en_ ec_
           subst ea_
           subst ec_
           clear en_
           have p228 : 0 ≤ (x5_1 : Int) := of_decide_eq_true (by first | (with_reducible assumption) | assumption)
           have q228 : x5_1 < (l1.length : Int) := of_decide_eq_true (by first | (with_reducible assumption) | assumption)
           obtain ⟨ad228, A228_3, c228_3, e228, hx228_0, hx228_1, hx228_2, hx228_3, hl228_3, hi228_3⟩ := at_T35 HR1.out x5_1 p228 q228
           obtain rfl : ad224 = ad228 := (by injection e228)
           have HR228_3 := Aside0.mk hi228_3
           have HC228_3 := Aside0.mk hl228_3
           clear hi228_3 hl228_3
           replace p228 := eq_true p228
           replace q228 := eq_true q228
           have ea_ := Option.some.inj (hx224_3.symm.trans hx228_3)
           injection ea_ with ea_ en_ ec_
           subst ea_
           subst ec_
           clear en_
           have p229 : 0 ≤ (x5_1 : Int) := of_decide_eq_true (by first | (with_reducible assumption) | assumption)
           have q229 : x5_1 < (l0.length : Int) := of_decide_eq_true (by first | (with_reducible assumption) | assumption)
           obtain ⟨ad229, A229_3, c229_3, e229, hx229_0, hx229_1, hx229_2, hx229_3, hl229_3, hi229_3⟩ := at_T35 HR0.out x5_1 p229 q229
           obtain rfl : ad223 = ad229 := (by injection e229)
           have HR229_3 := Aside0.mk hi229_3
           have HC229_3 := Aside0.mk hl229_3
           clear hi229_3 hl229_3
           replace p229 := eq_true p229
           replace q229 := eq_true q229
           have ea_ := Option.some.inj (hx223_3.symm.trans hx229_3)
           injection ea_ with ea_ en_ ec_
           subst ea_
           subst ec_
           clear en_
           have hcv13 := C_string0 (P := Tryz.prog) (A := A223_3) (c := c223_3) Tryz.underlying33 Tryz.underlying5 Tryz.underlying9 HR229_3.out
           have hcq13 := C_stringN (P := Tryz.prog) (A := A223_3) (c := c223_3) Tryz.underlying33 Tryz.underlying5 Tryz.underlying9 HR229_3.out
           have p230 : 0 ≤ (x5_1 : Int) := of_decide_eq_true (by first | (with_reducible assumption) | assumption)
           have q230 : x5_1 < (l1.length : Int) := of_decide_eq_true (by first | (with_reducible assumption) | assumption)
           obtain ⟨ad230, A230_3, c230_3, e230, hx230_0, hx230_1, hx230_2, hx230_3, hl230_3, hi230_3⟩ := at_T35 HR1.out x5_1 p230 q230
           obtain rfl : ad224 = ad230 := (by injection e230)
           have HR230_3 := Aside0.mk hi230_3
           have HC230_3 := Aside0.mk hl230_3
           clear hi230_3 hl230_3
           replace p230 := eq_true p230
           replace q230 := eq_true q230
           have ea_ := Option.some.inj (hx224_3.symm.trans hx230_3)
           injection ea_ with ea_ en_ ec_
           subst ea_
           subst ec_
           clear en_
           have hcv14 := C_string0 (P := Tryz.prog) (A := A224_3) (c := c224_3) Tryz.underlying33 Tryz.underlying5 Tryz.underlying9 HR230_3.out
           have hcq14 := C_stringN (P := Tryz.prog) (A := A224_3) (c := c224_3) Tryz.underlying33 Tryz.underlying5 Tryz.underlying9 HR230_3.out
           go_wp2
           repeat (go_quiet (fail); try go_wp2)
           go_ret
           exact ⟨by first | rfl | (simp; done) | (simp [*]; done), by repeat (first | exact Drawn0.refl _ | apply Drawn0.step)⟩
         ·rw [if_neg c9] at H
          have c9b0 : (((rd_T35 l0 x5_1).f2) == ((rd_T35 l1 x5_1).f2)) = false := beq_eq_false_iff_ne.mpr c9
          have c9b1 : (((rd_T35 l0 x5_1).f2) != ((rd_T35 l1 x5_1).f2)) = true := bne_iff_ne.mpr c9
          obtain rfl := Option.some.inj H
          have p223 : 0 ≤ (x5_1 : Int) := of_decide_eq_true (by first | (with_reducible assumption) | assumption)
          have q223 : x5_1 < (l0.length : Int) := of_decide_eq_true (by first | (with_reducible assumption) | assumption)
          obtain ⟨ad223, A223_3, c223_3, e223, hx223_0, hx223_1, hx223_2, hx223_3, hl223_3, hi223_3⟩ := at_T35 HR0.out x5_1 p223 q223
          cases e223
          have HR223_3 := Aside0.mk hi223_3
          have HC223_3 := Aside0.mk hl223_3
          clear hi223_3 hl223_3
          replace p223 := eq_true p223
          replace q223 := eq_true q223
          have p224 : 0 ≤ (x5_1 : Int) := of_decide_eq_true (by first | (with_reducible assumption) | assumption)
          have q224 : x5_1 < (l1.length : Int) := of_decide_eq_true (by first | (with_reducible assumption) | assumption)
          obtain ⟨ad224, A224_3, c224_3, e224, hx224_0, hx224_1, hx224_2, hx224_3, hl224_3, hi224_3⟩ := at_T35 HR1.out x5_1 p224 q224
          cases e224
          have HR224_3 := Aside0.mk hi224_3
          have HC224_3 := Aside0.mk hl224_3
          clear hi224_3 hl224_3
          replace p224 := eq_true p224
          replace q224 := eq_true q224
          have p225 : 0 ≤ (x5_1 : Int) := of_decide_eq_true (by first | (with_reducible assumption) | assumption)
          have q225 : x5_1 < (l0.length : Int) := of_decide_eq_true (by first | (with_reducible assumption) | assumption)
          obtain ⟨ad225, A225_3, c225_3, e225, hx225_0, hx225_1, hx225_2, hx225_3, hl225_3, hi225_3⟩ := at_T35 HR0.out x5_1 p225 q225
          obtain rfl : ad223 = ad225 := (by injection e225)
          have HR225_3 := Aside0.mk hi225_3
          have HC225_3 := Aside0.mk hl225_3
          clear hi225_3 hl225_3
          replace p225 := eq_true p225
          replace q225 := eq_true q225
          have ea_ := Option.some.inj (hx223_3.symm.trans hx225_3)
          injection ea_ with ea_ en_ ec_
          subst ea_
          subst ec_
          clear en_
          have p226 : 0 ≤ (x5_1 : Int) := of_decide_eq_true (by first | (with_reducible assumption) | assumption)
          have q226 : x5_1 < (l1.length : Int) := of_decide_eq_true (by first | (with_reducible assumption) | assumption)
          obtain ⟨ad226, A226_3, c226_3, e226, hx226_0, hx226_1, hx226_2, hx226_3, hl226_3, hi226_3⟩ := at_T35 HR1.out x5_1 p226 q226
          obtain rfl : ad224 = ad226 := (by injection e226)
          have HR226_3 := Aside0.mk hi226_3
          have HC226_3 := Aside0.mk hl226_3
          clear hi226_3 hl226_3
          replace p226 := eq_true p226
          replace q226 := eq_true q226
          have ea_ := Option.some.inj (hx224_3.symm.trans hx226_3)
          injection ea_ with ea_ en_ ec_
          subst ea_
          subst ec_
          clear en_
          have p227 : 0 ≤ (x5_1 : Int) := of_decide_eq_true (by first | (with_reducible assumption) | assumption)
          have q227 : x5_1 < (l0.length : Int) := of_decide_eq_true (by first | (with_reducible assumption) | assumption)
          obtain ⟨ad227, A227_3, c227_3, e227, hx227_0, hx227_1, hx227_2, hx227_3, hl227_3, hi227_3⟩ := at_T35 HR0.out x5_1 p227 q227
          obtain rfl : ad223 = ad227 := (by injection e227)
          have HR227_3 := Aside0.mk hi227_3
          have HC227_3 := Aside0.mk hl227_3
          clear hi227_3 hl227_3
          replace p227 := eq_true p227
          replace q227 := eq_true q227
          have ea_ := Option.some.inj (hx223_3.symm.trans hx227_3)
          injection ea_ with ea_ en_ ec_
          subst ea_
          subst ec_
          clear en_
          have p228 : 0 ≤ (x5_1 : Int) := of_decide_eq_true (by first | (with_reducible assumption) | assumption)
          have q228 : x5_1 < (l1.length : Int) := of_decide_eq_true (by first | (with_reducible assumption) | assumption)
          obtain ⟨ad228, A228_3, c228_3, e228, hx228_0, hx228_1, hx228_2, hx228_3, hl228_3, hi228_3⟩ := at_T35 HR1.out x5_1 p228 q228
          obtain rfl : ad224 = ad228 := (by injection e228)
          have HR228_3 := Aside0.mk hi228_3
          have HC228_3 := Aside0.mk hl228_3
          clear hi228_3 hl228_3
          replace p228 := eq_true p228
          replace q228 := eq_true q228
          have ea_ := Option.some.inj (hx224_3.symm.trans hx228_3)
          injection ea_ with ea_ en_ ec_
          subst ea_
          subst ec_
          clear en_
          go_wp2
          repeat (go_quiet (fail); try go_wp2)
          go_ret
          exact ⟨by first | rfl | (simp; done) | (simp [*]; done), by repeat (first | exact Drawn0.refl _ | apply Drawn0.step)⟩
        ·rw [if_neg c8] at H
         have c8b0 : (((rd_T35 l0 x5_1).f1) == ((rd_T35 l1 x5_1).f1)) = false := beq_eq_false_iff_ne.mpr c8
         have c8b1 : (((rd_T35 l0 x5_1).f1) != ((rd_T35 l1 x5_1).f1)) = true := bne_iff_ne.mpr c8
         obtain rfl := Option.some.inj H
         have p223 : 0 ≤ (x5_1 : Int) := of_decide_eq_true (by first | (with_reducible assumption) | assumption)
         have q223 : x5_1 < (l0.length : Int) := of_decide_eq_true (by first | (with_reducible assumption) | assumption)
         obtain ⟨ad223, A223_3, c223_3, e223, hx223_0, hx223_1, hx223_2, hx223_3, hl223_3, hi223_3⟩ := at_T35 HR0.out x5_1 p223 q223
         cases e223
         have HR223_3 := Aside0.mk hi223_3
         have HC223_3 := Aside0.mk hl223_3
         clear hi223_3 hl223_3
         replace p223 := eq_true p223
         replace q223 := eq_true q223
         have p224 : 0 ≤ (x5_1 : Int) := of_decide_eq_true (by first | (with_reducible assumption) | assumption)
         have q224 : x5_1 < (l1.length : Int) := of_decide_eq_true (by first | (with_reducible assumption) | assumption)
         obtain ⟨ad224, A224_3, c224_3, e224, hx224_0, hx224_1, hx224_2, hx224_3, hl224_3, hi224_3⟩ := at_T35 HR1.out x5_1 p224 q224
         cases e224
         have HR224_3 := Aside0.mk hi224_3
         have HC224_3 := Aside0.mk hl224_3
         clear hi224_3 hl224_3
         replace p224 := eq_true p224
         replace q224 := eq_true q224
         have p225 : 0 ≤ (x5_1 : Int) := of_decide_eq_true (by first | (with_reducible assumption) | assumption)
         have q225 : x5_1 < (l0.length : Int) := of_decide_eq_true (by first | (with_reducible assumption) | assumption)
         obtain ⟨ad225, A225_3, c225_3, e225, hx225_0, hx225_1, hx225_2, hx225_3, hl225_3, hi225_3⟩ := at_T35 HR0.out x5_1 p225 q225
         obtain rfl : ad223 = ad225 := (by injection e225)
         have HR225_3 := Aside0.mk hi225_3
         have HC225_3 := Aside0.mk hl225_3
         clear hi225_3 hl225_3
         replace p225 := eq_true p225
         replace q225 := eq_true q225
         have ea_ := Option.some.inj (hx223_3.symm.trans hx225_3)
         injection ea_ with ea_ en_ ec_
         subst ea_
         subst ec_
         clear en_
         have p226 : 0 ≤ (x5_1 : Int) := of_decide_eq_true (by first | (with_reducible assumption) | assumption)
         have q226 : x5_1 < (l1.length : Int) := of_decide_eq_true (by first | (with_reducible assumption) | assumption)
         obtain ⟨ad226, A226_3, c226_3, e226, hx226_0, hx226_1, hx226_2, hx226_3, hl226_3, hi226_3⟩ := at_T35 HR1.out x5_1 p226 q226
         obtain rfl : ad224 = ad226 := (by injection e226)
         have HR226_3 := Aside0.mk hi226_3
         have HC226_3 := Aside0.mk hl226_3
         clear hi226_3 hl226_3
         replace p226 := eq_true p226
         replace q226 := eq_true q226
         have ea_ := Option.some.inj (hx224_3.symm.trans hx226_3)
         injection ea_ with ea_ en_ ec_
         subst ea_
         subst ec_
         clear en_
         go_wp2
         repeat (go_quiet (fail); try go_wp2)
         go_ret
         exact ⟨by first | rfl | (simp; done) | (simp [*]; done), by repeat (first | exact Drawn0.refl _ | apply Drawn0.step)⟩
       ·rw [if_neg c7] at H
        have c7b0 : (((rd_T35 l0 x5_1).f0) == ((rd_T35 l1 x5_1).f0)) = false := beq_eq_false_iff_ne.mpr c7
        have c7b1 : (((rd_T35 l0 x5_1).f0) != ((rd_T35 l1 x5_1).f0)) = true := bne_iff_ne.mpr c7
        obtain rfl := Option.some.inj H
        have p223 : 0 ≤ (x5_1 : Int) := of_decide_eq_true (by first | (with_reducible assumption) | assumption)
        have q223 : x5_1 < (l0.length : Int) := of_decide_eq_true (by first | (with_reducible assumption) | assumption)
        obtain ⟨ad223, A223_3, c223_3, e223, hx223_0, hx223_1, hx223_2, hx223_3, hl223_3, hi223_3⟩ := at_T35 HR0.out x5_1 p223 q223
        cases e223
        have HR223_3 := Aside0.mk hi223_3
        have HC223_3 := Aside0.mk hl223_3
        clear hi223_3 hl223_3
        replace p223 := eq_true p223
        replace q223 := eq_true q223
        have p224 : 0 ≤ (x5_1 : Int) := of_decide_eq_true (by first | (with_reducible assumption) | assumption)
        have q224 : x5_1 < (l1.length : Int) := of_decide_eq_true (by first | (with_reducible assumption) | assumption)
        obtain ⟨ad224, A224_3, c224_3, e224, hx224_0, hx224_1, hx224_2, hx224_3, hl224_3, hi224_3⟩ := at_T35 HR1.out x5_1 p224 q224
        cases e224
        have HR224_3 := Aside0.mk hi224_3
        have HC224_3 := Aside0.mk hl224_3
        clear hi224_3 hl224_3
        replace p224 := eq_true p224
        replace q224 := eq_true q224
        go_wp2
        repeat (go_quiet (fail); try go_wp2)
        go_ret
        exact ⟨by first | rfl | (simp; done) | (simp [*]; done), by repeat (first | exact Drawn0.refl _ | apply Drawn0.step)⟩
      ·rw [if_neg c6] at H
       exact absurd H (by simp)
     ·rw [if_neg c5] at H
      exact absurd H (by simp)
    ·rw [if_neg c4] at H
     have c4b0 : decide (x5_1 < (l0.length : Int)) = false := decide_eq_false c4
     clear c4
     obtain rfl := Option.some.inj H
     go_wp2
     repeat (go_quiet (fail); try go_wp2)
     go_ret
     exact ⟨by first | rfl | (simp; done) | (simp [*]; done), by repeat (first | exact Drawn0.refl _ | apply Drawn0.step)⟩
 ·rw [if_neg c3] at H
  have c3b0 : ((l0.length : Int) == (l1.length : Int)) = false := beq_eq_false_iff_ne.mpr c3
  have c3b1 : ((l0.length : Int) != (l1.length : Int)) = true := bne_iff_ne.mpr c3
  have c3b2 : (l0.length == l1.length) = false := by first | simpa using c3 | (simp at c3 ⊢; omega)
  obtain rfl := Option.some.inj H
  go_enter Tryz.func8, Tryz.ntmps8
  go_wp2
  repeat (go_quiet (fail); try go_wp2)
  go_ret
  exact ⟨by first | rfl | (simp; done) | (simp [*]; done), by repeat (first | exact Drawn0.refl _ | apply Drawn0.step)⟩

/-! ### odometerref23_Text: function 9 -/
def odometerref23_Text.l0 : Nat → List (S35) → ByteArray → Int → Option (ByteArray)
 | 0, _, _, _ => none
 | k + 1, x0, x3, x4 => if x4 < (x0.length : Int) then (if 0 ≤ x4 then ((odometerref23_May.f k ((rd_T35 x0 x4).f0) ((rd_T35 x0 x4).f1) ((rd_T35 x0 x4).f2) ((rd_T35 x0 x4).f3)).bind fun t232 => (if t232 = true then ((odometerref23_Line.f k ((rd_T35 x0 x4).f0) ((rd_T35 x0 x4).f1) ((rd_T35 x0 x4).f2) ((rd_T35 x0 x4).f3)).bind fun t234 => (if x3.size + t234.size ≤ 9223372036854775807 then (if (x3 ++ t234).size + 1 ≤ 9223372036854775807 then (odometerref23_Text.l0 k x0 ((x3 ++ t234) ++ (⟨#[10]⟩ : ByteArray)) (wrap64 (x4 + 1))) else (none)) else (none))) else (some (⟨#[]⟩ : ByteArray)))) else (none)) else (some x3)
def odometerref23_Text.f (k : Nat) (l0 : List (S35)) : Option (ByteArray) := odometerref23_Text.l0 k l0 (⟨#[]⟩ : ByteArray) 0
theorem odometerref23_Text.mono_l : ∀ k, (∀ y0 y1 y2, LeO (odometerref23_Text.l0 k y0 y1 y2) (odometerref23_Text.l0 (k + 1) y0 y1 y2))
 | 0 => fun _ _ _ r h => by simp [odometerref23_Text.l0] at h
 | k + 1 => by
  have ih0 := odometerref23_Text.mono_l k
  ·intro y0 y1 y2
   unfold odometerref23_Text.l0
   repeat' first
   | (with_reducible exact ih0 _ _ _)
   | (with_reducible exact odometerref23_Line.mono _ _ _ _ _)
   | (with_reducible exact odometerref23_May.mono _ _ _ _ _)
   | (with_reducible exact LeO.refl _)
   | (with_reducible exact LeO.none _)
   | (with_reducible refine LeO.ite ?_ ?_)
   | (with_reducible refine LeO.bind ?_ (fun _ => ?_))
   | exact ih0 _ _ _
   | exact odometerref23_Line.mono _ _ _ _ _
   | exact odometerref23_May.mono _ _ _ _ _
   | exact LeO.none _
   | refine LeO.ite ?_ ?_
   | refine LeO.bind ?_ (fun _ => ?_)
theorem odometerref23_Text.mono : ∀ a0 k, LeO (odometerref23_Text.f k a0) (odometerref23_Text.f (k + 1) a0) := by
 intro a0 k
 have ih0 := odometerref23_Text.mono_l k
 unfold odometerref23_Text.f
 repeat' first
   | (with_reducible exact ih0 _ _ _)
   | (with_reducible exact odometerref23_Line.mono _ _ _ _ _)
   | (with_reducible exact odometerref23_May.mono _ _ _ _ _)
   | (with_reducible exact LeO.refl _)
   | (with_reducible exact LeO.none _)
   | (with_reducible refine LeO.ite ?_ ?_)
   | (with_reducible refine LeO.bind ?_ (fun _ => ?_))
   | exact ih0 _ _ _
   | exact odometerref23_Line.mono _ _ _ _ _
   | exact odometerref23_May.mono _ _ _ _ _
   | exact LeO.none _
   | refine LeO.ite ?_ ?_
   | refine LeO.bind ?_ (fun _ => ?_)
set_option maxHeartbeats 8000000 in
set_option maxRecDepth 100000 in
theorem odometerref23_Text.calls (k : Nat) (A0 : Option Addr) (c0 : Nat) (l0 : List (S35)) (r : ByteArray) (w : World) (hr0 : Kd.C k35 w A0 l0.length l0) (hc0 : l0.length ≤ c0) (h : odometerref23_Text.f k l0 = some r) :
  Calls Tryz.prog 9 #[.slice A0 l0.length c0] w fun e w' => e = .returned (.string r) ∧ Below w.heap.size w w' := by
 have hu35 := Tryz.underlying35
 have HR0 := Aside0.mk hr0
 have HC0 := Aside0.mk hc0
 clear hr0 hc0
 have HB := Aside0.mk (Below.refl w.heap.size w)
 have H : (odometerref23_Text.l0 k l0 (⟨#[]⟩ : ByteArray) 0) = some r := h
 clear h
 have H' := Aside0.mk H
 clear H
 go_enter Tryz.func9, Tryz.ntmps9
 go_wp2
 go_loopg [3, 4] k (fun kq v3 v4 w' => ∃ (x3_1 : ByteArray) (x4_1 : Int), v3 = .string x3_1 ∧ v4 = .int .i64 x4_1 ∧ Aside0 (odometerref23_Text.l0 kq l0 x3_1 x4_1 = some r) ∧ Aside0 (kq ≤ k) ∧ Aside0 (Below w.heap.size w w'))
 case atStart => exact ⟨((⟨#[]⟩ : ByteArray)), (0), (by first | rfl | (simp; done) | (simp [*]; done)), (by first | rfl | (simp; done) | (simp [*]; done)), H', ⟨Nat.le_refl _⟩, ⟨by repeat (first | (with_reducible first | exact HB.out | apply below_alloc | apply pw_below_drewN | apply below_drew1) | exact HB.out)⟩⟩
 case round =>
  clear H'
  obtain ⟨x3_1, x4_1, rfl, rfl, HA, HK1, HB⟩ := hrel
  cases gk with
  | zero => exact absurd HA.out (by simp [odometerref23_Text.l0])
  | succ k1 =>
   have H := HA.out
   clear HA
   simp only [odometerref23_Text.l0] at H
   by_cases c2 : x4_1 < (l0.length : Int)
   ·rw [if_pos c2] at H
    have c2b0 : decide (x4_1 < (l0.length : Int)) = true := decide_eq_true c2
    clear c2
    by_cases c3 : 0 ≤ x4_1
    ·rw [if_pos c3] at H
     have c3b0 : decide (0 ≤ x4_1) = true := decide_eq_true c3
     clear c3
     replace H := Option.bind_eq_some_iff.mp H
     obtain ⟨t232, A40, H⟩ := H
     replace H : (if t232 = true then ((odometerref23_Line.f k1 ((rd_T35 l0 x4_1).f0) ((rd_T35 l0 x4_1).f1) ((rd_T35 l0 x4_1).f2) ((rd_T35 l0 x4_1).f3)).bind fun t234 => (if x3_1.size + t234.size ≤ 9223372036854775807 then (if (x3_1 ++ t234).size + 1 ≤ 9223372036854775807 then (odometerref23_Text.l0 k1 l0 ((x3_1 ++ t234) ++ (⟨#[10]⟩ : ByteArray)) (wrap64 (x4_1 + 1))) else (none)) else (none))) else (some (⟨#[]⟩ : ByteArray))) = some r := H
     have A4 := Aside0.mk A40
     clear A40
     by_cases c5 : t232 = true
     ·subst c5
      have H1 : ((odometerref23_Line.f k1 ((rd_T35 l0 x4_1).f0) ((rd_T35 l0 x4_1).f1) ((rd_T35 l0 x4_1).f2) ((rd_T35 l0 x4_1).f3)).bind fun t234 => (if x3_1.size + t234.size ≤ 9223372036854775807 then (if (x3_1 ++ t234).size + 1 ≤ 9223372036854775807 then (odometerref23_Text.l0 k1 l0 ((x3_1 ++ t234) ++ (⟨#[10]⟩ : ByteArray)) (wrap64 (x4_1 + 1))) else (none)) else (none))) = some r := by rw [if_pos rfl] at H; exact H
      clear H
      have H := H1
      clear H1
      replace H := Option.bind_eq_some_iff.mp H
      obtain ⟨t234, A60, H⟩ := H
      replace H : (if x3_1.size + t234.size ≤ 9223372036854775807 then (if (x3_1 ++ t234).size + 1 ≤ 9223372036854775807 then (odometerref23_Text.l0 k1 l0 ((x3_1 ++ t234) ++ (⟨#[10]⟩ : ByteArray)) (wrap64 (x4_1 + 1))) else (none)) else (none)) = some r := H
      have A6 := Aside0.mk A60
      clear A60
      by_cases c7 : x3_1.size + t234.size ≤ 9223372036854775807
      ·rw [if_pos c7] at H
       have c7b0 := eq_true c7
       have c7b1 : decide (x3_1.size + t234.size ≤ 9223372036854775807) = true := decide_eq_true c7
       try have c7b2 : (9223372036854775807 < x3_1.size + t234.size) = False := eq_false (Nat.not_lt.2 c7)
       try (have c7b5 := c7b2; simp only [size_append_, size_mk_, List.size_toArray, List.length_cons, List.length_nil, Nat.reduceAdd] at c7b5)
       by_cases c8 : (x3_1 ++ t234).size + 1 ≤ 9223372036854775807
       ·rw [if_pos c8] at H
        have c8b0 := eq_true c8
        have c8b1 : decide ((x3_1 ++ t234).size + 1 ≤ 9223372036854775807) = true := decide_eq_true c8
        try have c8b2 : (9223372036854775807 < (x3_1 ++ t234).size + 1) = False := eq_false (Nat.not_lt.2 c8)
        try (have c8b5 := c8b2; simp only [size_append_, size_mk_, List.size_toArray, List.length_cons, List.length_nil, Nat.reduceAdd] at c8b5)
        have c8b3 := size_norm c8
        try simp only [size_append_, size_mk_, List.size_toArray, List.length_cons, List.length_nil, Nat.reduceAdd] at c8b3
        have H' := Aside0.mk H
        clear H
        have p231 : 0 ≤ (x4_1 : Int) := of_decide_eq_true (by first | (with_reducible assumption) | assumption)
        have q231 : x4_1 < (l0.length : Int) := of_decide_eq_true (by first | (with_reducible assumption) | assumption)
        obtain ⟨ad231, A231_3, c231_3, e231, hx231_0, hx231_1, hx231_2, hx231_3, hl231_3, hi231_3⟩ := at_T35 HR0.out x4_1 p231 q231
        cases e231
        replace hx231_0 := (HB.out.cell (World.block_lt_of_cell? w _ hx231_0)).trans hx231_0
        replace hx231_1 := (HB.out.cell (World.block_lt_of_cell? w _ hx231_1)).trans hx231_1
        replace hx231_2 := (HB.out.cell (World.block_lt_of_cell? w _ hx231_2)).trans hx231_2
        replace hx231_3 := (HB.out.cell (World.block_lt_of_cell? w _ hx231_3)).trans hx231_3
        have HR231_3 := Aside0.mk hi231_3
        have HC231_3 := Aside0.mk hl231_3
        clear hi231_3 hl231_3
        replace p231 := eq_true p231
        replace q231 := eq_true q231
        go_wp2_with (first | ((with_reducible refine gate_callee (f := 11) rfl ?_); refine goesL_ (some 15) rfl rfl Tryz.func11 (by kernel_rfl) rfl #[.agg #[.int .i64 ((rd_T35 l0 x4_1).f0), .int .i64 ((rd_T35 l0 x4_1).f1), .int .i64 ((rd_T35 l0 x4_1).f2), .slice A231_3 ((rd_T35 l0 x4_1).f3).length c231_3]] rfl (by (try simp only [List.map_toArray, List.map_cons, List.map_nil]); first | done | rfl | (simp only [List.length_drop, List.length_take]; rfl)) ?_; (with_reducible refine (odometerref23_May.calls k1 ((rd_T35 l0 x4_1).f0) ((rd_T35 l0 x4_1).f1) ((rd_T35 l0 x4_1).f2) _ _ ((rd_T35 l0 x4_1).f3) true _ ?side1 ?side2 A4.out).mono ?_); (case side1 => repeat (first | exact (Kd.C_below HR231_3.out HB.out) | (with_reducible refine Kd.C_alloc ?_ _) | (with_reducible refine Kd.C_drewN ?_ _) | (with_reducible refine Kd.C_drew ?_))); (case side2 => exact HC231_3.out); rintro e w9 ⟨rfl, hb⟩; refine ⟨_, rfl, ?_⟩; have n0_ := Aside0.mk (below_step (by repeat (first | (with_reducible first | exact HB.out | apply below_alloc | apply pw_below_drewN | apply below_drew1) | exact HB.out)) hb); clear HB; have HB := n0_; clear n0_; (try clear hb); (try clear hb2); (try clear hk); (try clear hi); have p233 : 0 ≤ (x4_1 : Int) := of_decide_eq_true (by first | (with_reducible assumption) | assumption); have q233 : x4_1 < (l0.length : Int) := of_decide_eq_true (by first | (with_reducible assumption) | assumption); obtain ⟨ad233, A233_3, c233_3, e233, hx233_0, hx233_1, hx233_2, hx233_3, hl233_3, hi233_3⟩ := at_T35 HR0.out x4_1 p233 q233; obtain rfl : ad231 = ad233 := (by injection e233); replace hx233_0 := (HB.out.cell (World.block_lt_of_cell? w _ hx233_0)).trans hx233_0; replace hx233_1 := (HB.out.cell (World.block_lt_of_cell? w _ hx233_1)).trans hx233_1; replace hx233_2 := (HB.out.cell (World.block_lt_of_cell? w _ hx233_2)).trans hx233_2; replace hx233_3 := (HB.out.cell (World.block_lt_of_cell? w _ hx233_3)).trans hx233_3; have HR233_3 := Aside0.mk hi233_3; have HC233_3 := Aside0.mk hl233_3; clear hi233_3 hl233_3; replace p233 := eq_true p233; replace q233 := eq_true q233) | ((with_reducible refine gate_callee (f := 18) rfl ?_); refine goesL_ (some 22) rfl rfl Tryz.func18 (by kernel_rfl) rfl #[.agg #[.int .i64 ((rd_T35 l0 x4_1).f0), .int .i64 ((rd_T35 l0 x4_1).f1), .int .i64 ((rd_T35 l0 x4_1).f2), .slice A233_3 ((rd_T35 l0 x4_1).f3).length c233_3]] rfl (by (try simp only [List.map_toArray, List.map_cons, List.map_nil]); first | done | rfl | (simp only [List.length_drop, List.length_take]; rfl)) ?_; (with_reducible refine (odometerref23_Line.calls k1 ((rd_T35 l0 x4_1).f0) ((rd_T35 l0 x4_1).f1) ((rd_T35 l0 x4_1).f2) _ _ ((rd_T35 l0 x4_1).f3) t234 _ ?side1 ?side2 A6.out).mono ?_); (case side1 => repeat (first | exact (Kd.C_below HR233_3.out HB.out) | (with_reducible refine Kd.C_alloc ?_ _) | (with_reducible refine Kd.C_drewN ?_ _) | (with_reducible refine Kd.C_drew ?_))); (case side2 => exact HC233_3.out); rintro e w10 ⟨rfl, hb⟩; refine ⟨_, rfl, ?_⟩; have n0_ := Aside0.mk (below_step (by repeat (first | (with_reducible first | exact HB.out | apply below_alloc | apply pw_below_drewN | apply below_drew1) | exact HB.out)) hb); clear HB; have HB := n0_; clear n0_; (try clear hb); (try clear hb2); (try clear hk); (try clear hi)))
        go_roundg k1
        case measure => have := HK1.out; omega
        case rel => exact ⟨((x3_1 ++ t234) ++ (⟨#[10]⟩ : ByteArray)), (wrap64 (x4_1 + 1)), (by first | rfl | (simp; done) | (simp [*]; done)), (by first | rfl | (simp; done) | (simp [*]; done)), H', ⟨by have := HK1.out; omega⟩, ⟨by repeat (first | (with_reducible first | exact HB.out | apply below_alloc | apply pw_below_drewN | apply below_drew1) | exact HB.out)⟩⟩
       ·rw [if_neg c8] at H
        exact absurd H (by simp)
      ·rw [if_neg c7] at H
       exact absurd H (by simp)
     ·replace c5 := Bool.eq_false_iff.mpr c5
      subst c5
      have H1 : (some (⟨#[]⟩ : ByteArray)) = some r := by rw [if_neg (show ¬ (false = true) by decide)] at H; exact H
      clear H
      have H := H1
      clear H1
      obtain rfl := Option.some.inj H
      have p231 : 0 ≤ (x4_1 : Int) := of_decide_eq_true (by first | (with_reducible assumption) | assumption)
      have q231 : x4_1 < (l0.length : Int) := of_decide_eq_true (by first | (with_reducible assumption) | assumption)
      obtain ⟨ad231, A231_3, c231_3, e231, hx231_0, hx231_1, hx231_2, hx231_3, hl231_3, hi231_3⟩ := at_T35 HR0.out x4_1 p231 q231
      cases e231
      replace hx231_0 := (HB.out.cell (World.block_lt_of_cell? w _ hx231_0)).trans hx231_0
      replace hx231_1 := (HB.out.cell (World.block_lt_of_cell? w _ hx231_1)).trans hx231_1
      replace hx231_2 := (HB.out.cell (World.block_lt_of_cell? w _ hx231_2)).trans hx231_2
      replace hx231_3 := (HB.out.cell (World.block_lt_of_cell? w _ hx231_3)).trans hx231_3
      have HR231_3 := Aside0.mk hi231_3
      have HC231_3 := Aside0.mk hl231_3
      clear hi231_3 hl231_3
      replace p231 := eq_true p231
      replace q231 := eq_true q231
      go_wp2_with (first | ((with_reducible refine gate_callee (f := 11) rfl ?_); refine goesL_ (some 15) rfl rfl Tryz.func11 (by kernel_rfl) rfl #[.agg #[.int .i64 ((rd_T35 l0 x4_1).f0), .int .i64 ((rd_T35 l0 x4_1).f1), .int .i64 ((rd_T35 l0 x4_1).f2), .slice A231_3 ((rd_T35 l0 x4_1).f3).length c231_3]] rfl (by (try simp only [List.map_toArray, List.map_cons, List.map_nil]); first | done | rfl | (simp only [List.length_drop, List.length_take]; rfl)) ?_; (with_reducible refine (odometerref23_May.calls k1 ((rd_T35 l0 x4_1).f0) ((rd_T35 l0 x4_1).f1) ((rd_T35 l0 x4_1).f2) _ _ ((rd_T35 l0 x4_1).f3) false _ ?side1 ?side2 A4.out).mono ?_); (case side1 => repeat (first | exact (Kd.C_below HR231_3.out HB.out) | (with_reducible refine Kd.C_alloc ?_ _) | (with_reducible refine Kd.C_drewN ?_ _) | (with_reducible refine Kd.C_drew ?_))); (case side2 => exact HC231_3.out); rintro e w11 ⟨rfl, hb⟩; refine ⟨_, rfl, ?_⟩; have n0_ := Aside0.mk (below_step (by repeat (first | (with_reducible first | exact HB.out | apply below_alloc | apply pw_below_drewN | apply below_drew1) | exact HB.out)) hb); clear HB; have HB := n0_; clear n0_; (try clear hb); (try clear hb2); (try clear hk); (try clear hi)))
      go_ret
      exact ⟨by first | rfl | (simp [errW_none, errW_some] <;> rfl) | (simp [*, errW_none, errW_some] <;> rfl), by repeat (first | (with_reducible first | exact HB.out | apply below_alloc | apply pw_below_drewN | apply below_drew1) | exact HB.out)⟩
    ·rw [if_neg c3] at H
     exact absurd H (by simp)
   ·rw [if_neg c2] at H
    have c2b0 : decide (x4_1 < (l0.length : Int)) = false := decide_eq_false c2
    clear c2
    obtain rfl := Option.some.inj H
    go_wp2
    go_ret
    exact ⟨by first | rfl | (simp [errW_none, errW_some] <;> rfl) | (simp [*, errW_none, errW_some] <;> rfl), by repeat (first | (with_reducible first | exact HB.out | apply below_alloc | apply pw_below_drewN | apply below_drew1) | exact HB.out)⟩

-- NOT PRINTED: function 3 (odometerlaw23_ScriptReads)

-- NOT PRINTED: function 25 (api_Entry)

-- NOT PRINTED: function 13 (script_Same)

-- NOT PRINTED: function 4 (odometerlaw23_ScriptTexts)

end Go.Proofs.YtjapnbghnnbamaaGreatDoor.PR
