/- Written by a program of this session (wip/tools/myprint.py) out of the translation: plain Lean functions and their walks. -/
import Derived.Test.YthjpkmaeopdedaaDoorPRx0
import Derived.Test.YthjpkmaeopdedaaDoorPRx2
import Derived.Test.YthjpkmaeopdedaaDoorPRx3
namespace Go.Proofs.YthjpkmaeopdedaaDoor.PR
open Go.RowKit Go.Proofs.YthjpkmaeopdedaaDoorW.PrintWords Go.Proofs.YthjpkmaeopdedaaDoorW.PrintLast Go.Proofs.YthjpkmaeopdedaaDoor.Ext Go.Proofs.YthjpkmaeopdedaaDoorW.PrintMore
attribute [local go_sem] max2_int min2_int max_two min_two max_three min_three max_four min_four   -- for this text's walks alone
set_option linter.unusedVariables false
set_option linter.unusedSimpArgs false

/-! ### odometerref05_First: function 15 -/
mutual
def odometerref05_First.j0 : Nat → ByteArray → Bool → Option (ByteArray × ByteArray × Int)
  | 0, _, _ => none
  | k + 1, x0, x18 => if x18 = true then (some ((⟨#[]⟩ : ByteArray), (⟨#[]⟩ : ByteArray), 0)) else (odometerref05_First.l0 k x0 4)
def odometerref05_First.j2 : Nat → ByteArray → Int → Option (ByteArray × ByteArray × Int)
  | 0, _, _ => none
  | k + 1, x0, x5 => if 4 ≤ x5 then (if x5 ≤ (x0.size : Int) then (if (wrap64 (x5 + 17)) > (x0.size : Int) then (some ((⟨#[]⟩ : ByteArray), (⟨#[]⟩ : ByteArray), 0)) else (odometerref05_First.l1 k x0 (x0.extract 4 (x5 : Int).toNat) (wrap64 (x5 + 17)) (wrap64 (x5 + 17)))) else (none)) else (none)
def odometerref05_First.j4 : Nat → ByteArray → ByteArray → Int → Int → Option (ByteArray × ByteArray × Int)
  | 0, _, _, _, _ => none
  | k + 1, x0, x6, x7, x8 => if 0 ≤ x7 then (if x7 ≤ x8 then (if x8 ≤ (x0.size : Int) then ((odometerref05_MayHost.f k (x0.extract (x7 : Int).toNat (x8 : Int).toNat)).bind fun t172 => (if t172 = true then ((odometerref05_MayPath.f k x6).bind fun t173 => (odometerref05_First.j5 k x0 x6 (x0.extract (x7 : Int).toNat (x8 : Int).toNat) (!t173))) else (odometerref05_First.j5 k x0 x6 (x0.extract (x7 : Int).toNat (x8 : Int).toNat) true))) else (none)) else (none)) else (none)
def odometerref05_First.j5 : Nat → ByteArray → ByteArray → ByteArray → Bool → Option (ByteArray × ByteArray × Int)
  | 0, _, _, _, _ => none
  | k + 1, x0, x6, x9, x64 => if x64 = true then (some ((⟨#[]⟩ : ByteArray), (⟨#[]⟩ : ByteArray), 0)) else ((odometerref05_Text.f x9 x6).bind fun t174 => (if (x0.size : Int) < (t174.size : Int) then (some ((⟨#[]⟩ : ByteArray), (⟨#[]⟩ : ByteArray), 0)) else (if 0 ≤ (t174.size : Int) then (if (t174.size : Int) ≤ (x0.size : Int) then (if (x0.extract 0 ((t174.size : Int) : Int).toNat).toList = t174.toList then (some (x9, x6, (t174.size : Int))) else (some ((⟨#[]⟩ : ByteArray), (⟨#[]⟩ : ByteArray), 0))) else (none)) else (none))))
def odometerref05_First.l1 : Nat → ByteArray → ByteArray → Int → Int → Option (ByteArray × ByteArray × Int)
  | 0, _, _, _, _ => none
  | k + 1, x0, x6, x7, x8 => if x8 < (x0.size : Int) then (if 0 ≤ x8 then (if (bt x0 x8) = 13 then (odometerref05_First.j4 k x0 x6 x7 x8) else (odometerref05_First.l1 k x0 x6 x7 (wrap64 (x8 + 1)))) else (none)) else (odometerref05_First.j4 k x0 x6 x7 x8)
def odometerref05_First.l0 : Nat → ByteArray → Int → Option (ByteArray × ByteArray × Int)
  | 0, _, _ => none
  | k + 1, x0, x5 => if x5 < (x0.size : Int) then (if 0 ≤ x5 then (if (bt x0 x5) = 32 then (odometerref05_First.j2 k x0 x5) else (odometerref05_First.l0 k x0 (wrap64 (x5 + 1)))) else (none)) else (odometerref05_First.j2 k x0 x5)
end
def odometerref05_First.f (k : Nat) (a0 : ByteArray) : Option (ByteArray × ByteArray × Int) := if (a0.size : Int) < 4 then (odometerref05_First.j0 k a0 true) else (if 0 ≤ 4 then (if 4 ≤ (a0.size : Int) then (odometerref05_First.j0 k a0 ((a0.extract 0 4).toList != ([71, 69, 84, 32] : List UInt8))) else (none)) else (none))
theorem odometerref05_First.mono_l : ∀ k, (∀ y0 y1, LeO (odometerref05_First.j0 k y0 y1) (odometerref05_First.j0 (k + 1) y0 y1)) ∧ (∀ y0 y1, LeO (odometerref05_First.j2 k y0 y1) (odometerref05_First.j2 (k + 1) y0 y1)) ∧ (∀ y0 y1 y2 y3, LeO (odometerref05_First.j4 k y0 y1 y2 y3) (odometerref05_First.j4 (k + 1) y0 y1 y2 y3)) ∧ (∀ y0 y1 y2 y3, LeO (odometerref05_First.j5 k y0 y1 y2 y3) (odometerref05_First.j5 (k + 1) y0 y1 y2 y3)) ∧ (∀ y0 y1 y2 y3, LeO (odometerref05_First.l1 k y0 y1 y2 y3) (odometerref05_First.l1 (k + 1) y0 y1 y2 y3)) ∧ (∀ y0 y1, LeO (odometerref05_First.l0 k y0 y1) (odometerref05_First.l0 (k + 1) y0 y1))
  | 0 => ⟨fun _ _ r h => by simp [odometerref05_First.j0] at h, fun _ _ r h => by simp [odometerref05_First.j2] at h, fun _ _ _ _ r h => by simp [odometerref05_First.j4] at h, fun _ _ _ _ r h => by simp [odometerref05_First.j5] at h, fun _ _ _ _ r h => by simp [odometerref05_First.l1] at h, fun _ _ r h => by simp [odometerref05_First.l0] at h⟩
  | k + 1 => by
    obtain ⟨ih0, ih1, ih2, ih3, ih4, ih5⟩ := odometerref05_First.mono_l k
    refine ⟨?_, ?_, ?_, ?_, ?_, ?_⟩
    · intro y0 y1
      unfold odometerref05_First.j0
      repeat' first
      | (with_reducible exact ih0 _ _)
      | (with_reducible exact ih1 _ _)
      | (with_reducible exact ih2 _ _ _ _)
      | (with_reducible exact ih3 _ _ _ _)
      | (with_reducible exact ih4 _ _ _ _)
      | (with_reducible exact ih5 _ _)
      | (with_reducible exact odometerref05_MayHost.mono _ _)
      | (with_reducible exact odometerref05_MayPath.mono _ _)
      | (with_reducible exact LeO.refl _)
      | (with_reducible exact LeO.none _)
      | (with_reducible refine LeO.ite ?_ ?_)
      | (with_reducible refine LeO.bind ?_ (fun _ => ?_))
      | exact ih0 _ _
      | exact ih1 _ _
      | exact ih2 _ _ _ _
      | exact ih3 _ _ _ _
      | exact ih4 _ _ _ _
      | exact ih5 _ _
      | exact odometerref05_MayHost.mono _ _
      | exact odometerref05_MayPath.mono _ _
      | exact LeO.none _
      | refine LeO.ite ?_ ?_
      | refine LeO.bind ?_ (fun _ => ?_)
    · intro y0 y1
      unfold odometerref05_First.j2
      repeat' first
      | (with_reducible exact ih0 _ _)
      | (with_reducible exact ih1 _ _)
      | (with_reducible exact ih2 _ _ _ _)
      | (with_reducible exact ih3 _ _ _ _)
      | (with_reducible exact ih4 _ _ _ _)
      | (with_reducible exact ih5 _ _)
      | (with_reducible exact odometerref05_MayHost.mono _ _)
      | (with_reducible exact odometerref05_MayPath.mono _ _)
      | (with_reducible exact LeO.refl _)
      | (with_reducible exact LeO.none _)
      | (with_reducible refine LeO.ite ?_ ?_)
      | (with_reducible refine LeO.bind ?_ (fun _ => ?_))
      | exact ih0 _ _
      | exact ih1 _ _
      | exact ih2 _ _ _ _
      | exact ih3 _ _ _ _
      | exact ih4 _ _ _ _
      | exact ih5 _ _
      | exact odometerref05_MayHost.mono _ _
      | exact odometerref05_MayPath.mono _ _
      | exact LeO.none _
      | refine LeO.ite ?_ ?_
      | refine LeO.bind ?_ (fun _ => ?_)
    · intro y0 y1 y2 y3
      unfold odometerref05_First.j4
      repeat' first
      | (with_reducible exact ih0 _ _)
      | (with_reducible exact ih1 _ _)
      | (with_reducible exact ih2 _ _ _ _)
      | (with_reducible exact ih3 _ _ _ _)
      | (with_reducible exact ih4 _ _ _ _)
      | (with_reducible exact ih5 _ _)
      | (with_reducible exact odometerref05_MayHost.mono _ _)
      | (with_reducible exact odometerref05_MayPath.mono _ _)
      | (with_reducible exact LeO.refl _)
      | (with_reducible exact LeO.none _)
      | (with_reducible refine LeO.ite ?_ ?_)
      | (with_reducible refine LeO.bind ?_ (fun _ => ?_))
      | exact ih0 _ _
      | exact ih1 _ _
      | exact ih2 _ _ _ _
      | exact ih3 _ _ _ _
      | exact ih4 _ _ _ _
      | exact ih5 _ _
      | exact odometerref05_MayHost.mono _ _
      | exact odometerref05_MayPath.mono _ _
      | exact LeO.none _
      | refine LeO.ite ?_ ?_
      | refine LeO.bind ?_ (fun _ => ?_)
    · intro y0 y1 y2 y3
      unfold odometerref05_First.j5
      repeat' first
      | (with_reducible exact ih0 _ _)
      | (with_reducible exact ih1 _ _)
      | (with_reducible exact ih2 _ _ _ _)
      | (with_reducible exact ih3 _ _ _ _)
      | (with_reducible exact ih4 _ _ _ _)
      | (with_reducible exact ih5 _ _)
      | (with_reducible exact odometerref05_MayHost.mono _ _)
      | (with_reducible exact odometerref05_MayPath.mono _ _)
      | (with_reducible exact LeO.refl _)
      | (with_reducible exact LeO.none _)
      | (with_reducible refine LeO.ite ?_ ?_)
      | (with_reducible refine LeO.bind ?_ (fun _ => ?_))
      | exact ih0 _ _
      | exact ih1 _ _
      | exact ih2 _ _ _ _
      | exact ih3 _ _ _ _
      | exact ih4 _ _ _ _
      | exact ih5 _ _
      | exact odometerref05_MayHost.mono _ _
      | exact odometerref05_MayPath.mono _ _
      | exact LeO.none _
      | refine LeO.ite ?_ ?_
      | refine LeO.bind ?_ (fun _ => ?_)
    · intro y0 y1 y2 y3
      unfold odometerref05_First.l1
      repeat' first
      | (with_reducible exact ih0 _ _)
      | (with_reducible exact ih1 _ _)
      | (with_reducible exact ih2 _ _ _ _)
      | (with_reducible exact ih3 _ _ _ _)
      | (with_reducible exact ih4 _ _ _ _)
      | (with_reducible exact ih5 _ _)
      | (with_reducible exact odometerref05_MayHost.mono _ _)
      | (with_reducible exact odometerref05_MayPath.mono _ _)
      | (with_reducible exact LeO.refl _)
      | (with_reducible exact LeO.none _)
      | (with_reducible refine LeO.ite ?_ ?_)
      | (with_reducible refine LeO.bind ?_ (fun _ => ?_))
      | exact ih0 _ _
      | exact ih1 _ _
      | exact ih2 _ _ _ _
      | exact ih3 _ _ _ _
      | exact ih4 _ _ _ _
      | exact ih5 _ _
      | exact odometerref05_MayHost.mono _ _
      | exact odometerref05_MayPath.mono _ _
      | exact LeO.none _
      | refine LeO.ite ?_ ?_
      | refine LeO.bind ?_ (fun _ => ?_)
    · intro y0 y1
      unfold odometerref05_First.l0
      repeat' first
      | (with_reducible exact ih0 _ _)
      | (with_reducible exact ih1 _ _)
      | (with_reducible exact ih2 _ _ _ _)
      | (with_reducible exact ih3 _ _ _ _)
      | (with_reducible exact ih4 _ _ _ _)
      | (with_reducible exact ih5 _ _)
      | (with_reducible exact odometerref05_MayHost.mono _ _)
      | (with_reducible exact odometerref05_MayPath.mono _ _)
      | (with_reducible exact LeO.refl _)
      | (with_reducible exact LeO.none _)
      | (with_reducible refine LeO.ite ?_ ?_)
      | (with_reducible refine LeO.bind ?_ (fun _ => ?_))
      | exact ih0 _ _
      | exact ih1 _ _
      | exact ih2 _ _ _ _
      | exact ih3 _ _ _ _
      | exact ih4 _ _ _ _
      | exact ih5 _ _
      | exact odometerref05_MayHost.mono _ _
      | exact odometerref05_MayPath.mono _ _
      | exact LeO.none _
      | refine LeO.ite ?_ ?_
      | refine LeO.bind ?_ (fun _ => ?_)
theorem odometerref05_First.mono : ∀ a0 k, LeO (odometerref05_First.f k a0) (odometerref05_First.f (k + 1) a0) := by
  intro a0 k
  obtain ⟨ih0, ih1, ih2, ih3, ih4, ih5⟩ := odometerref05_First.mono_l k
  unfold odometerref05_First.f
  repeat' first
      | (with_reducible exact ih0 _ _)
      | (with_reducible exact ih1 _ _)
      | (with_reducible exact ih2 _ _ _ _)
      | (with_reducible exact ih3 _ _ _ _)
      | (with_reducible exact ih4 _ _ _ _)
      | (with_reducible exact ih5 _ _)
      | (with_reducible exact odometerref05_MayHost.mono _ _)
      | (with_reducible exact odometerref05_MayPath.mono _ _)
      | (with_reducible exact LeO.refl _)
      | (with_reducible exact LeO.none _)
      | (with_reducible refine LeO.ite ?_ ?_)
      | (with_reducible refine LeO.bind ?_ (fun _ => ?_))
      | exact ih0 _ _
      | exact ih1 _ _
      | exact ih2 _ _ _ _
      | exact ih3 _ _ _ _
      | exact ih4 _ _ _ _
      | exact ih5 _ _
      | exact odometerref05_MayHost.mono _ _
      | exact odometerref05_MayPath.mono _ _
      | exact LeO.none _
      | refine LeO.ite ?_ ?_
      | refine LeO.bind ?_ (fun _ => ?_)
set_option maxHeartbeats 8000000 in
set_option maxRecDepth 100000 in
theorem odometerref05_First.calls (k : Nat) (a0 : ByteArray) (r1 : ByteArray) (r2 : ByteArray) (r3 : Int) (w : World) (h : odometerref05_First.f k a0 = some (r1, r2, r3)) :
    Calls Tryd.prog 15 #[.string a0] w fun e w' => e = .returned (.tuple #[.string r1, .string r2, .int .i64 r3]) ∧ Drawn0 w w' := by
  have H : (if (a0.size : Int) < 4 then (odometerref05_First.j0 k a0 true) else (if 0 ≤ 4 then (if 4 ≤ (a0.size : Int) then (odometerref05_First.j0 k a0 ((a0.extract 0 4).toList != ([71, 69, 84, 32] : List UInt8))) else (none)) else (none))) = some (r1, r2, r3) := h
  clear h
  have HC2 := Aside0.mk H
  clear H
  go_enter Tryd.func15, Tryd.ntmps15
  go_upto_region 1 with (fail)
  go_cut [18] (fun v18 wc => ∃ (kq : Nat) (x18_1 : Bool), v18 = .bool x18_1 ∧ Aside0 (odometerref05_First.j0 kq a0 x18_1 = some (r1, r2, r3)) ∧ Aside0 (kq ≤ k) ∧ Drawn0 w wc)
  case first =>
    have H := HC2.out
    clear HC2
    by_cases c3 : (a0.size : Int) < 4
    · rw [if_pos c3] at H
      have c3b0 : decide ((a0.size : Int) < 4) = true := decide_eq_true c3
      have c3b1 : decide (a0.size < 4) = true := decide_eq_true (by omega)
      clear c3
      (first | rw [c3b0] | (simp only [i64_w, i32_w]; rw [c3b0]) | skip)
      have H' := Aside0.mk H
      clear H
      go_wp2
      first | go_meet | (subst_vars; go_meet)
      case rel => exact ⟨_, (true), (by first | rfl | (simp; done) | (simp [*]; done)), H', ⟨by first | omega | exact Nat.le_refl _⟩, by repeat (first | exact Drawn0.refl _ | apply Drawn0.step)⟩
    · rw [if_neg c3] at H
      have c3b0 : decide ((a0.size : Int) < 4) = false := decide_eq_false c3
      have c3b1 : decide (a0.size < 4) = false := decide_eq_false (by omega)
      clear c3
      (first | rw [c3b0] | (simp only [i64_w, i32_w]; rw [c3b0]) | skip)
      by_cases c4 : 0 ≤ 4
      · rw [if_pos c4] at H
        have c4b0 := eq_true c4
        have c4b1 : decide (0 ≤ 4) = true := decide_eq_true c4
        clear c4
        by_cases c5 : 4 ≤ (a0.size : Int)
        · rw [if_pos c5] at H
          have c5b0 := eq_true c5
          have c5b1 : decide (4 ≤ (a0.size : Int)) = true := decide_eq_true c5
          clear c5
          have H' := Aside0.mk H
          clear H
          go_wp2
          first | go_meet | (subst_vars; go_meet)
          case rel => exact ⟨_, (((a0.extract 0 4).toList != ([71, 69, 84, 32] : List UInt8))), (by first | rfl | (simp; done) | (simp [*]; done)), H', ⟨by first | omega | exact Nat.le_refl _⟩, by repeat (first | exact Drawn0.refl _ | apply Drawn0.step)⟩
        · rw [if_neg c5] at H
          exact absurd H (by simp)
      · rw [if_neg c4] at H
        exact absurd H (by simp)
  case rest =>
    clear HC2
    try clear c1
    try clear p2
    try clear c3
    try clear c3b0
    try clear c3b1
    try clear c4
    try clear c4b0
    try clear c4b1
    try clear c5
    try clear c5b0
    try clear c5b1
    obtain ⟨kq, x18_1, rfl, HA, HJ1, ⟨mc1, rfl⟩⟩ := hcut
    cases kq with
    | zero => exact absurd HA.out (by simp [odometerref05_First.j0])
    | succ kj1 =>
      have H := HA.out
      clear HA
      simp only [odometerref05_First.j0] at H
      by_cases c6 : x18_1 = true
      · subst c6
        have H1 : (some ((⟨#[]⟩ : ByteArray), (⟨#[]⟩ : ByteArray), 0)) = some (r1, r2, r3) := by rw [if_pos rfl] at H; exact H
        clear H
        have H := H1
        clear H1
        simp only [Option.some.injEq, Prod.mk.injEq] at H
        obtain ⟨rfl, rfl, rfl⟩ := H
        go_wp2
        go_ret3
        exact ⟨by first | rfl | (simp; done) | (simp [*]; done), by repeat (first | exact Drawn0.refl _ | apply Drawn0.step)⟩
      · replace c6 := Bool.eq_false_iff.mpr c6
        subst c6
        have H1 : (odometerref05_First.l0 kj1 a0 4) = some (r1, r2, r3) := by rw [if_neg (show ¬ (false = true) by decide)] at H; exact H
        clear H
        have H := H1
        clear H1
        have HC7 := Aside0.mk H
        clear H
        go_upto_block 0 with (fail)
        go_cut [5] (fun v5 wc => ∃ (kq : Nat) (x5_6 : Int), v5 = .int .i64 x5_6 ∧ Aside0 (odometerref05_First.j2 kq a0 x5_6 = some (r1, r2, r3)) ∧ Aside0 (kq ≤ kj1) ∧ Drawn0 w wc)
        case first =>
          have H := HC7.out
          clear HC7
          have H' := Aside0.mk H
          clear H
          go_wp2
          go_loopg [5] kj1 (fun kq v5 w' => ∃ (x5_2 : Int), v5 = .int .i64 x5_2 ∧ Aside0 (odometerref05_First.l0 kq a0 x5_2 = some (r1, r2, r3)) ∧ Aside0 (kq ≤ kj1) ∧ Drawn0 w w')
          case atStart => exact ⟨(4), (by first | rfl | (simp; done) | (simp [*]; done)), H', ⟨Nat.le_refl _⟩, by repeat (first | exact Drawn0.refl _ | apply Drawn0.step)⟩
          case round =>
            clear H'
            try clear c1
            try clear p2
            try clear c3
            try clear c3b0
            try clear c3b1
            try clear c4
            try clear c4b0
            try clear c4b1
            try clear c5
            try clear c5b0
            try clear c5b1
            try clear c6
            try clear p2
            obtain ⟨x5_2, rfl, HA, HK2, ⟨m2, rfl⟩⟩ := hrel
            cases gk with
            | zero => exact absurd HA.out (by simp [odometerref05_First.l0])
            | succ k2 =>
              have H := HA.out
              clear HA
              simp only [odometerref05_First.l0] at H
              by_cases c8 : x5_2 < (a0.size : Int)
              · rw [if_pos c8] at H
                have c8b0 : decide (x5_2 < (a0.size : Int)) = true := decide_eq_true c8
                clear c8
                (first | rw [c8b0] | (simp only [i64_w, i32_w]; rw [c8b0]) | skip)
                by_cases c9 : 0 ≤ x5_2
                · rw [if_pos c9] at H
                  have c9b0 : decide (0 ≤ x5_2) = true := decide_eq_true c9
                  clear c9
                  by_cases c11 : (bt a0 x5_2) = 32
                  · rw [if_pos c11] at H
                    have c11b0 : ((bt a0 x5_2) == 32) = true := beq_iff_eq.mpr c11
                    have c11b1 : ((bt a0 x5_2) != 32) = false := bne_eq_false_iff_eq.mpr c11
                    clear c11
                    have H' := Aside0.mk H
                    clear H
                    have p10 : 0 ≤ (x5_2 : Int) := of_decide_eq_true (by first | (with_reducible assumption) | assumption)
                    have q10 : x5_2 < (a0.size : Int) := of_decide_eq_true (by first | (with_reducible assumption) | assumption)
                    have hx10 := bt_at a0 x5_2
                    replace p10 := eq_true p10
                    replace q10 := eq_true q10
                    go_wp2
                    first | go_meet | (subst_vars; go_meet)
                    case rel => exact ⟨_, (x5_2), (by first | rfl | (simp; done) | (simp [*]; done)), H', ⟨by have := HJ1.out; have := HK2.out; first | omega | exact Nat.le_refl _⟩, by repeat (first | exact Drawn0.refl _ | apply Drawn0.step)⟩
                  · rw [if_neg c11] at H
                    have c11b0 : ((bt a0 x5_2) == 32) = false := beq_eq_false_iff_ne.mpr c11
                    have c11b1 : ((bt a0 x5_2) != 32) = true := bne_iff_ne.mpr c11
                    have H' := Aside0.mk H
                    clear H
                    have p10 : 0 ≤ (x5_2 : Int) := of_decide_eq_true (by first | (with_reducible assumption) | assumption)
                    have q10 : x5_2 < (a0.size : Int) := of_decide_eq_true (by first | (with_reducible assumption) | assumption)
                    have hx10 := bt_at a0 x5_2
                    replace p10 := eq_true p10
                    replace q10 := eq_true q10
                    go_wp2
                    go_roundg k2
                    case measure => have := HJ1.out; have := HK2.out; omega
                    case rel => exact ⟨(wrap64 (x5_2 + 1)), (by first | rfl | (simp; done) | (simp [*]; done)), H', ⟨by have := HJ1.out; have := HK2.out; omega⟩, by repeat (first | exact Drawn0.refl _ | apply Drawn0.step)⟩
                · rw [if_neg c9] at H
                  exact absurd H (by simp)
              · rw [if_neg c8] at H
                have c8b0 : decide (x5_2 < (a0.size : Int)) = false := decide_eq_false c8
                clear c8
                (first | rw [c8b0] | (simp only [i64_w, i32_w]; rw [c8b0]) | skip)
                have H' := Aside0.mk H
                clear H
                go_wp2
                first | go_meet | (subst_vars; go_meet)
                case rel => exact ⟨_, (x5_2), (by first | rfl | (simp; done) | (simp [*]; done)), H', ⟨by have := HJ1.out; have := HK2.out; first | omega | exact Nat.le_refl _⟩, by repeat (first | exact Drawn0.refl _ | apply Drawn0.step)⟩
        case rest =>
          clear HC7
          try clear c1
          try clear p1
          try clear q1
          try clear hx1
          try clear p2
          try clear c3
          try clear c3b0
          try clear c3b1
          try clear c4
          try clear c4b0
          try clear c4b1
          try clear c5
          try clear c5b0
          try clear c5b1
          try clear c6
          try clear p6
          try clear c8
          try clear c8b0
          try clear c9
          try clear c9b0
          try clear p10
          try clear q10
          try clear hx10
          try clear c11
          try clear c11b0
          try clear c11b1
          try clear p10
          try clear p2
          try clear q10
          obtain ⟨kq, x5_6, rfl, HA, HJ6, ⟨mc6, rfl⟩⟩ := hcut
          cases kq with
          | zero => exact absurd HA.out (by simp [odometerref05_First.j2])
          | succ kj6 =>
            have H := HA.out
            clear HA
            simp only [odometerref05_First.j2] at H
            by_cases c12 : 4 ≤ x5_6
            · rw [if_pos c12] at H
              have c12b0 := eq_true c12
              have c12b1 : decide (4 ≤ x5_6) = true := decide_eq_true c12
              clear c12
              by_cases c13 : x5_6 ≤ (a0.size : Int)
              · rw [if_pos c13] at H
                have c13b0 := eq_true c13
                have c13b1 : decide (x5_6 ≤ (a0.size : Int)) = true := decide_eq_true c13
                clear c13
                by_cases c14 : (wrap64 (x5_6 + 17)) > (a0.size : Int)
                · rw [if_pos c14] at H
                  have c14b0 : decide ((a0.size : Int) < (wrap64 (x5_6 + 17))) = true := decide_eq_true c14
                  clear c14
                  simp only [Option.some.injEq, Prod.mk.injEq] at H
                  obtain ⟨rfl, rfl, rfl⟩ := H
                  go_wp2
                  go_ret3
                  exact ⟨by first | rfl | (simp; done) | (simp [*]; done), by repeat (first | exact Drawn0.refl _ | apply Drawn0.step)⟩
                · rw [if_neg c14] at H
                  have c14b0 : decide ((a0.size : Int) < (wrap64 (x5_6 + 17))) = false := decide_eq_false c14
                  clear c14
                  have HC15 := Aside0.mk H
                  clear H
                  go_upto_block 2 with (fail)
                  go_cut [8] (fun v8 wc => ∃ (kq : Nat) (x8_14 : Int), v8 = .int .i64 x8_14 ∧ Aside0 (odometerref05_First.j4 kq a0 (a0.extract 4 (x5_6 : Int).toNat) (wrap64 (x5_6 + 17)) x8_14 = some (r1, r2, r3)) ∧ Aside0 (kq ≤ kj6) ∧ Drawn0 w wc)
                  case first =>
                    have H := HC15.out
                    clear HC15
                    have H' := Aside0.mk H
                    clear H
                    go_wp2
                    go_loopg [8] kj6 (fun kq v8 w' => ∃ (x8_3 : Int), v8 = .int .i64 x8_3 ∧ Aside0 (odometerref05_First.l1 kq a0 (a0.extract 4 (x5_6 : Int).toNat) (wrap64 (x5_6 + 17)) x8_3 = some (r1, r2, r3)) ∧ Aside0 (kq ≤ kj6) ∧ Drawn0 w w')
                    case atStart => exact ⟨(wrap64 (x5_6 + 17)), (by first | rfl | (simp; done) | (simp [*]; done)), H', ⟨Nat.le_refl _⟩, by repeat (first | exact Drawn0.refl _ | apply Drawn0.step)⟩
                    case round =>
                      clear H'
                      try clear c1
                      try clear p1
                      try clear q1
                      try clear hx1
                      try clear p2
                      try clear c3
                      try clear c3b0
                      try clear c3b1
                      try clear c4
                      try clear c4b0
                      try clear c4b1
                      try clear c5
                      try clear c5b0
                      try clear c5b1
                      try clear c6
                      try clear p6
                      try clear c8
                      try clear c8b0
                      try clear c9
                      try clear c9b0
                      try clear p10
                      try clear q10
                      try clear hx10
                      try clear c11
                      try clear c11b0
                      try clear c11b1
                      try clear c12
                      try clear c12b0
                      try clear c12b1
                      try clear c13
                      try clear c13b0
                      try clear c13b1
                      try clear c14
                      try clear c14b0
                      try clear c15
                      try clear p1
                      try clear p10
                      try clear p2
                      try clear p6
                      try clear q1
                      try clear q10
                      obtain ⟨x8_3, rfl, HA, HK3, ⟨m3, rfl⟩⟩ := hrel
                      cases gk with
                      | zero => exact absurd HA.out (by simp [odometerref05_First.l1])
                      | succ k3 =>
                        have H := HA.out
                        clear HA
                        simp only [odometerref05_First.l1] at H
                        by_cases c16 : x8_3 < (a0.size : Int)
                        · rw [if_pos c16] at H
                          have c16b0 : decide (x8_3 < (a0.size : Int)) = true := decide_eq_true c16
                          clear c16
                          (first | rw [c16b0] | (simp only [i64_w, i32_w]; rw [c16b0]) | skip)
                          by_cases c17 : 0 ≤ x8_3
                          · rw [if_pos c17] at H
                            have c17b0 : decide (0 ≤ x8_3) = true := decide_eq_true c17
                            clear c17
                            by_cases c19 : (bt a0 x8_3) = 13
                            · rw [if_pos c19] at H
                              have c19b0 : ((bt a0 x8_3) == 13) = true := beq_iff_eq.mpr c19
                              have c19b1 : ((bt a0 x8_3) != 13) = false := bne_eq_false_iff_eq.mpr c19
                              clear c19
                              have H' := Aside0.mk H
                              clear H
                              have p18 : 0 ≤ (x8_3 : Int) := of_decide_eq_true (by first | (with_reducible assumption) | assumption)
                              have q18 : x8_3 < (a0.size : Int) := of_decide_eq_true (by first | (with_reducible assumption) | assumption)
                              have hx18 := bt_at a0 x8_3
                              replace p18 := eq_true p18
                              replace q18 := eq_true q18
                              go_wp2
                              first | go_meet | (subst_vars; go_meet)
                              case rel => exact ⟨_, (x8_3), (by first | rfl | (simp; done) | (simp [*]; done)), H', ⟨by have := HJ1.out; have := HJ6.out; have := HK3.out; first | omega | exact Nat.le_refl _⟩, by repeat (first | exact Drawn0.refl _ | apply Drawn0.step)⟩
                            · rw [if_neg c19] at H
                              have c19b0 : ((bt a0 x8_3) == 13) = false := beq_eq_false_iff_ne.mpr c19
                              have c19b1 : ((bt a0 x8_3) != 13) = true := bne_iff_ne.mpr c19
                              have H' := Aside0.mk H
                              clear H
                              have p18 : 0 ≤ (x8_3 : Int) := of_decide_eq_true (by first | (with_reducible assumption) | assumption)
                              have q18 : x8_3 < (a0.size : Int) := of_decide_eq_true (by first | (with_reducible assumption) | assumption)
                              have hx18 := bt_at a0 x8_3
                              replace p18 := eq_true p18
                              replace q18 := eq_true q18
                              go_wp2
                              go_roundg k3
                              case measure => have := HJ1.out; have := HJ6.out; have := HK3.out; omega
                              case rel => exact ⟨(wrap64 (x8_3 + 1)), (by first | rfl | (simp; done) | (simp [*]; done)), H', ⟨by have := HJ1.out; have := HJ6.out; have := HK3.out; omega⟩, by repeat (first | exact Drawn0.refl _ | apply Drawn0.step)⟩
                          · rw [if_neg c17] at H
                            exact absurd H (by simp)
                        · rw [if_neg c16] at H
                          have c16b0 : decide (x8_3 < (a0.size : Int)) = false := decide_eq_false c16
                          clear c16
                          (first | rw [c16b0] | (simp only [i64_w, i32_w]; rw [c16b0]) | skip)
                          have H' := Aside0.mk H
                          clear H
                          go_wp2
                          first | go_meet | (subst_vars; go_meet)
                          case rel => exact ⟨_, (x8_3), (by first | rfl | (simp; done) | (simp [*]; done)), H', ⟨by have := HJ1.out; have := HJ6.out; have := HK3.out; first | omega | exact Nat.le_refl _⟩, by repeat (first | exact Drawn0.refl _ | apply Drawn0.step)⟩
                  case rest =>
                    clear HC15
                    try clear c1
                    try clear p1
                    try clear q1
                    try clear hx1
                    try clear p2
                    try clear c3
                    try clear c3b0
                    try clear c3b1
                    try clear c4
                    try clear c4b0
                    try clear c4b1
                    try clear c5
                    try clear c5b0
                    try clear c5b1
                    try clear c6
                    try clear p6
                    try clear c8
                    try clear c8b0
                    try clear c9
                    try clear c9b0
                    try clear p10
                    try clear q10
                    try clear hx10
                    try clear c11
                    try clear c11b0
                    try clear c11b1
                    try clear c12
                    try clear c12b0
                    try clear c12b1
                    try clear c13
                    try clear c13b0
                    try clear c13b1
                    try clear c14
                    try clear c14b0
                    try clear c15
                    try clear c16
                    try clear c16b0
                    try clear c17
                    try clear c17b0
                    try clear p18
                    try clear q18
                    try clear hx18
                    try clear c19
                    try clear c19b0
                    try clear c19b1
                    try clear p1
                    try clear p10
                    try clear p18
                    try clear p2
                    try clear p6
                    try clear q1
                    try clear q10
                    try clear q18
                    obtain ⟨kq, x8_14, rfl, HA, HJ14, ⟨mc14, rfl⟩⟩ := hcut
                    cases kq with
                    | zero => exact absurd HA.out (by simp [odometerref05_First.j4])
                    | succ kj14 =>
                      have H := HA.out
                      clear HA
                      simp only [odometerref05_First.j4] at H
                      obtain ⟨ji20, hji20⟩ : ∃ j_ : Int, (wrap64 (x5_6 + 17)) = j_ := ⟨_, rfl⟩
                      replace H : (if 0 ≤ (ji20) then (if (ji20) ≤ x8_14 then (if x8_14 ≤ (a0.size : Int) then ((odometerref05_MayHost.f kj14 (a0.extract ((ji20) : Int).toNat (x8_14 : Int).toNat)).bind fun t172 => (if t172 = true then ((odometerref05_MayPath.f kj14 (a0.extract 4 (x5_6 : Int).toNat)).bind fun t173 => (odometerref05_First.j5 kj14 a0 (a0.extract 4 (x5_6 : Int).toNat) (a0.extract ((ji20) : Int).toNat (x8_14 : Int).toNat) (!t173))) else (odometerref05_First.j5 kj14 a0 (a0.extract 4 (x5_6 : Int).toNat) (a0.extract ((ji20) : Int).toNat (x8_14 : Int).toNat) true))) else (none)) else (none)) else (none)) = some (r1, r2, r3) := by first | (rw [hji20] at H; exact H) | (simp only [hji20] at H ⊢; exact H)
                      (try rw [hji20] at c14b0)
                      have hji20w : (IntKind.i64.wrap (x5_6 + 17)) = ji20 := (i64_w _).trans hji20
                      by_cases c21 : 0 ≤ (ji20)
                      · rw [if_pos c21] at H
                        have c21b0 := eq_true c21
                        have c21b1 : decide (0 ≤ (ji20)) = true := decide_eq_true c21
                        clear c21
                        by_cases c22 : (ji20) ≤ x8_14
                        · rw [if_pos c22] at H
                          have c22b0 := eq_true c22
                          have c22b1 : decide ((ji20) ≤ x8_14) = true := decide_eq_true c22
                          clear c22
                          by_cases c23 : x8_14 ≤ (a0.size : Int)
                          · rw [if_pos c23] at H
                            have c23b0 := eq_true c23
                            have c23b1 : decide (x8_14 ≤ (a0.size : Int)) = true := decide_eq_true c23
                            clear c23
                            have HC24 := Aside0.mk H
                            clear H
                            go_upto_region 14 with (fail)
                            go_cut [64] (fun v64 wc => ∃ (kq : Nat) (x64_23 : Bool), v64 = .bool x64_23 ∧ Aside0 (odometerref05_First.j5 kq a0 (a0.extract 4 (x5_6 : Int).toNat) (a0.extract ((ji20) : Int).toNat (x8_14 : Int).toNat) x64_23 = some (r1, r2, r3)) ∧ Aside0 (kq ≤ kj14) ∧ Drawn0 w wc)
                            case first =>
                              have H := HC24.out
                              clear HC24
                              replace H := Option.bind_eq_some_iff.mp H
                              obtain ⟨t172, A250, H⟩ := H
                              replace H : (if t172 = true then ((odometerref05_MayPath.f kj14 (a0.extract 4 (x5_6 : Int).toNat)).bind fun t173 => (odometerref05_First.j5 kj14 a0 (a0.extract 4 (x5_6 : Int).toNat) (a0.extract ((ji20) : Int).toNat (x8_14 : Int).toNat) (!t173))) else (odometerref05_First.j5 kj14 a0 (a0.extract 4 (x5_6 : Int).toNat) (a0.extract ((ji20) : Int).toNat (x8_14 : Int).toNat) true)) = some (r1, r2, r3) := H
                              have A25 := Aside0.mk A250
                              clear A250
                              by_cases c26 : t172 = true
                              · subst c26
                                have H1 : ((odometerref05_MayPath.f kj14 (a0.extract 4 (x5_6 : Int).toNat)).bind fun t173 => (odometerref05_First.j5 kj14 a0 (a0.extract 4 (x5_6 : Int).toNat) (a0.extract ((ji20) : Int).toNat (x8_14 : Int).toNat) (!t173))) = some (r1, r2, r3) := by rw [if_pos rfl] at H; exact H
                                clear H
                                have H := H1
                                clear H1
                                replace H := Option.bind_eq_some_iff.mp H
                                obtain ⟨t173, A270, H⟩ := H
                                replace H : (odometerref05_First.j5 kj14 a0 (a0.extract 4 (x5_6 : Int).toNat) (a0.extract ((ji20) : Int).toNat (x8_14 : Int).toNat) (!t173)) = some (r1, r2, r3) := H
                                have A27 := Aside0.mk A270
                                clear A270
                                have H' := Aside0.mk H
                                clear H
                                go_wp2_with (first | ((with_reducible refine gate_callee (f := 7) rfl ?_); refine goesL_ (some 58) rfl rfl Tryd.func7 (by kernel_rfl) rfl #[.string (a0.extract ((ji20) : Int).toNat (x8_14 : Int).toNat)] rfl (by (try simp only [List.map_toArray, List.map_cons, List.map_nil]); first | done | (simp only [hji20]; rfl) | rfl | (simp only [List.length_drop, List.length_take]; rfl)) ?_; (with_reducible refine (odometerref05_MayHost.calls kj14 (a0.extract ((ji20) : Int).toNat (x8_14 : Int).toNat) true _ A25.out).mono ?_); rintro e w' ⟨rfl, ⟨nd, rfl⟩⟩; refine ⟨_, rfl, ?_⟩) | (go_at_call 8; (with_reducible refine (odometerref05_MayPath.calls kj14 (a0.extract 4 (x5_6 : Int).toNat) t173 _ A27.out).mono ?_); rintro e w' ⟨rfl, ⟨nd, rfl⟩⟩))
                                first | go_meet | (subst_vars; go_meet)
                                case rel => exact ⟨_, (!t173), (by first | rfl | (simp; done) | (simp [*]; done)), H', ⟨by have := HJ1.out; have := HJ6.out; have := HJ14.out; first | omega | exact Nat.le_refl _⟩, by repeat (first | exact Drawn0.refl _ | apply Drawn0.step)⟩
                              · replace c26 := Bool.eq_false_iff.mpr c26
                                subst c26
                                have H1 : (odometerref05_First.j5 kj14 a0 (a0.extract 4 (x5_6 : Int).toNat) (a0.extract ((ji20) : Int).toNat (x8_14 : Int).toNat) true) = some (r1, r2, r3) := by rw [if_neg (show ¬ (false = true) by decide)] at H; exact H
                                clear H
                                have H := H1
                                clear H1
                                have H' := Aside0.mk H
                                clear H
                                go_wp2_with (first | ((with_reducible refine gate_callee (f := 7) rfl ?_); refine goesL_ (some 58) rfl rfl Tryd.func7 (by kernel_rfl) rfl #[.string (a0.extract ((ji20) : Int).toNat (x8_14 : Int).toNat)] rfl (by (try simp only [List.map_toArray, List.map_cons, List.map_nil]); first | done | (simp only [hji20]; rfl) | rfl | (simp only [List.length_drop, List.length_take]; rfl)) ?_; (with_reducible refine (odometerref05_MayHost.calls kj14 (a0.extract ((ji20) : Int).toNat (x8_14 : Int).toNat) false _ A25.out).mono ?_); rintro e w' ⟨rfl, ⟨nd, rfl⟩⟩; refine ⟨_, rfl, ?_⟩))
                                first | go_meet | (subst_vars; go_meet)
                                case rel => exact ⟨_, (true), (by first | rfl | (simp; done) | (simp [*]; done)), H', ⟨by have := HJ1.out; have := HJ6.out; have := HJ14.out; first | omega | exact Nat.le_refl _⟩, by repeat (first | exact Drawn0.refl _ | apply Drawn0.step)⟩
                            case rest =>
                              clear HC24
                              try clear c1
                              try clear p1
                              try clear q1
                              try clear hx1
                              try clear c2
                              try clear p2
                              try clear c3
                              try clear c3b0
                              try clear c3b1
                              try clear c4
                              try clear c4b0
                              try clear c4b1
                              try clear c5
                              try clear c5b0
                              try clear c5b1
                              try clear c6
                              try clear p6
                              try clear c7
                              try clear c8
                              try clear c8b0
                              try clear c9
                              try clear c9b0
                              try clear p10
                              try clear q10
                              try clear hx10
                              try clear c11
                              try clear c11b0
                              try clear c11b1
                              try clear c12
                              try clear c12b0
                              try clear c12b1
                              try clear c13
                              try clear c13b0
                              try clear c13b1
                              try clear c14
                              try clear c14b0
                              try clear c15
                              try clear c16
                              try clear c16b0
                              try clear c17
                              try clear c17b0
                              try clear p18
                              try clear q18
                              try clear hx18
                              try clear c19
                              try clear c19b0
                              try clear c19b1
                              try clear c21
                              try clear c21b0
                              try clear c21b1
                              try clear c22
                              try clear c22b0
                              try clear c22b1
                              try clear c23
                              try clear c23b0
                              try clear c23b1
                              try clear c26
                              try clear p1
                              try clear p10
                              try clear p18
                              try clear p2
                              try clear p6
                              try clear q1
                              try clear q10
                              try clear q18
                              obtain ⟨kq, x64_23, rfl, HA, HJ23, ⟨mc23, rfl⟩⟩ := hcut
                              cases kq with
                              | zero => exact absurd HA.out (by simp [odometerref05_First.j5])
                              | succ kj23 =>
                                have H := HA.out
                                clear HA
                                simp only [odometerref05_First.j5] at H
                                by_cases c28 : x64_23 = true
                                · subst c28
                                  have H1 : (some ((⟨#[]⟩ : ByteArray), (⟨#[]⟩ : ByteArray), 0)) = some (r1, r2, r3) := by rw [if_pos rfl] at H; exact H
                                  clear H
                                  have H := H1
                                  clear H1
                                  simp only [Option.some.injEq, Prod.mk.injEq] at H
                                  obtain ⟨rfl, rfl, rfl⟩ := H
                                  go_wp2
                                  go_ret3
                                  exact ⟨by first | rfl | (simp; done) | (simp only [← hji20] <;> (first | rfl | simp)) | (simp [*]; done), by repeat (first | exact Drawn0.refl _ | apply Drawn0.step)⟩
                                · replace c28 := Bool.eq_false_iff.mpr c28
                                  subst c28
                                  have H1 : ((odometerref05_Text.f (a0.extract ((ji20) : Int).toNat (x8_14 : Int).toNat) (a0.extract 4 (x5_6 : Int).toNat)).bind fun t174 => (if (a0.size : Int) < (t174.size : Int) then (some ((⟨#[]⟩ : ByteArray), (⟨#[]⟩ : ByteArray), 0)) else (if 0 ≤ (t174.size : Int) then (if (t174.size : Int) ≤ (a0.size : Int) then (if (a0.extract 0 ((t174.size : Int) : Int).toNat).toList = t174.toList then (some ((a0.extract ((ji20) : Int).toNat (x8_14 : Int).toNat), (a0.extract 4 (x5_6 : Int).toNat), (t174.size : Int))) else (some ((⟨#[]⟩ : ByteArray), (⟨#[]⟩ : ByteArray), 0))) else (none)) else (none)))) = some (r1, r2, r3) := by rw [if_neg (show ¬ (false = true) by decide)] at H; exact H
                                  clear H
                                  have H := H1
                                  clear H1
                                  replace H := Option.bind_eq_some_iff.mp H
                                  obtain ⟨t174, A290, H⟩ := H
                                  replace H : (if (a0.size : Int) < (t174.size : Int) then (some ((⟨#[]⟩ : ByteArray), (⟨#[]⟩ : ByteArray), 0)) else (if 0 ≤ (t174.size : Int) then (if (t174.size : Int) ≤ (a0.size : Int) then (if (a0.extract 0 ((t174.size : Int) : Int).toNat).toList = t174.toList then (some ((a0.extract ((ji20) : Int).toNat (x8_14 : Int).toNat), (a0.extract 4 (x5_6 : Int).toNat), (t174.size : Int))) else (some ((⟨#[]⟩ : ByteArray), (⟨#[]⟩ : ByteArray), 0))) else (none)) else (none))) = some (r1, r2, r3) := H
                                  have A29 := Aside0.mk A290
                                  clear A290
                                  by_cases c30 : (a0.size : Int) < (t174.size : Int)
                                  · rw [if_pos c30] at H
                                    have c30b0 : decide ((a0.size : Int) < (t174.size : Int)) = true := decide_eq_true c30
                                    have c30b1 : decide (a0.size < t174.size) = true := decide_eq_true (Int.ofNat_lt.mp c30)
                                    clear c30
                                    simp only [Option.some.injEq, Prod.mk.injEq] at H
                                    obtain ⟨rfl, rfl, rfl⟩ := H
                                    go_wp2_with (first | ((with_reducible refine gate_callee (f := 13) rfl ?_); refine goesL_ (some 67) rfl rfl Tryd.func13 (by kernel_rfl) rfl #[.string (a0.extract ((ji20) : Int).toNat (x8_14 : Int).toNat), .string (a0.extract 4 (x5_6 : Int).toNat)] rfl (by (try simp only [List.map_toArray, List.map_cons, List.map_nil]); first | done | (simp only [hji20]; rfl) | rfl | (simp only [List.length_drop, List.length_take]; rfl)) ?_; (with_reducible refine (odometerref05_Text.calls (a0.extract ((ji20) : Int).toNat (x8_14 : Int).toNat) (a0.extract 4 (x5_6 : Int).toNat) t174 _ A29.out).mono ?_); rintro e w' ⟨rfl, ⟨nd, rfl⟩⟩; refine ⟨_, rfl, ?_⟩))
                                    go_ret3
                                    exact ⟨by first | rfl | (simp; done) | (simp only [← hji20] <;> (first | rfl | simp)) | (simp [*]; done), by repeat (first | exact Drawn0.refl _ | apply Drawn0.step)⟩
                                  · rw [if_neg c30] at H
                                    have c30b0 : decide ((a0.size : Int) < (t174.size : Int)) = false := decide_eq_false c30
                                    have c30b1 : decide (a0.size < t174.size) = false := decide_eq_false (fun h => c30 (Int.ofNat_lt.mpr h))
                                    clear c30
                                    by_cases c31 : 0 ≤ (t174.size : Int)
                                    · rw [if_pos c31] at H
                                      have c31b0 := eq_true c31
                                      have c31b1 : decide (0 ≤ (t174.size : Int)) = true := decide_eq_true c31
                                      clear c31
                                      by_cases c32 : (t174.size : Int) ≤ (a0.size : Int)
                                      · rw [if_pos c32] at H
                                        have c32b0 := eq_true c32
                                        have c32b1 : decide ((t174.size : Int) ≤ (a0.size : Int)) = true := decide_eq_true c32
                                        clear c32
                                        by_cases c33 : (a0.extract 0 ((t174.size : Int) : Int).toNat).toList = t174.toList
                                        · rw [if_pos c33] at H
                                          have c33b0 : ((a0.extract 0 ((t174.size : Int) : Int).toNat).toList == t174.toList) = true := beq_iff_eq.mpr c33
                                          have c33b1 : ((a0.extract 0 ((t174.size : Int) : Int).toNat).toList != t174.toList) = false := bne_eq_false_iff_eq.mpr c33
                                          (try simp only [Int.toNat_natCast] at c33b0 c33b1)
                                          clear c33
                                          simp only [Option.some.injEq, Prod.mk.injEq] at H
                                          obtain ⟨rfl, rfl, rfl⟩ := H
                                          go_wp2_with (first | ((with_reducible refine gate_callee (f := 13) rfl ?_); refine goesL_ (some 67) rfl rfl Tryd.func13 (by kernel_rfl) rfl #[.string (a0.extract ((ji20) : Int).toNat (x8_14 : Int).toNat), .string (a0.extract 4 (x5_6 : Int).toNat)] rfl (by (try simp only [List.map_toArray, List.map_cons, List.map_nil]); first | done | (simp only [hji20]; rfl) | rfl | (simp only [List.length_drop, List.length_take]; rfl)) ?_; (with_reducible refine (odometerref05_Text.calls (a0.extract ((ji20) : Int).toNat (x8_14 : Int).toNat) (a0.extract 4 (x5_6 : Int).toNat) t174 _ A29.out).mono ?_); rintro e w' ⟨rfl, ⟨nd, rfl⟩⟩; refine ⟨_, rfl, ?_⟩))
                                          go_ret3
                                          exact ⟨by first | rfl | (simp; done) | (simp only [← hji20] <;> (first | rfl | simp)) | (simp [*]; done), by repeat (first | exact Drawn0.refl _ | apply Drawn0.step)⟩
                                        · rw [if_neg c33] at H
                                          have c33b0 : ((a0.extract 0 ((t174.size : Int) : Int).toNat).toList == t174.toList) = false := beq_eq_false_iff_ne.mpr c33
                                          have c33b1 : ((a0.extract 0 ((t174.size : Int) : Int).toNat).toList != t174.toList) = true := bne_iff_ne.mpr c33
                                          (try simp only [Int.toNat_natCast] at c33b0 c33b1)
                                          simp only [Option.some.injEq, Prod.mk.injEq] at H
                                          obtain ⟨rfl, rfl, rfl⟩ := H
                                          go_wp2_with (first | ((with_reducible refine gate_callee (f := 13) rfl ?_); refine goesL_ (some 67) rfl rfl Tryd.func13 (by kernel_rfl) rfl #[.string (a0.extract ((ji20) : Int).toNat (x8_14 : Int).toNat), .string (a0.extract 4 (x5_6 : Int).toNat)] rfl (by (try simp only [List.map_toArray, List.map_cons, List.map_nil]); first | done | (simp only [hji20]; rfl) | rfl | (simp only [List.length_drop, List.length_take]; rfl)) ?_; (with_reducible refine (odometerref05_Text.calls (a0.extract ((ji20) : Int).toNat (x8_14 : Int).toNat) (a0.extract 4 (x5_6 : Int).toNat) t174 _ A29.out).mono ?_); rintro e w' ⟨rfl, ⟨nd, rfl⟩⟩; refine ⟨_, rfl, ?_⟩))
                                          go_ret3
                                          exact ⟨by first | rfl | (simp; done) | (simp only [← hji20] <;> (first | rfl | simp)) | (simp [*]; done), by repeat (first | exact Drawn0.refl _ | apply Drawn0.step)⟩
                                      · rw [if_neg c32] at H
                                        exact absurd H (by simp)
                                    · rw [if_neg c31] at H
                                      exact absurd H (by simp)
                          · rw [if_neg c23] at H
                            exact absurd H (by simp)
                        · rw [if_neg c22] at H
                          exact absurd H (by simp)
                      · rw [if_neg c21] at H
                        exact absurd H (by simp)
              · rw [if_neg c13] at H
                exact absurd H (by simp)
            · rw [if_neg c12] at H
              exact absurd H (by simp)

end Go.Proofs.YthjpkmaeopdedaaDoor.PR
