/- The law HeadFields: its walk, by hand, to what its plain law says. -/
import Derived.Test.YtfpcoanlkfgagaaDoorPBK
import Derived.Test.YtfpcoanlkfgagaaDoorRj
import Derived.Test.YtfpcoanlkfgagaaDoorPAx7
import Derived.Test.YtfpcoanlkfgagaaDoorPAx11
namespace Go.Proofs.YtfpcoanlkfgagaaDoor.PB
open Go.RowKit Go.Proofs.YtfpcoanlkfgagaaDoorW.PrintWords Go.Proofs.YtfpcoanlkfgagaaDoorW.PrintLast Go.Proofs.YtfpcoanlkfgagaaDoor.Ext Go.Proofs.YtfpcoanlkfgagaaDoorW.PrintMore
attribute [local go_sem] max2_int min2_int max_two min_two
set_option linter.unusedVariables false
set_option linter.unusedSimpArgs false
theorem drawn_below2 {w W : World} (h : Drawn0 w W) : Below w.heap.size w W := by
  obtain ⟨⟨n, rfl⟩⟩ := h
  exact pw_below_drewN (Below.refl _ _) _
def odometerlaw06_HeadFields.Pure : Prop := odometerlaw06_known.f = some true ∧ ∀ (l0 : List Int), (∀ x ∈ l0, (Lit.int .u8 x).wf = true) → l0.length ≤ 20000 →
  ∃ (k : Nat) (fs : List PA.S75) (eF : Int) (s : ByteArray) (m e2 : Int), PA.head_Fields.f k l0 = some (fs, eF) ∧ PA.odometerref06_Read.f k l0 = some (s, fs, m, e2) ∧ PA.odometerref06_SameFields.f k fs fs = some true ∧ eF = (if e2 = 0 then (if m = 0 then 15 else e2) else e2)
set_option maxHeartbeats 8000000 in
set_option maxRecDepth 100000 in
theorem odometerlaw06_HeadFields.calls (P : odometerlaw06_HeadFields.Pure) (A0 : Option Addr) (c0 : Nat) (l0 : List Int) (hw : ∀ x ∈ l0, (Lit.int .u8 x).wf = true) (w : World) (hr0 : Kd.C (Kd.int .u8) w A0 l0.length l0) (hc0 : l0.length ≤ c0) (hG : Glob w) :
    Calls Tryd.prog 9 #[.slice A0 l0.length c0] w fun e w' => e = .returned (.bool true) ∧ Below w.heap.size w w' := by
  have HR0 := Aside0.mk hr0
  have HC0 := Aside0.mk hc0
  have HG := Aside0.mk hG
  have HKN := Aside0.mk P.1
  have HP := Aside0.mk (P.2 l0 hw)
  clear hr0 hc0 hG hw P
  by_cases c2 : (l0.length : Int) > 20000
  · have d2 : decide ((l0.length : Int) > 20000) = true := decide_eq_true c2
    have d3 : decide (20000 < l0.length) = true := decide_eq_true (by omega)
    clear c2 HP
    go_enter Tryd.func9, Tryd.ntmps9
    go_wp2_with (first | (go_at_call 20; (with_reducible refine (odometerlaw06_known.calls true _ HG.out HKN.out).mono ?_); rintro x w1 ⟨rfl, hb⟩; have HB := Aside0.mk hb; clear hb))
    go_ret
    exact ⟨rfl, HB.out⟩
  · have d2 : decide ((l0.length : Int) > 20000) = false := decide_eq_false c2
    have d3 : decide (20000 < l0.length) = false := decide_eq_false (by omega)
    obtain ⟨k, fs, eF, s, m, e2, h1, h2, h3, h4⟩ := HP.out (by omega)
    have HF := Aside0.mk h1
    have HRD := Aside0.mk h2
    have HS := Aside0.mk h3
    clear h1 h2 h3 c2 HP
    go_enter Tryd.func9, Tryd.ntmps9
    go_upto_region 5 with (first | (go_at_call 28; (with_reducible refine (PA.odometerref06_Read.calls k (fun k_ => k_ < w.heap.size) A0 c0 l0 s fs m e2 _ (Kd.V_mk HC0.out (Kd.F_below (Kd.C_F (Kd.heap_int .u8) HR0.out) HB.out)) HRD.out).mono ?_); rintro x w2 ⟨v1, rfl, hR, hb⟩; obtain ⟨A2, c2, rfl⟩ := Kd.R_slice hR; have S2 := Aside0.mk (Kd.R_reads' hR).2.2; have SL := Aside0.mk (Kd.R_reads' hR).2.1; have n1 := Aside0.mk (Kd.C_below F1.out hb); have n2 := Aside0.mk (PA.below_lower HB.out hb HB.out.size); clear F1 HB; have F1 := n1; have HB := n2; clear n1 n2 hR hb) | (go_at_call 27; (with_reducible refine (PA.head_Fields.calls k A0 c0 l0 fs eF _ HR0.out HC0.out HG.out HF.out).mono ?_); rintro x w1 ⟨v0, rfl, hR, hb⟩; obtain ⟨A1, c1, rfl⟩ := Kd.R_slice hR; have F1 := Aside0.mk (Kd.R_reads' hR).2.2; have FL := Aside0.mk (Kd.R_reads' hR).2.1; have HB := Aside0.mk hb; clear hR hb))
    have hfin : ∀ x : Int, (x == x) = true := fun x => beq_self_eq_true x
    by_cases ce : e2 = 0
    · rw [if_pos ce] at h4
      have ye : (e2 == 0) = true := beq_iff_eq.mpr ce
      by_cases cm : m = 0
      · rw [if_pos cm] at h4
        subst h4
        subst ce
        subst cm
        clear hfin ye
        go_wp2_with (first | (go_at_call 20; (with_reducible refine (odometerlaw06_known.calls true _ (Glob.below HG.out HB.out) HKN.out).mono ?_); rintro x w4 ⟨rfl, hb⟩; have n2 := Aside0.mk (PA.below_lower HB.out hb HB.out.size); clear HB hb; have HB := n2; clear n2) | (go_at_call 29; (with_reducible refine (PA.odometerref06_SameFields.calls k A1 c1 fs A2 c2 fs true _ F1.out FL.out S2.out SL.out HS.out).mono ?_); rintro x w3 ⟨rfl, hD⟩; have hb := drawn_below2 hD; have n2 := Aside0.mk (PA.below_lower HB.out hb HB.out.size); clear HB hb hD F1 S2; have HB := n2; clear n2))
        go_ret
        exact ⟨rfl, HB.out⟩
      · rw [if_neg cm] at h4
        have ym : (m == 0) = false := beq_eq_false_iff_ne.mpr cm
        have ym2 : (m = 0) = False := eq_false cm
        rw [ce] at h4
        subst h4
        subst ce
        clear cm hfin ye
        go_wp2_with (first | (go_at_call 20; (with_reducible refine (odometerlaw06_known.calls true _ (Glob.below HG.out HB.out) HKN.out).mono ?_); rintro x w4 ⟨rfl, hb⟩; have n2 := Aside0.mk (PA.below_lower HB.out hb HB.out.size); clear HB hb; have HB := n2; clear n2) | (go_at_call 29; (with_reducible refine (PA.odometerref06_SameFields.calls k A1 c1 fs A2 c2 fs true _ F1.out FL.out S2.out SL.out HS.out).mono ?_); rintro x w3 ⟨rfl, hD⟩; have hb := drawn_below2 hD; have n2 := Aside0.mk (PA.below_lower HB.out hb HB.out.size); clear HB hb hD F1 S2; have HB := n2; clear n2))
        go_ret
        exact ⟨rfl, HB.out⟩
    · rw [if_neg ce] at h4
      have ye : (e2 == 0) = false := beq_eq_false_iff_ne.mpr ce
      subst h4
      have ye2 : (eF = 0) = False := eq_false ce
      have yx := hfin eF
      clear ce hfin
      go_wp2_with (first | (go_at_call 20; (with_reducible refine (odometerlaw06_known.calls true _ (Glob.below HG.out HB.out) HKN.out).mono ?_); rintro x w4 ⟨rfl, hb⟩; have n2 := Aside0.mk (PA.below_lower HB.out hb HB.out.size); clear HB hb; have HB := n2; clear n2) | (go_at_call 29; (with_reducible refine (PA.odometerref06_SameFields.calls k A1 c1 fs A2 c2 fs true _ F1.out FL.out S2.out SL.out HS.out).mono ?_); rintro x w3 ⟨rfl, hD⟩; have hb := drawn_below2 hD; have n2 := Aside0.mk (PA.below_lower HB.out hb HB.out.size); clear HB hb hD F1 S2; have HB := n2; clear n2))
      go_ret
      exact ⟨rfl, HB.out⟩
theorem odometerlaw06_HeadFields.walk (P : odometerlaw06_HeadFields.Pure) (a0 : Option Addr) (len0 cap0 : Nat) (z0 : List Int) (w : World) (w0 : (a0 = none ∧ len0 = 0 ∧ cap0 = 0 ∧ z0 = []) ∨ ∃ x, a0 = some x ∧ len0 ≤ cap0 ∧ cap0 ≤ maxLen ∧ z0.length = cap0 ∧ (∀ i, i < z0.length → w.cell? (x.add i) = some (.int .u8 (z0.getD i 0))) ∧ ∀ n ∈ z0, (Lit.int .u8 n).wf = true) (y0 : len0 * 1 ≤ 140737488351232) (hG : Glob w) :
    Calls Tryd.prog 9 #[.slice a0 len0 cap0] w fun e w' => e = .returned (.bool true) ∧ Below w.heap.size w w' := by
  obtain ⟨l0, rfl, hr0, hm0, hw0, hc0⟩ := ReadsInt.ofRowC w0
  exact odometerlaw06_HeadFields.calls P _ _ l0 hw0 w (Kd.C_of_reads (d := (0 : Int)) (h1 := fun _ => rfl) hr0) hc0 hG
end Go.Proofs.YtfpcoanlkfgagaaDoor.PB
