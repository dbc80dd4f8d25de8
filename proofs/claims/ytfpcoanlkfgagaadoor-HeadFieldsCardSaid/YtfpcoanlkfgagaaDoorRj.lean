/- head.Fields: plain function and walk, by hand. -/
import Derived.Test.YtfpcoanlkfgagaaDoorRf
namespace Go.Proofs.YtfpcoanlkfgagaaDoor.PA
open Go.RowKit Go.Proofs.YtfpcoanlkfgagaaDoorW.PrintWords Go.Proofs.YtfpcoanlkfgagaaDoorW.PrintLast Go.Proofs.YtfpcoanlkfgagaaDoor.Ext Go.Proofs.YtfpcoanlkfgagaaDoorW.PrintMore
attribute [local go_sem] max2_int min2_int max_two min_two
set_option linter.unusedVariables false
set_option linter.unusedSimpArgs false
def head_Fields.f (k : Nat) (l0 : List Int) : Option (List S75 × Int) :=
  (head_read.f k l0).bind fun t => some (t.2.2.1, if t.2.2.2.2.2 = 0 then (if t.2.2.2.2.1 = true then 0 else 15) else t.2.2.2.2.2)
set_option maxHeartbeats 8000000 in
set_option maxRecDepth 100000 in
theorem head_Fields.calls (k : Nat) (A0 : Option Addr) (c0 : Nat) (l0 : List Int) (r1 : List S75) (r2 : Int) (w : World) (hr0 : Kd.C (Kd.int .u8) w A0 l0.length l0) (hc0 : l0.length ≤ c0) (hG : Glob w) (h : head_Fields.f k l0 = some (r1, r2)) :
    Calls Tryd.prog 27 #[.slice A0 l0.length c0] w fun e w' => ∃ v0_ : Value, e = .returned (.tuple #[v0_, .int .i64 r2]) ∧ Kd.R k75 75 w' w.heap.size (fun _ => True) v0_ r1 ∧ Below w.heap.size w w' := by
  have HR0 := Aside0.mk hr0
  have HC0 := Aside0.mk hc0
  have HG := Aside0.mk hG
  clear hr0 hc0 hG
  unfold head_Fields.f at h
  replace h := Option.bind_eq_some_iff.mp h
  obtain ⟨⟨st, old, fs, sz, is, e⟩, hr, h⟩ := h
  dsimp only at h
  have HRD := Aside0.mk hr
  clear hr
  simp only [Option.some.injEq, Prod.mk.injEq] at h
  obtain ⟨rfl, h2⟩ := h
  go_enter Tryd.func27, Tryd.ntmps27
  go_upto_region 2 with (first | (go_at_call 36; refine (head_read.calls k A0 c0 l0 st old fs sz is e _ HR0.out HC0.out HG.out HRD.out).mono ?_; rintro x wR ⟨v0, rfl, hR, hb⟩; obtain ⟨Av, cv, rfl⟩ := Kd.R_slice hR; have HRf := Aside0.mk hR; have HBR := Aside0.mk hb; clear hR hb))
  have hI : HBlk (wR.alloc (.cells #[.int .i64 st, .bool old, .slice Av fs.length cv, .int .i64 sz] 59)) wR.heap.size st old (.slice Av fs.length cv) sz := heap_alloc_new wR _
  have hc2 := hI.c2
  by_cases ce : e = 0
  · have ye : (e == 0) = true := beq_iff_eq.mpr ce
    rw [if_pos ce] at h2
    cases is with
    | true =>
      rw [if_pos rfl] at h2
      rw [← ce] at h2
      subst h2
      clear ce
      go_wp2
      go_ret2
      exact ⟨_, rfl, Kd.R_alloc HRf.out _, below_alloc HBR.out _⟩
    | false =>
      rw [if_neg (by decide)] at h2
      subst h2
      clear ce
      go_wp2
      go_ret2
      exact ⟨_, rfl, Kd.R_alloc HRf.out _, below_alloc HBR.out _⟩
  · have ye : (e == 0) = false := beq_eq_false_iff_ne.mpr ce
    rw [if_neg ce] at h2
    subst h2
    clear ce
    go_wp2
    go_ret2
    exact ⟨_, rfl, Kd.R_alloc HRf.out _, below_alloc HBR.out _⟩
end Go.Proofs.YtfpcoanlkfgagaaDoor.PA
