/- strconv.ParseInt at base 16, of at most fifteen digits: over any program, in the shelf's form. -/
import Derived.Test.YtfpcoanlkfgagaaDoorHex16
namespace Go.Proofs.YtfpcoanlkfgagaaDoor
open Go.Shelf Go.RowKit Go.Proofs
variable {P : Program} {ρ : Ren}
theorem hexval_lt : ∀ (l : List UInt8) (acc k n : Nat), acc < 16 ^ k → hexval acc l = some n → n < 16 ^ (k + l.length)
  | [], acc, k, n, h, hv => by obtain rfl := Option.some.inj hv; simpa using h
  | c :: l, acc, k, n, h, hv => by
    cases hc : hexv c with
    | none => simp [hexval, hc] at hv
    | some d =>
      simp only [hexval, hc] at hv
      have hd := hexv_lt hc
      have := hexval_lt l (acc * 16 + d) (k + 1) n (by rw [Nat.pow_succ]; omega) hv
      rw [List.length_cons]
      rw [show k + (l.length + 1) = k + 1 + l.length by omega]
      exact this
theorem hexval_bound {l : List UInt8} {n : Nat} (h : hexval 0 l = some n) (hl : l.length ≤ 15) : n < 1152921504606846976 := by
  have h1 := hexval_lt l 0 0 n (by decide) h
  have h2 := Nat.pow_le_pow_right (n := 16) (by decide) (show 0 + l.length ≤ 15 by omega)
  have h3 : 16 ^ 15 = 1152921504606846976 := by decide
  omega
set_option maxHeartbeats 32000000 in
set_option maxRecDepth 100000 in
theorem Any.internal_ParseInt_16 (L : LaysC.n247 P ρ) (s : ByteArray) (hne : s.size ≠ 0) (hmax : s.size ≤ 15) (n : Nat) (hv : hexval 0 s.data.toList = some n) (w : World) :
    Calls P (ρ.f 247) #[.string s, .int .i64 16, .int .i64 64] w fun e w' => e = .returned (.tuple #[.int .i64 n, .nilIface]) ∧ (w' = w ∨ ∃ t, w' = Lib.bytesWorld w (ρ.t 5) t) := by
  have mixed := L.mixed
  have t9 := L.t9; have a9 := L.a9; have z9 := L.z9; have v9 := L.v9
  have t3 := L.t3; have a3 := L.a3; have z3 := L.z3; have v3 := L.v3
  have t2 := L.t2; have a2 := L.a2; have z2 := L.z2; have v2 := L.v2
  have t75 := L.t75; have a75 := L.a75; have z75 := L.z75; have v75 := L.v75
  have t4 := L.t4; have a4 := L.a4; have z4 := L.z4; have v4 := L.v4
  have t167 := L.t167; have a167 := L.a167; have z167 := L.z167; have v167 := L.v167
  have t5 := L.t5; have a5 := L.a5; have z5 := L.z5; have v5 := L.v5
  have t53 := L.t53; have a53 := L.a53; have z53 := L.z53; have v53 := L.v53
  have t175 := L.t175; have a175 := L.a175; have z175 := L.z175; have v175 := L.v175
  have t46 := L.t46; have a46 := L.a46; have z46 := L.z46; have v46 := L.v46
  have e287 : ∀ args w, (callFunc (ρ.f 287) args).run P w = .ok (.enter (ρ.f 287) args) w := enters_of L.f287 (by kernel_rfl) rfl
  have hemp : s.toList.isEmpty = false := by
    rw [← decide_eq_emptyBytes]
    exact decide_eq_false (fun h => hne (by rw [h]; rfl))
  have hpos : 0 < s.size := by omega
  obtain ⟨c0, r, hL⟩ : ∃ c0 r, s.data.toList = c0 :: r := by
    cases h : s.data.toList with
    | nil => exact absurd (by rw [Lib.size_eq, h]; rfl) hne
    | cons c0 r => exact ⟨c0, r, rfl⟩
  have hsz : s.size = r.length + 1 := by rw [Lib.size_eq, hL]; rfl
  have hs0 : s[0]'hpos = c0 := by have := Lib.getD_at s 0 hpos; rw [hL] at this; exact this
  have hn := hexval_bound hv (by rw [← Lib.size_eq]; exact hmax)
  have hc0 : hexv c0 ≠ none := by
    intro h
    rw [hL] at hv
    simp [hexval, h] at hv
  have i43 : ¬ (c0.toNat : Int) = 43 := by
    intro h
    apply hc0
    have h' : c0.toNat = 43 := by omega
    simp [hexv, h']
  have i45 : ¬ (c0.toNat : Int) = 45 := by
    intro h
    apply hc0
    have h' : c0.toNat = 45 := by omega
    simp [hexv, h']
  have hU := Any.ParseUint_16_b64 { L with } s hne hmax w
  rw [hv] at hU
  obtain ⟨a, ha⟩ : ∃ a : Int, a = (n : Int) := ⟨_, rfl⟩
  have hU : Calls P (ρ.f 287) #[.string s, .int .i64 16, .int .i64 64] w fun e w' => e = .returned (.tuple #[.int .u64 a, .nilIface]) ∧ w' = Lib.bytesWorld w (ρ.t 5) s := by rw [ha]; exact hU
  have a0 : 0 ≤ a := by omega
  have a1 : a < 1152921504606846976 := by omega
  rw [← ha]
  clear hv hn ha hL hc0
  go_enter L.f247, Body.n247_ntmps ρ
  go_wp2_with (go_at_fn (ρ.f 287); refine hU.mono ?_; rintro e w1 ⟨rfl, hw1⟩)
  go_wp2
  go_ret2
  exact ⟨rfl, .inr ⟨s, rfl⟩⟩
set_option maxHeartbeats 4000000 in
set_option maxRecDepth 100000 in
theorem Any.strconv_ParseInt_16 (L : LaysC.n174 P ρ) (s : ByteArray) (hne : s.size ≠ 0) (hmax : s.size ≤ 15) (n : Nat) (hv : hexval 0 s.data.toList = some n) (w : World) :
    Calls P (ρ.f 174) #[.string s, .int .i64 16, .int .i64 64] w fun e w' => e = .returned (.tuple #[.int .i64 n, .nilIface]) ∧ (w' = w ∨ ∃ t, w' = Lib.bytesWorld w (ρ.t 5) t) := by
  have mixed := L.mixed
  have t9 := L.t9; have a9 := L.a9; have z9 := L.z9; have v9 := L.v9
  have t3 := L.t3; have a3 := L.a3; have z3 := L.z3; have v3 := L.v3
  have t2 := L.t2; have a2 := L.a2; have z2 := L.z2; have v2 := L.v2
  have t75 := L.t75; have a75 := L.a75; have z75 := L.z75; have v75 := L.v75
  have t85 := L.t85; have a85 := L.a85; have z85 := L.z85; have v85 := L.v85
  have t4 := L.t4; have a4 := L.a4; have z4 := L.z4; have v4 := L.v4
  have e247 : ∀ args w, (callFunc (ρ.f 247) args).run P w = .ok (.enter (ρ.f 247) args) w := enters_of L.f247 (by kernel_rfl) rfl
  have hI := Any.internal_ParseInt_16 { L with } s hne hmax n hv w
  clear hv
  go_enter L.f174, Body.n174_ntmps ρ
  go_wp2_with (go_at_fn (ρ.f 247); refine hI.mono ?_; rintro e W1 ⟨rfl, hW⟩)
  go_wp2
  go_ret2
  exact ⟨rfl, hW⟩
end Go.Proofs.YtfpcoanlkfgagaaDoor
