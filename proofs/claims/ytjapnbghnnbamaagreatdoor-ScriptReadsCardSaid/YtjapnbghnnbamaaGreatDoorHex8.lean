/- strconv.ParseUint at base 16 and 8 bits, of two bytes: over any program, in the shelf's form. -/
import Derived.Test.YtjapnbghnnbamaaGreatDoorHex16
import Derived.Shelf.Pu.ParseUintPublic10
namespace Go.Proofs.YtjapnbghnnbamaaGreatDoor
open Go.Shelf Go.RowKit Go.Proofs
variable {P : Program} {ρ : Ren}

set_option maxHeartbeats 32000000 in
set_option maxRecDepth 100000 in
theorem AnyPu.ParseUint_16_b8 (L : LaysPu.n16 P ρ) (t : ByteArray) (hne : t.size ≠ 0) (hmax : t.size ≤ 2) (w : World) :
    Calls P (ρ.f 16) #[.string t, .int .i64 16, .int .i64 8] w fun e w' => e = .returned (hexTuple (ρ.t 34) (hexval 0 t.data.toList)) ∧ w' = Lib.bytesWorld w (ρ.t 5) t := by
  have mixed := L.mixed
  have t9 := L.t9; have a9 := L.a9; have z9 := L.z9; have v9 := L.v9
  have t3 := L.t3; have a3 := L.a3; have z3 := L.z3; have v3 := L.v3
  have t22 := L.t22; have a22 := L.a22; have z22 := L.z22; have v22 := L.v22
  have t24 := L.t24; have a24 := L.a24; have z24 := L.z24; have v24 := L.v24
  have t4 := L.t4; have a4 := L.a4; have z4 := L.z4; have v4 := L.v4
  have t34 := L.t34; have a34 := L.a34; have z34 := L.z34; have v34 := L.v34
  have t5 := L.t5; have a5 := L.a5; have z5 := L.z5; have v5 := L.v5
  have t36 := L.t36; have a36 := L.a36; have z36 := L.z36; have v36 := L.v36
  have t37 := L.t37; have a37 := L.a37; have z37 := L.z37; have v37 := L.v37
  have t0 := L.t0; have a0 := L.a0; have z0 := L.z0; have v0 := L.v0
  have e19 : ∀ args w, (callFunc (ρ.f 19) args).run P w = .ok (.enter (ρ.f 19) args) w := enters_of L.f19 (by kernel_rfl) rfl
  have hemp : t.toList.isEmpty = false := by
    rw [← decide_eq_emptyBytes]
    exact decide_eq_false (fun h => hne (by rw [h]; rfl))
  have hcv := Lib.run_convert_string_bytes (P := P) w (ρ.t 9) (ρ.t 37) (ρ.t 5) t (u := .string) L.t9 L.t37 L.t5
  have hB : ∀ j, j < t.size → (Lib.bytesWorld w (ρ.t 5) t).cell? ⟨w.heap.size, j, none⟩ = some (.int .u8 (t.data.toList.getD j 0).toNat) := fun j hj => Lib.bytesWorld_cell w (ρ.t 5) t j hj
  obtain ⟨W1, hW1⟩ : ∃ W1, W1 = Lib.bytesWorld w (ρ.t 5) t := ⟨_, rfl⟩
  rw [← hW1] at hcv hB ⊢
  clear hW1
  obtain ⟨bs, hL⟩ : ∃ bs, bs = t.data.toList := ⟨_, rfl⟩
  have hLn : bs.length = t.size := by rw [hL, Lib.size_eq]
  rw [← hL] at hB ⊢
  clear hL
  obtain ⟨R, hR⟩ : ∃ R, R = hexTuple (ρ.t 34) (hexval 0 bs) := ⟨_, rfl⟩
  rw [← hR]
  have HR := Lib.hid hR
  clear hR
  have hmv : IntKind.u64.wrap (IntKind.u64.wrap 256 - 1) = 255 := by
    rw [IntKind.wrap_u64, IntKind.wrap_u64]
    decide
  go_enter L.f16, BodyPu.n16_ntmps ρ
  go_wp2
  go_loop [12, 13, 101] (fun vu vn vi => ∃ (k acc : Nat) (a : Int), vu = .bool false ∧ vn = .int .u64 a ∧ vi = .int .i64 k ∧ k ≤ t.size ∧ Hid (a = (acc : Int) ∧ acc < 16 ^ k ∧ hexval 0 bs = hexval acc (bs.drop k)))
    (fun _ _ vi => t.size - (intOf vi).toNat)
  case atStart => exact ⟨0, 0, 0, rfl, rfl, rfl, by omega, rfl, by decide, rfl⟩
  case round =>
    obtain ⟨k, acc, a, rfl, rfl, rfl, hk, hh⟩ := hrel
    obtain ⟨ha, hacc, hdec⟩ := hh.out
    clear hh
    by_cases hkn : k < t.size
    · have hp : 16 ^ k ≤ 16 := Nat.pow_le_pow_right (n := 16) (by decide) (show k ≤ 1 by omega)
      have a0 : 0 ≤ a := by omega
      have a1 : a < 16 := by omega
      have hc := hB k hkn
      have hdrop : bs.drop k = bs[k]'(by omega) :: bs.drop (k + 1) := List.drop_eq_getElem_cons (by omega)
      have hget : bs.getD k 0 = bs[k]'(by omega) := by simp [List.getD, List.getElem?_eq_getElem (show k < bs.length by omega)]
      rw [hdrop] at hdec
      rw [hget] at hc
      generalize bs[k]'(by omega) = c at hc hdec
      have hc256 : c.toNat < 256 := c.toNat_lt
      clear hB hdrop hget
      cases hv : hexv c with
      | some d =>
        have hd := hexv_lt hv
        have hdec2 : hexval 0 bs = hexval (acc * 16 + d) (bs.drop (k + 1)) := by rw [hdec]; simp [hexval, hv]
        have hacc2 : acc * 16 + d < 16 ^ (k + 1) := by rw [Nat.pow_succ]; omega
        have HN : Hid (a * 16 + (d : Int) = ((acc * 16 + d : Nat) : Int) ∧ acc * 16 + d < 16 ^ (k + 1) ∧ hexval 0 bs = hexval (acc * 16 + d) (bs.drop (k + 1))) := Lib.hid ⟨by omega, hacc2, hdec2⟩
        obtain ⟨y, hy⟩ : ∃ y : Int, y = (c.toNat : Int) := ⟨_, rfl⟩
        obtain ⟨x, hx⟩ : ∃ x : Int, x = (d : Int) := ⟨_, rfl⟩
        have x0 : 0 ≤ x := by omega
        have x1 : x < 16 := by omega
        have hle : a * 16 + x ≤ 255 := by omega
        rw [← hx] at HN
        rw [← hy] at hc
        have hl : ∀ W : World, Calls P (ρ.f 19) #[.int .u8 y] W fun e w' => e = .returned (.int .u8 (bits .or .u8 y 32)) ∧ w' = W := fun W => AnyPu.internal_strconv_lower { L with } y W
        unfold hexv at hv
        clear hdec hdec2 hacc2 hacc hp ha
        split at hv
        · rename_i h
          have y0 : 48 ≤ y := by omega
          have y1 : y ≤ 57 := by omega
          obtain rfl : y = x + 48 := by have := Option.some.inj hv; omega
          have hq : IntKind.u8.wrap (x + 48 - 48) = x := by rw [show x + 48 - 48 = x by omega]; simp [IntKind.wrap, IntKind.bits, IntKind.signed]; omega
          have hq2 : x + 48 - 48 = x := by omega
          clear hv hx h hy hl
          go_wp2
          refine ⟨⟨k + 1, acc * 16 + d, a * 16 + x, rfl, (by first | rfl | (congr 1; omega)), (by first | rfl | (congr 1; omega)), by omega, HN⟩, by simp [intOf]; omega⟩
        · rename_i hnd
          split at hv
          · rename_i h
            have hob : bits .or .u8 y 32 = y := by rw [hy]; exact or32_low _ h.1 h.2
            have y0 : 97 ≤ y := by omega
            have y1 : y ≤ 102 := by omega
            have hxy : y = x + 87 := by have := Option.some.inj hv; omega
            rw [hob] at hl
            clear hv hnd h hy hob hx
            subst hxy
            have hq : IntKind.u8.wrap (IntKind.u8.wrap (x + 87 - 97) + 10) = x := by simp [IntKind.wrap, IntKind.bits, IntKind.signed]; omega
            have hq2 : x + 87 - 97 + 10 = x := by omega
            go_wp2_with (go_at_fn (ρ.f 19); refine (hl _).mono ?_; rintro e w' ⟨rfl, rfl⟩)
            refine ⟨⟨k + 1, acc * 16 + d, a * 16 + x, rfl, (by first | rfl | (congr 1; omega)), (by first | rfl | (congr 1; omega)), by omega, HN⟩, by simp [intOf]; omega⟩
          · rename_i hnl
            split at hv
            · rename_i h
              have hob : bits .or .u8 y 32 = y + 32 := by rw [hy]; exact or32_up _ h.1 h.2
              have y0 : 65 ≤ y := by omega
              have y1 : y ≤ 70 := by omega
              have hxy : y = x + 55 := by have := Option.some.inj hv; omega
              rw [hob] at hl
              clear hv hnd hnl h hy hob hx
              subst hxy
              have hq2 : x + 55 + 32 - 97 + 10 = x := by omega
              go_wp2_with (go_at_fn (ρ.f 19); refine (hl _).mono ?_; rintro e w' ⟨rfl, rfl⟩)
              refine ⟨⟨k + 1, acc * 16 + d, a * 16 + x, rfl, (by first | rfl | (congr 1; omega)), (by first | rfl | (congr 1; omega)), by omega, HN⟩, by simp [intOf]; omega⟩
            · cases hv
      | none =>
        have hdec2 : hexval 0 bs = none := by rw [hdec]; simp [hexval, hv]
        have HD := Lib.hid hdec2
        obtain ⟨y, hy⟩ : ∃ y : Int, y = (c.toNat : Int) := ⟨_, rfl⟩
        rw [← hy] at hc
        unfold hexv at hv
        have h1 : ¬ (48 ≤ c.toNat ∧ c.toNat ≤ 57) := fun h => by rw [if_pos h] at hv; cases hv
        have h2 : ¬ (97 ≤ c.toNat ∧ c.toNat ≤ 102) := fun h => by rw [if_neg h1, if_pos h] at hv; cases hv
        have h3 : ¬ (65 ≤ c.toNat ∧ c.toNat ≤ 70) := fun h => by rw [if_neg h1, if_neg h2, if_pos h] at hv; cases hv
        have hno := or32_no ⟨c.toNat, hc256⟩ h2 h3
        have hv0 := bits_lo_u8 .or (c.toNat : Int) 32
        have hv1 := bits_hi_u8 .or (c.toNat : Int) 32
        obtain ⟨z, hz⟩ : ∃ z : Int, z = bits .or .u8 (c.toNat : Int) 32 := ⟨_, rfl⟩
        have hl : ∀ W : World, Calls P (ρ.f 19) #[.int .u8 y] W fun e w' => e = .returned (.int .u8 z) ∧ w' = W := fun W => by rw [hz, hy]; exact AnyPu.internal_strconv_lower { L with } _ W
        simp only at hno
        rw [← hz] at hno hv0 hv1
        have y0 : 0 ≤ y := by omega
        have y1 : y < 256 := by omega
        have hny : ¬ (48 ≤ y ∧ y ≤ 57) := by omega
        clear hv h1 h2 h3 hz hy hdec hdec2 hacc hp ha hc256
        by_cases c48 : 48 ≤ y
        · have c57 : 57 < y := by omega
          clear hny
          by_cases e95 : y = 95
          · subst e95
            clear y0 y1 c48 c57
            rcases hno with hno | hno
            · go_wp2_with (go_at_fn (ρ.f 19); refine (hl _).mono ?_; rintro e w' ⟨rfl, rfl⟩)
              all_goals go_ret2
              all_goals exact ⟨by rw [HR.out, HD.out]; rfl, rfl⟩
            · go_wp2_with (go_at_fn (ρ.f 19); refine (hl _).mono ?_; rintro e w' ⟨rfl, rfl⟩)
              all_goals go_ret2
              all_goals exact ⟨by rw [HR.out, HD.out]; rfl, rfl⟩
          · have n95 : (y == 95) = false := beq_eq_false_iff_ne.2 e95
            clear e95
            rcases hno with hno | hno
            · go_wp2_with (go_at_fn (ρ.f 19); refine (hl _).mono ?_; rintro e w' ⟨rfl, rfl⟩)
              all_goals go_ret2
              all_goals exact ⟨by rw [HR.out, HD.out]; rfl, rfl⟩
            · go_wp2_with (go_at_fn (ρ.f 19); refine (hl _).mono ?_; rintro e w' ⟨rfl, rfl⟩)
              all_goals go_ret2
              all_goals exact ⟨by rw [HR.out, HD.out]; rfl, rfl⟩
        · have c47 : y < 48 := by omega
          clear hny c48
          rcases hno with hno | hno
          · go_wp2_with (go_at_fn (ρ.f 19); refine (hl _).mono ?_; rintro e w' ⟨rfl, rfl⟩)
            all_goals go_ret2
            all_goals exact ⟨by rw [HR.out, HD.out]; rfl, rfl⟩
          · go_wp2_with (go_at_fn (ρ.f 19); refine (hl _).mono ?_; rintro e w' ⟨rfl, rfl⟩)
            all_goals go_ret2
            all_goals exact ⟨by rw [HR.out, HD.out]; rfl, rfl⟩
    · -- THE BYTES ARE AT AN END
      have hkk : k = t.size := by omega
      subst hkk
      have hF : hexval acc (bs.drop t.size) = some acc := by rw [List.drop_eq_nil_of_le (by omega)]; rfl
      have HE := Lib.hid (show R = .tuple #[.int .u64 a, .nilIface] by rw [HR.out, hdec, hF, ha]; rfl)
      clear hacc hF hdec ha
      go_wp2
      go_ret2
      exact ⟨by rw [HE.out]; rfl, rfl⟩
set_option maxHeartbeats 4000000 in
set_option maxRecDepth 100000 in
theorem AnyPu.ParseUint_16_8_ok (L : LaysPu.n14 P ρ) (s : ByteArray) (hne : s.size ≠ 0) (hmax : s.size ≤ 2) (u : Nat) (h : hexval 0 s.data.toList = some u) (w : World) :
    Calls P (ρ.f 14) #[.string s, .int .i64 16, .int .i64 8] w fun e w' => e = .returned (.tuple #[.int .u64 u, .nilIface]) ∧ Below w.heap.size w w' := by
  have mixed := L.mixed
  have t9 := L.t9; have a9 := L.a9; have z9 := L.z9; have v9 := L.v9
  have t3 := L.t3; have a3 := L.a3; have z3 := L.z3; have v3 := L.v3
  have t22 := L.t22; have a22 := L.a22; have z22 := L.z22; have v22 := L.v22
  have t24 := L.t24; have a24 := L.a24; have z24 := L.z24; have v24 := L.v24
  have t25 := L.t25; have a25 := L.a25; have z25 := L.z25; have v25 := L.v25
  have t4 := L.t4; have a4 := L.a4; have z4 := L.z4; have v4 := L.v4
  have e16 : ∀ args w, (callFunc (ρ.f 16) args).run P w = .ok (.enter (ρ.f 16) args) w := enters_of L.f16 (by kernel_rfl) rfl
  have hI := AnyPu.ParseUint_16_b8 { L with } s hne hmax w
  rw [h] at hI
  have hI : Calls P (ρ.f 16) #[.string s, .int .i64 16, .int .i64 8] w fun e w' => e = .returned (.tuple #[.int .u64 u, .nilIface]) ∧ w' = Lib.bytesWorld w (ρ.t 5) s := hI
  clear h
  go_enter L.f14, BodyPu.n14_ntmps ρ
  go_wp2_with (go_at_fn (ρ.f 16); refine hI.mono ?_; rintro e W1 ⟨rfl, hW⟩)
  go_wp2
  go_ret2
  exact ⟨rfl, Lib.bytesWorld_below _ _ _⟩
set_option maxHeartbeats 4000000 in
set_option maxRecDepth 100000 in
theorem AnyPu.ParseUint_16_8_no (L : LaysPu.n14 P ρ) (s : ByteArray) (hne : s.size ≠ 0) (hmax : s.size ≤ 2) (h : hexval 0 s.data.toList = none) (ev : Value) (w : World) (hv : w.cell? ⟨(ρ.g 0), 0, none⟩ = some ev) (hev : ev = .nilIface ∨ ∃ te pe, ev = .iface te pe) :
    Calls P (ρ.f 14) #[.string s, .int .i64 16, .int .i64 8] w fun e w' => ∃ N, e = .returned (.tuple #[.int .u64 0, .iface (ρ.t 39) (.pointer (some ⟨N, 0, none⟩))]) ∧ Below w.heap.size w w' := by
  have mixed := L.mixed
  have t9 := L.t9; have a9 := L.a9; have z9 := L.z9; have v9 := L.v9
  have t3 := L.t3; have a3 := L.a3; have z3 := L.z3; have v3 := L.v3
  have t22 := L.t22; have a22 := L.a22; have z22 := L.z22; have v22 := L.v22
  have t24 := L.t24; have a24 := L.a24; have z24 := L.z24; have v24 := L.v24
  have t25 := L.t25; have a25 := L.a25; have z25 := L.z25; have v25 := L.v25
  have t4 := L.t4; have a4 := L.a4; have z4 := L.z4; have v4 := L.v4
  have e16 : ∀ args w, (callFunc (ρ.f 16) args).run P w = .ok (.enter (ρ.f 16) args) w := enters_of L.f16 (by kernel_rfl) rfl
  have e17 : ∀ args w, (callFunc (ρ.f 17) args).run P w = .ok (.enter (ρ.f 17) args) w := enters_of L.f17 (by kernel_rfl) rfl
  have hG : (ρ.g 0) < w.heap.size := Lib.lt_of_cell hv
  have hI := AnyPu.ParseUint_16_b8 { L with } s hne hmax w
  rw [h] at hI
  have hI : Calls P (ρ.f 16) #[.string s, .int .i64 16, .int .i64 8] w fun e w' => e = .returned (.tuple #[.int .u64 0, .iface (ρ.t 34) (.int .i64 2)]) ∧ w' = Lib.bytesWorld w (ρ.t 5) s := hI
  clear h
  go_enter L.f14, BodyPu.n14_ntmps ρ
  go_wp2_with (go_at_fn (ρ.f 16); refine hI.mono ?_)
  rintro e W1 ⟨rfl, hW⟩
  have hb1 : Below w.heap.size w W1 := by rw [hW]; exact Lib.bytesWorld_below _ _ _
  have hv1 : W1.cell? ⟨(ρ.g 0), 0, none⟩ = some ev := (hb1.cell (show (⟨(ρ.g 0), 0, none⟩ : Addr).block < w.heap.size from hG)).trans hv
  clear hW
  go_wp2_with (go_at_fn (ρ.f 17); refine (AnyPu.strconv_toError_syntax { L with } ⟨#[80, 97, 114, 115, 101, 85, 105, 110, 116]⟩ s 16 8 ev _ (by omega) ?_ hev).mono ?_)
  · exact hv1
  rintro e W2 ⟨N, rfl, h1, h2, h3⟩
  go_wp2
  go_ret2
  exact ⟨N, rfl, hb1.trans (h3.mono hb1.size)⟩
end Go.Proofs.YtjapnbghnnbamaaGreatDoor
