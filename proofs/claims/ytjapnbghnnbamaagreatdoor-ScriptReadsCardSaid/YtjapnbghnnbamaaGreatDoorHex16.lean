/- strconv's ParseUint and ParseInt at base 16, of at most fifteen bytes: over any program, in the shelf's form. -/
import Derived.Shelf.LaysC
import Derived.Shelf.Strconv.Lower
import Derived.Shelf.Strconv.ParseIntPublic10
import Derived.Lib.Strings
import Derived.Lib.Walk
import Derived.Lib.ConvBytes
import Derived.Lib.AtoiAllMem
import Derived.Lib.ParseIntBMem
import Derived.Lib.IfaceNeq
import Derived.Lib.ItoaWalk
import Derived.Lib.Hide
import Derived.Laws.Strings3
import Derived.Laws.Closers25
import Derived.Laws.Closers25b
import Derived.WalkKit
import Derived.BigCall
import Derived.BigGuard
namespace Go.Proofs.YtjapnbghnnbamaaGreatDoor
open Go.Shelf Go.RowKit Go.Proofs
variable {P : Program} {ρ : Ren}

/-- A hexadecimal digit's number. -/
def hexv (c : UInt8) : Option Nat :=
  if 48 ≤ c.toNat ∧ c.toNat ≤ 57 then some (c.toNat - 48) else if 97 ≤ c.toNat ∧ c.toNat ≤ 102 then some (c.toNat - 87) else if 65 ≤ c.toNat ∧ c.toNat ≤ 70 then some (c.toNat - 55) else none
def hexval : Nat → List UInt8 → Option Nat
  | acc, [] => some acc
  | acc, c :: l => match hexv c with | some d => hexval (acc * 16 + d) l | none => none
theorem hexv_lt {c : UInt8} {d : Nat} (h : hexv c = some d) : d < 16 := by
  unfold hexv at h
  split at h
  · obtain rfl := Option.some.inj h; omega
  · split at h
    · obtain rfl := Option.some.inj h; omega
    · split at h
      · obtain rfl := Option.some.inj h; omega
      · cases h
theorem or32_up (n : Nat) (h0 : 65 ≤ n) (h1 : n ≤ 70) : bits .or .u8 (n : Int) 32 = (n : Int) + 32 := by
  have : n = 65 ∨ n = 66 ∨ n = 67 ∨ n = 68 ∨ n = 69 ∨ n = 70 := by omega
  rcases this with rfl | rfl | rfl | rfl | rfl | rfl <;> rfl
theorem or32_low (n : Nat) (h0 : 97 ≤ n) (h1 : n ≤ 102) : bits .or .u8 (n : Int) 32 = (n : Int) := by
  have : n = 97 ∨ n = 98 ∨ n = 99 ∨ n = 100 ∨ n = 101 ∨ n = 102 := by omega
  rcases this with rfl | rfl | rfl | rfl | rfl | rfl <;> rfl
theorem or32_no : ∀ n : Fin 256, ¬ (97 ≤ n.val ∧ n.val ≤ 102) → ¬ (65 ≤ n.val ∧ n.val ≤ 70) → (bits .or .u8 (n.val : Int) 32 < 97 ∨ 103 ≤ bits .or .u8 (n.val : Int) 32) := by decide +kernel
def hexTuple (t : TypeId) : Option Nat → Value
  | some n => .tuple #[.int .u64 n, .nilIface]
  | none => .tuple #[.int .u64 0, .iface t (.int .i64 2)]
theorem pow16 {k : Nat} (h : k ≤ 14) : 16 ^ k ≤ 72057594037927936 := by
  have := Nat.pow_le_pow_right (n := 16) (by decide) h
  exact this

set_option maxHeartbeats 32000000 in
set_option maxRecDepth 100000 in
theorem Any.ParseUint_16_b64 (L : Lays.n287 P ρ) (t : ByteArray) (hne : t.size ≠ 0) (hmax : t.size ≤ 15) (w : World) :
    Calls P (ρ.f 287) #[.string t, .int .i64 16, .int .i64 64] w fun e w' => e = .returned (hexTuple (ρ.t 167) (hexval 0 t.data.toList)) ∧ w' = Lib.bytesWorld w (ρ.t 5) t := by
  have mixed := L.mixed
  have t9 := L.t9; have a9 := L.a9; have z9 := L.z9; have v9 := L.v9
  have t3 := L.t3; have a3 := L.a3; have z3 := L.z3; have v3 := L.v3
  have t53 := L.t53; have a53 := L.a53; have z53 := L.z53; have v53 := L.v53
  have t75 := L.t75; have a75 := L.a75; have z75 := L.z75; have v75 := L.v75
  have t4 := L.t4; have a4 := L.a4; have z4 := L.z4; have v4 := L.v4
  have t167 := L.t167; have a167 := L.a167; have z167 := L.z167; have v167 := L.v167
  have t5 := L.t5; have a5 := L.a5; have z5 := L.z5; have v5 := L.v5
  have t46 := L.t46; have a46 := L.a46; have z46 := L.z46; have v46 := L.v46
  have t37 := L.t37; have a37 := L.a37; have z37 := L.z37; have v37 := L.v37
  have t0 := L.t0; have a0 := L.a0; have z0 := L.z0; have v0 := L.v0
  have e321 : ∀ args w, (callFunc (ρ.f 321) args).run P w = .ok (.enter (ρ.f 321) args) w := enters_of L.f321 (by kernel_rfl) rfl
  have hemp : t.toList.isEmpty = false := by
    rw [← decide_eq_emptyBytes]
    exact decide_eq_false (fun h => hne (by rw [h]; rfl))
  have hcv := Lib.run_convert_string_bytes (P := P) w (ρ.t 9) (ρ.t 37) (ρ.t 5) t (u := .string) L.t9 L.t37 L.t5
  have hB : ∀ j, j < t.size → (Lib.bytesWorld w (ρ.t 5) t).cell? ⟨w.heap.size, j, none⟩ = some (.int .u8 (t.data.toList.getD j 0).toNat) := fun j hj => Lib.bytesWorld_cell w (ρ.t 5) t j hj
  obtain ⟨W1, hW1⟩ : ∃ W1, W1 = Lib.bytesWorld w (ρ.t 5) t := ⟨_, rfl⟩
  rw [← hW1] at hcv hB ⊢
  clear hW1
  obtain ⟨bs, hL⟩ : ∃ bs, bs = t.data.toList := ⟨_, rfl⟩
  have hLn : bs.length = t.size := by rw [hL, Lib.size_eq]
  rw [← hL] at hB ⊢
  clear hL
  obtain ⟨R, hR⟩ : ∃ R, R = hexTuple (ρ.t 167) (hexval 0 bs) := ⟨_, rfl⟩
  rw [← hR]
  have HR := Lib.hid hR
  clear hR
  have hmv : IntKind.u64.wrap (IntKind.u64.wrap 18446744073709551616 - 1) = 18446744073709551615 := by
    rw [IntKind.wrap_u64, IntKind.wrap_u64]
    decide
  go_enter L.f287, Body.n287_ntmps ρ
  go_wp2
  go_loop [12, 13, 101] (fun vu vn vi => ∃ (k acc : Nat) (a : Int), vu = .bool false ∧ vn = .int .u64 a ∧ vi = .int .i64 k ∧ k ≤ t.size ∧ Hid (a = (acc : Int) ∧ acc < 16 ^ k ∧ hexval 0 bs = hexval acc (bs.drop k)))
    (fun _ _ vi => t.size - (intOf vi).toNat)
  case atStart => exact ⟨0, 0, 0, rfl, rfl, rfl, by omega, rfl, by decide, rfl⟩
  case round =>
    obtain ⟨k, acc, a, rfl, rfl, rfl, hk, hh⟩ := hrel
    obtain ⟨ha, hacc, hdec⟩ := hh.out
    clear hh
    by_cases hkn : k < t.size
    · have hp := pow16 (k := k) (by omega)
      have a0 : 0 ≤ a := by omega
      have a1 : a < 72057594037927936 := by omega
      have hc := hB k hkn
      have hdrop : bs.drop k = bs[k]'(by omega) :: bs.drop (k + 1) := List.drop_eq_getElem_cons (by omega)
      have hget : bs.getD k 0 = bs[k]'(by omega) := by simp [List.getD, List.getElem?_eq_getElem (show k < bs.length by omega)]
      rw [hdrop] at hdec
      rw [hget] at hc
      generalize bs[k]'(by omega) = c at hc hdec
      have hc256 : c.toNat < 256 := c.toNat_lt
      clear hB hdrop hget
      cases hv : hexv c with
      | some d =>
        have hd := hexv_lt hv
        have hdec2 : hexval 0 bs = hexval (acc * 16 + d) (bs.drop (k + 1)) := by rw [hdec]; simp [hexval, hv]
        have hacc2 : acc * 16 + d < 16 ^ (k + 1) := by rw [Nat.pow_succ]; omega
        have HN : Hid (a * 16 + (d : Int) = ((acc * 16 + d : Nat) : Int) ∧ acc * 16 + d < 16 ^ (k + 1) ∧ hexval 0 bs = hexval (acc * 16 + d) (bs.drop (k + 1))) := Lib.hid ⟨by omega, hacc2, hdec2⟩
        obtain ⟨y, hy⟩ : ∃ y : Int, y = (c.toNat : Int) := ⟨_, rfl⟩
        obtain ⟨x, hx⟩ : ∃ x : Int, x = (d : Int) := ⟨_, rfl⟩
        have x0 : 0 ≤ x := by omega
        have x1 : x < 16 := by omega
        rw [← hx] at HN
        rw [← hy] at hc
        have hl : ∀ W : World, Calls P (ρ.f 321) #[.int .u8 y] W fun e w' => e = .returned (.int .u8 (bits .or .u8 y 32)) ∧ w' = W := fun W => Any.internal_strconv_lower { L with } y W
        unfold hexv at hv
        clear hdec hdec2 hacc2 hacc hp ha
        split at hv
        · rename_i h
          have y0 : 48 ≤ y := by omega
          have y1 : y ≤ 57 := by omega
          obtain rfl : y = x + 48 := by have := Option.some.inj hv; omega
          have hq : IntKind.u8.wrap (x + 48 - 48) = x := by rw [show x + 48 - 48 = x by omega]; simp [IntKind.wrap, IntKind.bits, IntKind.signed]; omega
          have hq2 : x + 48 - 48 = x := by omega
          clear hv hx h hy hl
          go_wp2
          refine ⟨⟨k + 1, acc * 16 + d, a * 16 + x, rfl, (by first | rfl | (congr 1; omega)), (by first | rfl | (congr 1; omega)), by omega, HN⟩, by simp [intOf]; omega⟩
        · rename_i hnd
          split at hv
          · rename_i h
            have hob : bits .or .u8 y 32 = y := by rw [hy]; exact or32_low _ h.1 h.2
            have y0 : 97 ≤ y := by omega
            have y1 : y ≤ 102 := by omega
            have hxy : y = x + 87 := by have := Option.some.inj hv; omega
            rw [hob] at hl
            clear hv hnd h hy hob hx
            subst hxy
            have hq : IntKind.u8.wrap (IntKind.u8.wrap (x + 87 - 97) + 10) = x := by simp [IntKind.wrap, IntKind.bits, IntKind.signed]; omega
            have hq2 : x + 87 - 97 + 10 = x := by omega
            go_wp2_with (go_at_fn (ρ.f 321); refine (hl _).mono ?_; rintro e w' ⟨rfl, rfl⟩)
            refine ⟨⟨k + 1, acc * 16 + d, a * 16 + x, rfl, (by first | rfl | (congr 1; omega)), (by first | rfl | (congr 1; omega)), by omega, HN⟩, by simp [intOf]; omega⟩
          · rename_i hnl
            split at hv
            · rename_i h
              have hob : bits .or .u8 y 32 = y + 32 := by rw [hy]; exact or32_up _ h.1 h.2
              have y0 : 65 ≤ y := by omega
              have y1 : y ≤ 70 := by omega
              have hxy : y = x + 55 := by have := Option.some.inj hv; omega
              rw [hob] at hl
              clear hv hnd hnl h hy hob hx
              subst hxy
              have hq2 : x + 55 + 32 - 97 + 10 = x := by omega
              go_wp2_with (go_at_fn (ρ.f 321); refine (hl _).mono ?_; rintro e w' ⟨rfl, rfl⟩)
              refine ⟨⟨k + 1, acc * 16 + d, a * 16 + x, rfl, (by first | rfl | (congr 1; omega)), (by first | rfl | (congr 1; omega)), by omega, HN⟩, by simp [intOf]; omega⟩
            · cases hv
      | none =>
        have hdec2 : hexval 0 bs = none := by rw [hdec]; simp [hexval, hv]
        have HD := Lib.hid hdec2
        obtain ⟨y, hy⟩ : ∃ y : Int, y = (c.toNat : Int) := ⟨_, rfl⟩
        rw [← hy] at hc
        unfold hexv at hv
        have h1 : ¬ (48 ≤ c.toNat ∧ c.toNat ≤ 57) := fun h => by rw [if_pos h] at hv; cases hv
        have h2 : ¬ (97 ≤ c.toNat ∧ c.toNat ≤ 102) := fun h => by rw [if_neg h1, if_pos h] at hv; cases hv
        have h3 : ¬ (65 ≤ c.toNat ∧ c.toNat ≤ 70) := fun h => by rw [if_neg h1, if_neg h2, if_pos h] at hv; cases hv
        have hno := or32_no ⟨c.toNat, hc256⟩ h2 h3
        have hv0 := bits_lo_u8 .or (c.toNat : Int) 32
        have hv1 := bits_hi_u8 .or (c.toNat : Int) 32
        obtain ⟨z, hz⟩ : ∃ z : Int, z = bits .or .u8 (c.toNat : Int) 32 := ⟨_, rfl⟩
        have hl : ∀ W : World, Calls P (ρ.f 321) #[.int .u8 y] W fun e w' => e = .returned (.int .u8 z) ∧ w' = W := fun W => by rw [hz, hy]; exact Any.internal_strconv_lower { L with } _ W
        simp only at hno
        rw [← hz] at hno hv0 hv1
        have y0 : 0 ≤ y := by omega
        have y1 : y < 256 := by omega
        have hny : ¬ (48 ≤ y ∧ y ≤ 57) := by omega
        clear hv h1 h2 h3 hz hy hdec hdec2 hacc hp ha hc256
        by_cases c48 : 48 ≤ y
        · have c57 : 57 < y := by omega
          clear hny
          by_cases e95 : y = 95
          · subst e95
            clear y0 y1 c48 c57
            rcases hno with hno | hno
            · go_wp2_with (go_at_fn (ρ.f 321); refine (hl _).mono ?_; rintro e w' ⟨rfl, rfl⟩)
              all_goals go_ret2
              all_goals exact ⟨by rw [HR.out, HD.out]; rfl, rfl⟩
            · go_wp2_with (go_at_fn (ρ.f 321); refine (hl _).mono ?_; rintro e w' ⟨rfl, rfl⟩)
              all_goals go_ret2
              all_goals exact ⟨by rw [HR.out, HD.out]; rfl, rfl⟩
          · have n95 : (y == 95) = false := beq_eq_false_iff_ne.2 e95
            clear e95
            rcases hno with hno | hno
            · go_wp2_with (go_at_fn (ρ.f 321); refine (hl _).mono ?_; rintro e w' ⟨rfl, rfl⟩)
              all_goals go_ret2
              all_goals exact ⟨by rw [HR.out, HD.out]; rfl, rfl⟩
            · go_wp2_with (go_at_fn (ρ.f 321); refine (hl _).mono ?_; rintro e w' ⟨rfl, rfl⟩)
              all_goals go_ret2
              all_goals exact ⟨by rw [HR.out, HD.out]; rfl, rfl⟩
        · have c47 : y < 48 := by omega
          clear hny c48
          rcases hno with hno | hno
          · go_wp2_with (go_at_fn (ρ.f 321); refine (hl _).mono ?_; rintro e w' ⟨rfl, rfl⟩)
            all_goals go_ret2
            all_goals exact ⟨by rw [HR.out, HD.out]; rfl, rfl⟩
          · go_wp2_with (go_at_fn (ρ.f 321); refine (hl _).mono ?_; rintro e w' ⟨rfl, rfl⟩)
            all_goals go_ret2
            all_goals exact ⟨by rw [HR.out, HD.out]; rfl, rfl⟩
    · -- THE BYTES ARE AT AN END
      have hkk : k = t.size := by omega
      subst hkk
      have hF : hexval acc (bs.drop t.size) = some acc := by rw [List.drop_eq_nil_of_le (by omega)]; rfl
      have HE := Lib.hid (show R = .tuple #[.int .u64 a, .nilIface] by rw [HR.out, hdec, hF, ha]; rfl)
      clear hacc hF hdec ha
      go_wp2
      go_ret2
      exact ⟨by rw [HE.out]; rfl, rfl⟩
end Go.Proofs.YtjapnbghnnbamaaGreatDoor
