/- The law's hex: a number's hexadecimal digits; appends as steps of a region that draws. -/
import Derived.Test.YtfpcoanlkfgagaaDoorDecQ
import Derived.Lib.AppendStr
import Derived.Laws.DeepStrings4
import Derived.Below
import Derived.Deep.Draws
import Derived.Deep.AppendLies
import Derived.Maps.AppendAt
import Derived.OwnWalk
import Derived.Laws.BytesArg
import Derived.Laws.MakeOwn
import Derived.Laws.OwnMore
import Derived.Deep.OwnRows
import Derived.Tactics
import Derived.Lib.ConvBytes
import Derived.Laws.Slices
import Derived.WalkKit
import Derived.KernelRfl
import Derived.RowKit3
import Derived.Deep.LoopGhost
import Derived.Deep.QuietTactic
import Derived.BigQuiet
import Derived.WideLaws
import Derived.Deep.DeepCutAuto
import Derived.Deep.CutBlock
import Derived.Deep.RegionHeld3
import Derived.Laws.Rows
import Derived.Lib.AppendStr
import Derived.ArgAppend
import Derived.Laws.IdiomCopy
import Derived.OrdersHeld
import Derived.Laws.BitsLemmas
import Derived.RowKit
import Derived.WalkMore
import Derived.Test.YtfpcoanlkfgagaaDoorWWords
import Derived.Test.YtfpcoanlkfgagaaDoorWLast
import Derived.Test.YtfpcoanlkfgagaaDoorWMore
import Derived.Test.YtfpcoanlkfgagaaDoorWTab
namespace Go.Proofs.YtfpcoanlkfgagaaDoor.DecX
open Go.RowKit Go.Proofs.YtfpcoanlkfgagaaDoorW.PrintWords Go.Proofs.YtfpcoanlkfgagaaDoorW.PrintLast Go.Proofs.YtfpcoanlkfgagaaDoor.Ext Go.Proofs.YtfpcoanlkfgagaaDoor.Dec Go.Proofs.YtfpcoanlkfgagaaDoor.DecW Go.Proofs.YtfpcoanlkfgagaaDoor.DecA
set_option linter.unusedVariables false
set_option linter.unusedSimpArgs false
theorem hexF_succ (f n : Nat) : hexF (f + 1) n = (if n < 16 then [] else hexF f (n / 16)) ++ [hexdig (n % 16)] := rfl
theorem hexF_fuel : ∀ (f k : Nat), 1 ≤ f → k < 16 ^ f → hexF (f + 1) k = hexF f k
  | 0, _, h, _ => absurd h (by decide)
  | 1, k, _, hk => by
    have : k < 16 := by simpa using hk
    simp [hexF_succ, this]
  | f + 2, k, _, hk => by
    have e1 := hexF_succ (f + 2) k
    have e2 : hexF (f + 2) k = _ := hexF_succ (f + 1) k
    rw [e1, e2]
    by_cases h : k < 16
    · simp only [if_pos h]
    · have hd : k / 16 < 16 ^ (f + 1) := by rw [Nat.pow_succ] at hk; omega
      simp only [if_neg h]
      rw [hexF_fuel (f + 1) (k / 16) (by omega) hd]
def pre (m : Nat) : List Int := if m = 0 then [] else hexL m
theorem pre_step (m : Nat) (h0 : 0 < m) (h : m < 65536) : pre m = pre (m / 16) ++ [hexdig (m % 16)] := by
  unfold pre hexL
  rw [if_neg (by omega)]
  by_cases h1 : m < 16
  · rw [if_pos (by omega)]
    rw [hexF]
    simp [h1]
  · rw [if_neg (by omega), hexF_fuel 3 (m / 16) (by decide) (by omega), hexF.eq_def 4]
    simp [h1]
theorem dig_str : ∀ r : Fin 16, ((⟨#[48, 49, 50, 51, 52, 53, 54, 55, 56, 57, 97, 98, 99, 100, 101, 102]⟩ : ByteArray).extract r.val (r.val + 1)) = strOfNums [hexdig r.val] := by decide +kernel
theorem str_app (x : Int) (acc : List Int) : strOfNums [x] ++ strOfNums acc = strOfNums (x :: acc) := by
  apply ByteArray.ext
  simp [strOfNums]
theorem str_size (acc : List Int) : (strOfNums acc).size = acc.length := by unfold strOfNums; rw [DecN.toSize]; simp
theorem str_ne (x : Int) (acc : List Int) : (strOfNums (x :: acc) == ⟨#[]⟩) = false ∧ (strOfNums (x :: acc)).toList.isEmpty = false := by
  unfold strOfNums
  exact ⟨by rw [List.map_cons, DecN.ne_empty]; rfl, by rw [List.map_cons, DecR.ne_empty2]; rfl⟩
set_option maxHeartbeats 4000000 in
set_option maxRecDepth 100000 in
theorem hex_calls (n : Nat) (w : World) (h1 : 1 ≤ n) (h2 : n ≤ 5000) : Calls Tryd.prog 11 #[.int .i64 n] w fun e w' => e = .returned (.string (strOfNums (hexL n))) ∧ w = w' := by
  have H1 := Aside0.mk h1
  have H2 := Aside0.mk h2
  have hb0 : (0 : Int) ≤ n := by omega
  have hb1 : (n : Int) ≤ 5000 := by omega
  clear h1 h2
  go_enter Tryd.func11, Tryd.ntmps11
  go_wp2
  go_loopg [0, 3] 4 (fun kq v0 v3 w' => ∃ (m : Nat) (acc : List Int), v0 = .int .i64 (m : Int) ∧ v3 = .string (strOfNums acc) ∧ Aside0 (m ≤ 5000 ∧ m < 16 ^ kq ∧ kq ≤ 4 ∧ hexL n = pre m ++ acc ∧ (m = 0 → acc ≠ []) ∧ acc.length + kq ≤ 4) ∧ Aside0 (w = w'))
  case atStart => exact ⟨n, [], rfl, rfl, ⟨H2.out, by have := H2.out; omega, by decide, by have := H1.out; unfold pre; rw [if_neg (by omega)]; simp, by have := H1.out; omega, by simp⟩, ⟨rfl⟩⟩
  case round =>
    obtain ⟨m, acc, rfl, rfl, HI, HW⟩ := hrel
    have m0 : (0 : Int) ≤ m := by omega
    have m1 : (m : Int) ≤ 5000 := by have := HI.out.1; omega
    by_cases hm : 0 < m
    · have c1 : decide ((m : Int) > 0) = true := decide_eq_true (by omega)
      have c2 : decide (0 < m) = true := decide_eq_true hm
      have hr := dig_str ⟨m % 16, Nat.mod_lt _ (by decide)⟩
      simp only at hr
      have HM := Aside0.mk hm
      have r1 : ((m : Int) % 16).toNat = m % 16 := by omega
      have r2 : ((m : Int) % 16 + 1).toNat = m % 16 + 1 := by omega
      have r3 : (0 : Int) ≤ (m : Int) % 16 := by omega
      have r4 : (m : Int) % 16 + 1 ≤ 16 := by omega
      have hsl : ∀ W : World, (Instr.slice 9 (.string ⟨#[48, 49, 50, 51, 52, 53, 54, 55, 56, 57, 97, 98, 99, 100, 101, 102]⟩) (some (.int .i64 ((m : Int) % 16))) (some (.int .i64 ((m : Int) % 16 + 1))) none).run Tryd.prog W = .ok (.string (strOfNums [hexdig (m % 16)])) W := fun W => by
        rw [run_slice_string_if W 9 _ .i64 .i64 _ _ Tryd.underlying9, if_pos ⟨by omega, by show _ ≤ (16 : Int); exact r4⟩, if_pos ⟨r3, by omega⟩, r1, r2, hr]
      have hap := str_app (hexdig (m % 16)) acc
      have hz1 : (strOfNums [hexdig (m % 16)]).size = 1 := rfl
      have hz2 : (strOfNums acc).size = acc.length := str_size acc
      obtain ⟨D1, hD1⟩ : ∃ D1, D1 = strOfNums [hexdig (m % 16)] := ⟨_, rfl⟩
      rw [← hD1] at hsl hap hz1
      obtain ⟨S1, hS1⟩ : ∃ S1, S1 = strOfNums acc := ⟨_, rfl⟩
      rw [← hS1] at hap hz2 ⊢
      have hsum : D1.size + S1.size ≤ 9223372036854775807 := by rw [hz1, hz2]; have := HI.out.2.2.2.2.2; omega
      have hsum2 := size_norm hsum
      have HAP := Aside0.mk hap
      clear hap hz1 hz2 hD1 hS1
      clear hm hr r1 r2 r3 r4
      go_wp2
      go_roundg (gk - 1)
      case measure => have := HI.out.2.1; have := HM.out; cases gk with
        | zero => simp at this; omega
        | succ g => omega
      case rel => exact ⟨m / 16, hexdig (m % 16) :: acc, by first | rfl | (congr 1; omega), by first | rfl | rw [HAP.out], ⟨by have := HI.out.1; omega, by
        have h1 := HI.out.2.1
        have h2 := HM.out
        cases gk with
        | zero => simp at h1; omega
        | succ g => rw [Nat.pow_succ] at h1; show m / 16 < 16 ^ g; omega, by have := HI.out.2.2.1; omega, by rw [HI.out.2.2.2.1, pre_step m HM.out (by have := HI.out.1; omega), List.append_assoc]; rfl, fun _ => by simp, by have := HI.out.2.2.2.2.2; have h1 := HI.out.2.1; have := HM.out; cases gk with
        | zero => simp at h1; omega
        | succ g => simp only [List.length_cons]; show acc.length + 1 + g ≤ 4; omega⟩, HW⟩
    · have h0 : m = 0 := by omega
      subst h0
      have ha := HI.out.2.2.2.2.1 rfl
      have hx : hexL n = acc := by have := HI.out.2.2.2.1; simpa [pre] using this
      cases acc with
      | nil => exact absurd rfl ha
      | cons x acc =>
        have hn := str_ne x acc
        have n1 := hn.1
        have n2 := hn.2
        have HX := Aside0.mk hx
        clear hm ha hx hn m0 m1
        go_wp2
        go_ret
        exact ⟨by rw [HX.out]; rfl, HW.out⟩

end Go.Proofs.YtfpcoanlkfgagaaDoor.DecX
