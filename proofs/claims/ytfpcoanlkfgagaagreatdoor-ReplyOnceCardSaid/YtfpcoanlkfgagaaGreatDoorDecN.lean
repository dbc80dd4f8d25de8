/- head.MayText and head.MayName, without a bound on rounds. -/
import Derived.Test.YtfpcoanlkfgagaaGreatDoorPAx1
import Derived.Test.YtfpcoanlkfgagaaGreatDoorDecB
import Derived.Test.YtfpcoanlkfgagaaGreatDoorHex16B
import Derived.Test.YtfpcoanlkfgagaaGreatDoorShelf
import Derived.Test.YtfpcoanlkfgagaaGreatDoorExt
namespace Go.Proofs.YtfpcoanlkfgagaaGreatDoor.DecT
open Go.RowKit Go.Proofs.YtfpcoanlkfgagaaGreatDoorW.PrintWords Go.Proofs.YtfpcoanlkfgagaaGreatDoor.Ext
/-- What a function of a number of rounds comes to, if it comes to anything. -/
noncomputable def evT (g : Nat → Option Bool) : Option Bool := open Classical in if h : ∃ k, (g k).isSome = true then g h.choose else none
theorem evT_some {g : Nat → Option Bool} {r : Bool} (h : evT g = some r) : ∃ k, g k = some r := by
  unfold evT at h
  split at h
  · exact ⟨_, h⟩
  · cases h
theorem mono_le {g : Nat → Option Bool} (hm : ∀ k, LeO (g k) (g (k + 1))) {k : Nat} {r : Bool} (h : g k = some r) : ∀ n, g (k + n) = some r
  | 0 => h
  | n + 1 => hm (k + n) r (mono_le hm h n)
theorem evT_eq {g : Nat → Option Bool} (hm : ∀ k, LeO (g k) (g (k + 1))) {k : Nat} {r : Bool} (h : g k = some r) : evT g = some r := by
  unfold evT
  have hx : ∃ k, (g k).isSome = true := ⟨k, by rw [h]; rfl⟩
  rw [dif_pos hx]
  obtain ⟨r2, h2⟩ := Option.isSome_iff_exists.1 hx.choose_spec
  have a := mono_le hm h hx.choose
  have b := mono_le hm h2 k
  rw [Nat.add_comm] at b
  rw [h2, ← b, a]
noncomputable def mayText.f (a0 : ByteArray) : Option (Bool) := evT (fun k => PA.head_MayText.f k a0)
theorem mayText.calls (a0 : ByteArray) (r : Bool) (w : World) (h : mayText.f a0 = some r) :
    Calls Tryz.prog 56 #[.string a0] w fun e w' => e = .returned (.bool r) ∧ Below w.heap.size w w' := by
  obtain ⟨k, hk⟩ := evT_some h
  refine (PA.head_MayText.calls k a0 r w hk).mono ?_
  rintro e w' ⟨he, n, rfl⟩
  exact ⟨he, pw_below_drewN (Below.refl _ _) n⟩
noncomputable def mayName.f (a0 : ByteArray) : Option (Bool) := evT (fun k => PA.head_MayName.f k a0)
theorem mayName.calls (a0 : ByteArray) (r : Bool) (w : World) (h : mayName.f a0 = some r) :
    Calls Tryz.prog 58 #[.string a0] w fun e w' => e = .returned (.bool r) ∧ Below w.heap.size w w' := by
  obtain ⟨k, hk⟩ := evT_some h
  refine (PA.head_MayName.calls k a0 r w hk).mono ?_
  rintro e w' ⟨he, n, rfl⟩
  exact ⟨he, pw_below_drewN (Below.refl _ _) n⟩
end Go.Proofs.YtfpcoanlkfgagaaGreatDoor.DecT
namespace Go.Proofs.YtfpcoanlkfgagaaGreatDoor.DecN
open Go.RowKit Go.Proofs.YtfpcoanlkfgagaaGreatDoorW.PrintWords Go.Proofs.YtfpcoanlkfgagaaGreatDoorW.PrintLast Go.Proofs.YtfpcoanlkfgagaaGreatDoor.Ext Go.Proofs.YtfpcoanlkfgagaaGreatDoor.Dec Go.Proofs.YtfpcoanlkfgagaaGreatDoor.DecW Go.Proofs.YtfpcoanlkfgagaaGreatDoor.DecA Go.Proofs.YtfpcoanlkfgagaaGreatDoor.DecT
set_option linter.unusedVariables false
set_option linter.unusedSimpArgs false
abbrev hexset : List UInt8 := [48, 49, 50, 51, 52, 53, 54, 55, 56, 57, 97, 98, 99, 100, 101, 102, 65, 66, 67, 68, 69, 70]
def lineS (s : ByteArray) : List UInt8 := Lib.trimSuffix s.data.toList [13, 10]
def signS (s : ByteArray) : List UInt8 := Lib.trimRightS (Lib.cut (lineS s) [59]).1 [32, 9]
/-- Behind the tests of the text: the digits. -/
def digits (sg : List UInt8) : Option (Int × Bool) :=
  if sg.length < 1 then some (0, false) else if 8 < sg.length then some (0, false) else if Lib.trimS sg hexset ≠ [] then some (0, false) else (hexval 0 sg).map fun (m : Nat) => ((m : Int), true)
noncomputable def numF (s : ByteArray) : Option (Int × Bool) :=
  if s.size < 4294967281 then
    if Lib.hasSuffix s.data.toList [13, 10] = false then some (0, false)
    else if (Lib.cut (lineS s) [59]).2.2 = true then
      (mayText.f ⟨(Lib.cut (lineS s) [59]).2.1.toArray⟩).bind fun m => if m = false then some (0, false) else digits (signS s)
    else digits (signS s)
  else none
theorem trimSuffix_le (l p : List UInt8) : (Lib.trimSuffix l p).length ≤ l.length := by
  unfold Lib.trimSuffix
  split <;> simp
theorem toSize (l : List UInt8) : (⟨l.toArray⟩ : ByteArray).size = l.length := rfl
theorem ne_empty {l : List UInt8} : ((⟨l.toArray⟩ : ByteArray) == ⟨#[]⟩) = (l == []) := by
  cases l with
  | nil => rfl
  | cons a l => rfl
theorem cut_call (s : ByteArray) (w : World) (hs : s.size < 4294967281) (hG : Glob w) :
    Calls Tryz.prog 57 #[.string ⟨(lineS s).toArray⟩, .string ⟨#[59]⟩] w fun e w' => e = .returned (.tuple #[.string ⟨(Lib.cut (lineS s) [59]).1.toArray⟩, .string ⟨(Lib.cut (lineS s) [59]).2.1.toArray⟩, .bool (Lib.cut (lineS s) [59]).2.2]) ∧ Below w.heap.size w w' := by
  have hl : (⟨(lineS s).toArray⟩ : ByteArray).size < 4294967281 := by
    rw [toSize]
    have := trimSuffix_le s.data.toList [13, 10]
    rw [data_length] at this
    unfold lineS
    omega
  refine (strings_Cut.calls ⟨(lineS s).toArray⟩ ⟨#[59]⟩ _ _ _ w hG (by unfold strings_Cut.f; rw [if_pos hl])).mono ?_
  rintro e w' ⟨he, n, rfl⟩
  exact ⟨he, pw_below_drewN (Below.refl _ _) n⟩
theorem suffix_call (s : ByteArray) (w : World) (hs : s.size < 4294967281) :
    Calls Tryz.prog 69 #[.string s, .string ⟨#[13, 10]⟩] w fun e w' => e = .returned (.tuple #[.string ⟨(lineS s).toArray⟩, .bool (Lib.hasSuffix s.data.toList [13, 10])]) ∧ w = w' :=
  (Tryz.strings_CutSuffix s ⟨#[13, 10]⟩ w (by omega)).mono fun e w' ⟨h1, h2⟩ => ⟨h1, h2.symm⟩
theorem cut_len (s : ByteArray) : (Lib.cut (lineS s) [59]).1.length ≤ s.size := by
  have h1 := trimSuffix_le s.data.toList [13, 10]
  rw [data_length] at h1
  unfold Lib.cut
  split
  · simp only [List.length_take]; unfold lineS at *; omega
  · exact h1
theorem sign_len (s : ByteArray) : (signS s).length ≤ s.size := by
  have h1 := cut_len s
  have h2 : ∀ (l : List UInt8) (p : UInt8 → Bool), (l.dropWhile p).length ≤ l.length := fun l p => by
    induction l with
    | nil => simp
    | cons a l ih => simp only [List.dropWhile_cons]; split <;> simp only [List.length_cons] <;> omega
  unfold signS Lib.trimRightS
  have := h2 (Lib.cut (lineS s) [59]).1.reverse (fun x => List.contains [32, 9] x)
  simp only [List.length_reverse] at this ⊢
  omega
theorem right_call (s : ByteArray) (w : World) (hs : s.size < 4294967281) :
    Calls Tryz.prog 70 #[.string ⟨(Lib.cut (lineS s) [59]).1.toArray⟩, .string ⟨#[32, 9]⟩] w fun e w' => e = .returned (.string ⟨(signS s).toArray⟩) ∧ Below w.heap.size w w' :=
  Tryz.strings_TrimRight _ _ w (by rw [toSize]; have := cut_len s; omega) (by decide) (by intro j b hb; have hm := List.mem_of_getElem? hb; simp at hm; rcases hm with rfl | rfl <;> decide)
theorem trim_call (sg : List UInt8) (w : World) (hs : sg.length ≤ 8) :
    Calls Tryz.prog 42 #[.string ⟨sg.toArray⟩, .string ⟨#[48, 49, 50, 51, 52, 53, 54, 55, 56, 57, 97, 98, 99, 100, 101, 102, 65, 66, 67, 68, 69, 70]⟩] w fun e w' => e = .returned (.string ⟨(Lib.trimS sg hexset).toArray⟩) ∧ Below w.heap.size w w' :=
  strings_Trim.calls ⟨sg.toArray⟩ _ _ w (by unfold strings_Trim.f; rw [if_pos]; exact ⟨by rw [toSize]; omega, by decide, by decide⟩)
theorem parse_call (sg : List UInt8) (n : Nat) (w : World) (h0 : ¬ sg.length < 1) (hs : sg.length ≤ 8) (hv : hexval 0 sg = some n) :
    Calls Tryz.prog 43 #[.string ⟨sg.toArray⟩, .int .i64 16, .int .i64 64] w fun e w' => e = .returned (.tuple #[.int .i64 n, .nilIface]) ∧ Below w.heap.size w w' := by
  refine (Any.strconv_ParseInt_16 Tryz.laysC174 ⟨sg.toArray⟩ (by rw [toSize]; omega) (by rw [toSize]; omega) n hv w).mono ?_
  rintro e w' ⟨he, hw⟩
  refine ⟨he, ?_⟩
  rcases hw with rfl | ⟨t, rfl⟩
  · exact Below.refl _ _
  · exact Lib.bytesWorld_below _ _ _
def Post (w : World) (n : Int) (is : Bool) (e : Ending) (w' : World) : Prop := e = .returned (.tuple #[.int .i64 n, .bool is]) ∧ Below w.heap.size w w'
set_option maxHeartbeats 4000000 in
set_option maxRecDepth 100000 in
theorem number_calls (s : ByteArray) (n : Int) (is : Bool) (w : World) (hG : Glob w) (h : numF s = some (n, is)) :
    Calls Tryz.prog 46 #[.string s] w fun e w' => e = .returned (.tuple #[.int .i64 n, .bool is]) ∧ Below w.heap.size w w' := by
  unfold numF at h
  split at h
  case isFalse => cases h
  rename_i hs
  have HG := Aside0.mk hG
  have C1' := fun w => suffix_call s w hs
  have C2' := fun w hG => cut_call s w hs hG
  have C3' := fun w => right_call s w hs
  have hsl := sign_len s
  generalize lineS s = ln at C1' C2' C3' h
  generalize Lib.cut ln [59] = cc at C2' C3' h
  obtain ⟨c1, c2, more⟩ := cc
  simp only at C2' C3' h
  generalize signS s = sg at C3' h hsl
  have C5' := fun w hs => trim_call sg w hs
  have C6' := fun n w h0 hs hv => parse_call sg n w h0 hs hv
  have C4' := fun r w hr => mayText.calls ⟨c2.toArray⟩ r w hr
  have e1 : (⟨sg.toArray⟩ : ByteArray).size = sg.length := rfl
  obtain ⟨SG, hSG⟩ : ∃ SG : ByteArray, SG = ⟨sg.toArray⟩ := ⟨_, rfl⟩
  rw [← hSG] at C3' C5' C6' e1
  clear hSG
  generalize (⟨ln.toArray⟩ : ByteArray) = LN at C1' C2'
  generalize (⟨c1.toArray⟩ : ByteArray) = S1 at C2' C3'
  generalize (⟨c2.toArray⟩ : ByteArray) = S2 at C2' C4' h
  clear hs hG
  generalize Lib.hasSuffix s.data.toList [13, 10] = b at C1' h
  have C1 := Aside0.mk C1'
  have C2 := Aside0.mk C2'
  have C3 := Aside0.mk C3'
  have C4o := Aside0.mk C4'
  have C5o := Aside0.mk C5'
  have C6o := Aside0.mk C6'
  have E1 := Aside0.mk e1
  clear C1' C2' C3' C4' C5' C6' e1 hsl
  cases b with
  | false =>
    simp only [if_true, Option.some.injEq, Prod.mk.injEq] at h
    obtain ⟨rfl, rfl⟩ := h
    clear C4o C5o C6o E1
    cases more
    all_goals go_enter Tryz.func46, Tryz.ntmps46
    all_goals go_wp2_with (first | (go_at_call 69; (with_reducible refine (C1.out _).mono ?_); rintro e w1 ⟨rfl, rfl⟩) | (go_at_call 57; (with_reducible refine (C2.out _ HG.out).mono ?_); rintro e w2 ⟨rfl, hb⟩; have HB := Aside0.mk hb; clear hb) | (go_at_call 70; (with_reducible refine (C3.out _).mono ?_); rintro e w3 ⟨rfl, hb⟩; have n1 := Aside0.mk (below_step HB.out hb); clear HB hb; have HB := n1; clear n1))
    all_goals go_ret2
    all_goals exact ⟨rfl, HB.out⟩
  | true =>
    rw [if_neg (by decide)] at h
    have key : ∀ (hd : digits sg = some (n, is)) (hm : more = false ∨ (more = true ∧ mayText.f S2 = some true)), Calls Tryz.prog 46 #[.string s] w fun e w' => e = .returned (.tuple #[.int .i64 n, .bool is]) ∧ Below w.heap.size w w' := by
      intro hd hm
      clear h
      have C4 : Aside0 (more = true → ∀ w : World, Calls Tryz.prog 56 #[.string S2] w fun e w' => e = .returned (.bool true) ∧ Below w.heap.size w w') := ⟨fun hmt w => C4o.out true w (by rcases hm with h | h; (rw [h] at hmt; cases hmt); exact h.2)⟩
      clear hm C4o
      unfold digits at hd
      by_cases k1 : sg.length < 1
      · rw [if_pos k1] at hd
        simp only [Option.some.injEq, Prod.mk.injEq] at hd
        obtain ⟨rfl, rfl⟩ := hd
        have z : SG.size = 0 := by rw [E1.out]; omega
        clear k1 C5o C6o
        cases more
        all_goals go_enter Tryz.func46, Tryz.ntmps46
        all_goals go_wp2_with (first | (go_at_call 69; (with_reducible refine (C1.out _).mono ?_); rintro e w1 ⟨rfl, rfl⟩) | (go_at_call 57; (with_reducible refine (C2.out _ HG.out).mono ?_); rintro e w2 ⟨rfl, hb⟩; have HB := Aside0.mk hb; clear hb) | (go_at_call 70; (with_reducible refine (C3.out _).mono ?_); rintro e w3 ⟨rfl, hb⟩; have n1 := Aside0.mk (below_step HB.out hb); clear HB hb; have HB := n1; clear n1) | (go_at_call 56; (with_reducible refine (C4.out (by first | rfl | trivial) _).mono ?_); rintro e w4 ⟨rfl, hb⟩; have n1 := Aside0.mk (below_step HB.out hb); clear HB hb; have HB := n1; clear n1))
        all_goals go_ret2
        all_goals exact ⟨rfl, HB.out⟩
      · rw [if_neg k1] at hd
        by_cases k2 : 8 < sg.length
        · rw [if_pos k2] at hd
          simp only [Option.some.injEq, Prod.mk.injEq] at hd
          obtain ⟨rfl, rfl⟩ := hd
          have z1 : decide (SG.size < 1) = false := decide_eq_false (by rw [E1.out]; exact k1)
          have z2 : 8 < SG.size := by rw [E1.out]; exact k2
          have z3 : decide (8 < SG.size) = true := decide_eq_true z2
          have z4 : 0 < SG.size := by omega
          clear k1 k2 C5o C6o
          cases more
          all_goals go_enter Tryz.func46, Tryz.ntmps46
          all_goals go_wp2_with (first | (go_at_call 69; (with_reducible refine (C1.out _).mono ?_); rintro e w1 ⟨rfl, rfl⟩) | (go_at_call 57; (with_reducible refine (C2.out _ HG.out).mono ?_); rintro e w2 ⟨rfl, hb⟩; have HB := Aside0.mk hb; clear hb) | (go_at_call 70; (with_reducible refine (C3.out _).mono ?_); rintro e w3 ⟨rfl, hb⟩; have n1 := Aside0.mk (below_step HB.out hb); clear HB hb; have HB := n1; clear n1) | (go_at_call 56; (with_reducible refine (C4.out (by first | rfl | trivial) _).mono ?_); rintro e w4 ⟨rfl, hb⟩; have n1 := Aside0.mk (below_step HB.out hb); clear HB hb; have HB := n1; clear n1))
          all_goals go_ret2
          all_goals exact ⟨rfl, HB.out⟩
        · rw [if_neg k2] at hd
          have z1 : decide (SG.size < 1) = false := decide_eq_false (by rw [E1.out]; exact k1)
          have z2 : SG.size ≤ 8 := by rw [E1.out]; omega
          have z3 : decide (8 < SG.size) = false := decide_eq_false (by omega)
          have z4 : 0 < SG.size := by rw [E1.out]; omega
          have C5 := Aside0.mk (fun w => C5o.out w (by omega))
          by_cases k3 : Lib.trimS sg hexset = []
          · rw [if_neg (by simpa using k3)] at hd
            rw [k3] at C5
            obtain ⟨v, hv, hd⟩ := Option.map_eq_some_iff.1 hd
            simp only [Prod.mk.injEq] at hd
            obtain ⟨rfl, rfl⟩ := hd
            have C6 := Aside0.mk (fun w => C6o.out v w k1 (by omega) hv)
            obtain ⟨V, hV⟩ : ∃ V : Int, V = (v : Int) := ⟨_, rfl⟩
            rw [← hV] at C6 ⊢
            clear hV hv k1 k2 k3 C5o C6o
            cases more
            all_goals go_enter Tryz.func46, Tryz.ntmps46
            all_goals go_wp2_with (first | (go_at_call 69; (with_reducible refine (C1.out _).mono ?_); rintro e w1 ⟨rfl, rfl⟩) | (go_at_call 57; (with_reducible refine (C2.out _ HG.out).mono ?_); rintro e w2 ⟨rfl, hb⟩; have HB := Aside0.mk hb; clear hb) | (go_at_call 70; (with_reducible refine (C3.out _).mono ?_); rintro e w3 ⟨rfl, hb⟩; have n1 := Aside0.mk (below_step HB.out hb); clear HB hb; have HB := n1; clear n1) | (go_at_call 56; (with_reducible refine (C4.out (by first | rfl | trivial) _).mono ?_); rintro e w4 ⟨rfl, hb⟩; have n1 := Aside0.mk (below_step HB.out hb); clear HB hb; have HB := n1; clear n1) | (go_at_call 42; (with_reducible refine (C5.out _).mono ?_); rintro e w5 ⟨rfl, hb⟩; have n1 := Aside0.mk (below_step HB.out hb); clear HB hb; have HB := n1; clear n1) | (go_at_call 43; (with_reducible refine (C6.out _).mono ?_); rintro e w6 ⟨rfl, hb⟩; have n1 := Aside0.mk (below_step HB.out hb); clear HB hb; have HB := n1; clear n1))
            all_goals go_quiet (fail)
            all_goals go_wp2
            all_goals go_ret2
            all_goals exact ⟨rfl, pw_below_drewN HB.out _⟩
          · rw [if_pos (by simpa using k3)] at hd
            simp only [Option.some.injEq, Prod.mk.injEq] at hd
            obtain ⟨rfl, rfl⟩ := hd
            obtain ⟨b0, r0, hbr⟩ := List.exists_cons_of_ne_nil k3
            have hTT : ((⟨(Lib.trimS sg hexset).toArray⟩ : ByteArray) == ⟨#[]⟩) = false := by rw [ne_empty]; simpa using k3
            have hTL : (⟨(Lib.trimS sg hexset).toArray⟩ : ByteArray).toList.isEmpty = false := by rw [← decide_eq_emptyBytes]; exact decide_eq_false (fun h => by have := congrArg ByteArray.size h; rw [toSize, hbr] at this; simp at this)
            generalize (⟨(Lib.trimS sg hexset).toArray⟩ : ByteArray) = TT at C5 hTT hTL
            have hT2 : (TT != ⟨#[]⟩) = true := by simp only [bne, hTT]; rfl
            clear hbr k1 k2 k3 C5o C6o
            cases more
            all_goals go_enter Tryz.func46, Tryz.ntmps46
            all_goals go_wp2_with (first | (go_at_call 69; (with_reducible refine (C1.out _).mono ?_); rintro e w1 ⟨rfl, rfl⟩) | (go_at_call 57; (with_reducible refine (C2.out _ HG.out).mono ?_); rintro e w2 ⟨rfl, hb⟩; have HB := Aside0.mk hb; clear hb) | (go_at_call 70; (with_reducible refine (C3.out _).mono ?_); rintro e w3 ⟨rfl, hb⟩; have n1 := Aside0.mk (below_step HB.out hb); clear HB hb; have HB := n1; clear n1) | (go_at_call 56; (with_reducible refine (C4.out (by first | rfl | trivial) _).mono ?_); rintro e w4 ⟨rfl, hb⟩; have n1 := Aside0.mk (below_step HB.out hb); clear HB hb; have HB := n1; clear n1) | (go_at_call 42; (with_reducible refine (C5.out _).mono ?_); rintro e w5 ⟨rfl, hb⟩; have n1 := Aside0.mk (below_step HB.out hb); clear HB hb; have HB := n1; clear n1))
            all_goals go_ret2
            all_goals exact ⟨rfl, HB.out⟩
    by_cases km : more = true
    · rw [if_pos km] at h
      cases hm : mayText.f S2 with
      | none => rw [hm] at h; cases h
      | some m =>
        rw [hm] at h
        cases m with
        | true => exact key (by simpa using h) (.inr ⟨km, hm⟩)
        | false =>
          simp only [Option.bind_some, if_true, Option.some.injEq, Prod.mk.injEq] at h
          obtain ⟨rfl, rfl⟩ := h
          have C4 := Aside0.mk (fun (hm' : more = true) w => C4o.out false w hm)
          clear key hm C4o C5o C6o
          subst km
          go_enter Tryz.func46, Tryz.ntmps46
          go_wp2_with (first | (go_at_call 69; (with_reducible refine (C1.out _).mono ?_); rintro e w1 ⟨rfl, rfl⟩) | (go_at_call 57; (with_reducible refine (C2.out _ HG.out).mono ?_); rintro e w2 ⟨rfl, hb⟩; have HB := Aside0.mk hb; clear hb) | (go_at_call 70; (with_reducible refine (C3.out _).mono ?_); rintro e w3 ⟨rfl, hb⟩; have n1 := Aside0.mk (below_step HB.out hb); clear HB hb; have HB := n1; clear n1) | (go_at_call 56; (with_reducible refine (C4.out (by first | rfl | trivial) _).mono ?_); rintro e w4 ⟨rfl, hb⟩; have n1 := Aside0.mk (below_step HB.out hb); clear HB hb; have HB := n1; clear n1))
          go_ret2
          exact ⟨rfl, HB.out⟩
    · rw [if_neg km] at h
      exact key h (.inl (by simpa using km))
end Go.Proofs.YtfpcoanlkfgagaaGreatDoor.DecN
