/- The reference's May, Line, Text and Same (as the print has them), plainly. -/
import Derived.Test.YtjapnbghnnbamaaGreatDoorR
import Derived.Test.YtjapnbghnnbamaaGreatDoorPRy
import Derived.Test.YtjapnbghnnbamaaGreatDoorT
namespace Go.Proofs.YtjapnbghnnbamaaGreatDoor.Rt
open Go.RowKit Go.Proofs.YtjapnbghnnbamaaGreatDoorW.PrintWords Go.Proofs.YtjapnbghnnbamaaGreatDoor.PR Go.Proofs.YtjapnbghnnbamaaGreatDoor.K Go.Proofs.YtjapnbghnnbamaaGreatDoor.S Go.Proofs.YtjapnbghnnbamaaGreatDoor.R
open Go.Proofs.YtjapnbghnnbamaaGreatDoor.L (lineL MayE)
open Go.Proofs.YtjapnbghnnbamaaGreatDoor.T (textL textS textL_succ textL_le TB)
open Go.Proofs.YtjapnbghnnbamaaGreatDoor.Plain (quote)
set_option linter.unusedVariables false
set_option linter.unusedSimpArgs false
theorem word_eq (k : Int) : odometerref23_word.f k = some (kn k) := by
  unfold odometerref23_word.f
  simp only [Option.bind_some]
  by_cases h1 : k < 1
  · rw [if_pos h1]
    unfold kn
    rw [if_neg (by omega), if_neg (by omega), if_neg (by omega), if_neg (by omega), if_neg (by omega), if_neg (by omega), if_neg (by omega)]
  · rw [if_neg h1]
    by_cases h2 : k > 7
    · rw [if_pos h2]
      unfold kn
      rw [if_neg (by omega), if_neg (by omega), if_neg (by omega), if_neg (by omega), if_neg (by omega), if_neg (by omega), if_neg (by omega)]
    · rw [if_neg h2]
      have ek : k = 1 ∨ k = 2 ∨ k = 3 ∨ k = 4 ∨ k = 5 ∨ k = 6 ∨ k = 7 := by omega
      rcases ek with rfl | rfl | rfl | rfl | rfl | rfl | rfl <;> rfl
theorem kn_nil (k : Int) : (kn k).toList = ([] : List UInt8) ↔ ¬ (1 ≤ k ∧ k ≤ 7) := by
  by_cases h : 1 ≤ k ∧ k ≤ 7
  · have ek : k = 1 ∨ k = 2 ∨ k = 3 ∨ k = 4 ∨ k = 5 ∨ k = 6 ∨ k = 7 := by omega
    refine ⟨fun e => ?_, fun e => absurd h e⟩
    rw [Lib.toList_data] at e
    rcases ek with rfl | rfl | rfl | rfl | rfl | rfl | rfl <;> exact absurd e (by decide)
  · refine ⟨fun _ => h, fun _ => ?_⟩
    rw [Lib.toList_data]
    unfold kn
    rw [if_neg (by omega), if_neg (by omega), if_neg (by omega), if_neg (by omega), if_neg (by omega), if_neg (by omega), if_neg (by omega)]
theorem may_len (k a n : Int) (b : List UInt8) : MayE ⟨k, a, n, b⟩ ↔ (1 ≤ k ∧ k ≤ 7 ∧ 0 ≤ a ∧ a ≤ 2147483647 ∧ (k = 1 → a = 0 ∧ 0 ≤ n ∧ n ≤ 1125899906842624 ∧ b.length = 0) ∧ (k = 7 → a = 0 ∧ (n = 0 ∨ n = 1) ∧ b.length = 0) ∧ (k = 6 → n = 0 ∧ b.length ≤ 65536) ∧ (k ≠ 1 → k ≠ 7 → k ≠ 6 → n = 0 ∧ b.length = 0)) := by
  unfold MayE
  simp only [List.length_eq_zero_iff]
theorem ex_of {Y : Option Bool} {P : Prop} (h : ∀ X, Y = X → ∃ r, X = some r ∧ (r = true ↔ P)) : ∃ r, Y = some r ∧ (r = true ↔ P) := h Y rfl
theorem may_two (k a n : Int) (b : List UInt8) : ∃ r, odometerref23_May.f 2 k a n (nbl b) = some r ∧ (r = true ↔ MayE ⟨k, a, n, b⟩) := by
  have hl : (nbl b).length = b.length := by simp [nbl]
  rw [may_len]
  generalize hm : b.length = m at *
  unfold odometerref23_May.f
  rw [word_eq]
  simp only [Option.bind_some]
  by_cases c1 : 1 ≤ k ∧ k ≤ 7
  · rw [if_neg (fun e => (kn_nil k).1 e c1)]
    by_cases c2 : a < 0
    · rw [if_pos c2]; exact ⟨false, rfl, by simp only [Bool.false_eq_true, false_iff]; omega⟩
    rw [if_neg c2]
    by_cases c3 : a > 2147483647
    · rw [if_pos c3]; exact ⟨false, rfl, by simp only [Bool.false_eq_true, false_iff]; omega⟩
    rw [if_neg c3]
    by_cases c4 : n < 0
    · rw [if_pos c4]; exact ⟨false, rfl, by simp only [Bool.false_eq_true, false_iff]; omega⟩
    rw [if_neg c4]
    simp only [odometerref23_May.j0, hl]
    by_cases c5 : (m : Int) > 65536
    · rw [if_pos (decide_eq_true c5)]; exact ⟨false, rfl, by simp only [Bool.false_eq_true, false_iff]; omega⟩
    rw [if_neg (by simpa using c5)]
    have fin : (k = 6 ∨ m = 0) → ∃ r, odometerref23_May.j1 1 false k a n (nbl b) = some r ∧ (r = true ↔ 1 ≤ k ∧ k ≤ 7 ∧ 0 ≤ a ∧ a ≤ 2147483647 ∧ (k = 1 → a = 0 ∧ 0 ≤ n ∧ n ≤ 1125899906842624 ∧ m = 0) ∧ (k = 7 → a = 0 ∧ (n = 0 ∨ n = 1) ∧ m = 0) ∧ (k = 6 → n = 0 ∧ m ≤ 65536) ∧ (k ≠ 1 → k ≠ 7 → k ≠ 6 → n = 0 ∧ m = 0)) := fun hm => by
      simp only [odometerref23_May.j1]
      rw [if_neg (by simp)]
      by_cases d1 : k = 1
      · rw [if_pos d1]
        by_cases d2 : a = 0
        · rw [if_pos d2]; exact ⟨_, rfl, by rw [decide_eq_true_iff]; omega⟩
        · rw [if_neg d2]; exact ⟨false, rfl, by simp only [Bool.false_eq_true, false_iff]; omega⟩
      rw [if_neg d1]
      by_cases d7 : k = 7
      · rw [if_pos d7]
        by_cases d2 : a = 0
        · rw [if_pos d2]; exact ⟨_, rfl, by rw [decide_eq_true_iff]; omega⟩
        · rw [if_neg d2]; exact ⟨false, rfl, by simp only [Bool.false_eq_true, false_iff]; omega⟩
      rw [if_neg d7]
      exact ⟨_, rfl, by rw [beq_iff_eq]; omega⟩
    by_cases c6 : (m : Int) > 0
    · rw [if_pos c6]
      by_cases c7 : k = 6
      · rw [show (k != 6) = false by simp [c7]]
        exact fin (.inl c7)
      · rw [show (k != 6) = true by simp [c7]]
        exact ⟨false, rfl, by simp only [Bool.false_eq_true, false_iff]; omega⟩
    · rw [if_neg c6]
      exact fin (.inr (by omega))
  · rw [if_pos ((kn_nil k).2 c1)]
    exact ⟨false, rfl, by simp only [Bool.false_eq_true, false_iff]; omega⟩
theorem may_ev (k a n : Int) (b : List UInt8) : ∃ r, Ev (fun j => odometerref23_May.f j k a n (nbl b)) r ∧ (r = true ↔ MayE ⟨k, a, n, b⟩) := by
  obtain ⟨r, h, hr⟩ := may_two k a n b
  exact ⟨r, Ev.of (fun j => odometerref23_May.mono _ _ _ _ j) h, hr⟩
/-! ### digits -/
theorem str_one (u : Nat) : strOfNums [((u : Int) % 256)] = ba [UInt8.ofNat u] := by
  refine ByteArray.ext (Array.toList_inj.1 ?_)
  simp [strOfNums]
  rw [← UInt8.toNat_inj]
  simp
  omega
theorem dig_byte (u : Nat) (h : u < 18446744073709551616) : (IntKind.u64.wrap (48 + (Int.tmod (u : Int) 10))) % 256 = (((48 + u % 10 : Nat) : Int) % 256) := by
  have : Int.tmod (u : Int) 10 = ((u % 10 : Nat) : Int) := by rw [Int.tmod_eq_emod_of_nonneg (by omega)]; omega
  rw [this]
  unfold IntKind.wrap
  simp [IntKind.bits, IntKind.signed]
theorem dig_char (u : Nat) (h : u < 18446744073709551616) : strOfNums [(IntKind.u64.wrap (48 + (Int.tmod (u : Int) 10))) % 256] = ba [UInt8.ofNat (48 + u % 10)] := by
  rw [dig_byte u h]
  exact str_one _
theorem div_ten (u : Nat) (h : u < 18446744073709551616) : IntKind.u64.wrap (Int.tdiv (u : Int) 10) = ((u / 10 : Nat) : Int) := by
  have : Int.tdiv (u : Int) 10 = ((u / 10 : Nat) : Int) := by rw [Int.tdiv_eq_ediv_of_nonneg (by omega)]; omega
  rw [this]
  unfold IntKind.wrap
  simp [IntKind.bits, IntKind.signed]
  omega
theorem dig_round (k : Nat) (n : Int) (u : Nat) (h : u < 18446744073709551616) (acc : List UInt8) (hl : acc.length ≤ 1000) (hu : 0 < u ∨ acc = []) :
    odometerref01_Digits.l0 (k + 1) n (u : Int) (ba acc) = odometerref01_Digits.l0 k n ((u / 10 : Nat) : Int) (ba (UInt8.ofNat (48 + u % 10) :: acc)) := by
  have hz : (ba [UInt8.ofNat (48 + u % 10)]).size + (ba acc).size ≤ 9223372036854775807 := by rw [ba_size, ba_size]; simp; omega
  have ha : ba [UInt8.ofNat (48 + u % 10)] ++ ba acc = ba (UInt8.ofNat (48 + u % 10) :: acc) := ba_app _ _
  simp only [odometerref01_Digits.l0]
  by_cases h0 : (u : Int) > 0
  · rw [if_pos h0]
    simp only [Option.bind_some]
    rw [dig_char u h, div_ten u h, if_pos hz, ha]
  · have e : acc = [] := by rcases hu with hu | hu; exact absurd (by omega) h0; exact hu
    rw [if_neg h0, if_pos (by rw [e, Lib.toList_data])]
    simp only [Option.bind_some]
    rw [dig_char u h, div_ten u h, if_pos hz, ha]
theorem dig_from (n : Int) (hn : 0 ≤ n) (u : Nat) : u < 18446744073709551616 → ∀ acc : List UInt8, (Lib.decDigits u).length + acc.length ≤ 1000 → (0 < u ∨ acc = []) → Ev (fun k => odometerref01_Digits.l0 k n (u : Int) (ba acc)) (ba (Lib.decDigits u ++ acc)) := by
  induction u using Nat.strongRecOn with
  | _ u ih =>
    intro hu acc hl h0
    refine Ev.step (f := fun k => odometerref01_Digits.l0 k n ((u / 10 : Nat) : Int) (ba (UInt8.ofNat (48 + u % 10) :: acc))) (fun k => dig_round k n u hu acc (by omega) h0) ?_
    by_cases h10 : u < 10
    · have e0 : u / 10 = 0 := by omega
      have e1 : u % 10 = u := by omega
      rw [e0, e1, Lib.decDigits, dif_pos h10]
      refine Ev.step (f := fun _ => some (ba (UInt8.ofNat (48 + u) :: acc))) (fun k => ?_) (Ev.now _)
      simp only [odometerref01_Digits.l0]
      rw [if_neg (by simp), if_neg (by rw [Lib.toList_data]; simp), if_neg (by omega)]
    · rw [Lib.decDigits, dif_neg h10, List.length_append] at hl
      rw [Lib.decDigits, dif_neg h10, List.append_assoc]
      exact ih (u / 10) (by omega) (by omega) (UInt8.ofNat (48 + u % 10) :: acc) (by simp at hl ⊢; omega) (.inl (by omega))
theorem wrap_u (n : Int) (h0 : 0 ≤ n) (h1 : n ≤ 9223372036854775807) : IntKind.u64.wrap n = n := by
  unfold IntKind.wrap
  simp [IntKind.bits, IntKind.signed]
  omega
theorem itoa_le (n : Int) (h0 : 0 ≤ n) (h1 : n ≤ 9223372036854775807) : (Lib.itoa n).length ≤ 21 := by have := Lib.itoa_length_le n (by omega) h1; omega
theorem dig_ev (n : Int) (h0 : 0 ≤ n) (h1 : n ≤ 9223372036854775807) : Ev (fun k => odometerref01_Digits.f k n) (ba (Lib.itoa n)) := by
  have hl := itoa_le n h0 h1
  have e : Lib.itoa n = Lib.decDigits n.toNat := by unfold Lib.itoa; rw [if_neg (by omega)]
  refine Ev.congr (f := fun k => odometerref01_Digits.j0 k n n) (fun k => by unfold odometerref01_Digits.f; rw [if_neg (by omega), wrap_u n h0 h1]) ?_
  refine Ev.step (f := fun k => odometerref01_Digits.l0 k n ((n.toNat : Nat) : Int) (ba [])) (fun k => ?_) ?_
  · simp only [odometerref01_Digits.j0]
    rw [Int.toNat_of_nonneg h0]
  · rw [e] at hl ⊢
    have := dig_from n h0 n.toNat (by omega) [] (by simp; omega) (.inr rfl)
    rwa [List.append_nil] at this
theorem ev_if {α : Type} {c : Prop} [Decidable c] (h : c) {x r : α} (hx : x = r) : Ev (fun _ => if c then some x else none) r := by rw [if_pos h, hx]; exact Ev.now r
theorem kn_le (k : Int) : (kn k).size ≤ 7 := by
  unfold kn; repeat' split
  all_goals decide
theorem app3 (k : ByteArray) (l : List UInt8) : (k ++ (⟨#[32]⟩ : ByteArray)) ++ ba l = ba (k.data.toList ++ 32 :: l) := ByteArray.ext (Array.toList_inj.1 (by simp))
theorem line_ev (k a n : Int) (b : List UInt8) (hm : MayE ⟨k, a, n, b⟩) : Ev (fun j => odometerref23_Line.f j k a n (nbl b)) (ba (lineL ⟨k, a, n, b⟩)) := by
  have hm2 := (may_len k a n b).1 hm
  have hk := kn_le k
  have hs : (kn k ++ (⟨#[32]⟩ : ByteArray)).size ≤ 8 := by rw [ByteArray.size_append]; show (kn k).size + 1 ≤ 8; omega
  unfold lineL
  simp only
  have hz : (kn k).size + 1 ≤ 9223372036854775807 := by omega
  simp only [odometerref23_Line.f, word_eq, Option.bind_some, if_pos hz]
  by_cases h1 : k = 1
  · simp only [if_pos h1]
    have hi := itoa_le n (by omega) (by omega)
    have s1 := ba_size (Lib.itoa n)
    exact Ev.bind (dig_ev n (by omega) (by omega)) (ev_if (by omega) (app3 _ _))
  · simp only [if_neg h1]
    by_cases h7 : k = 7
    · simp only [if_pos h7]
      by_cases h0 : n = 1
      · simp only [if_pos h0]
        rw [if_neg (show ¬ n = 0 by omega)]
        exact ev_if (by omega) (app3 _ [121, 101, 115])
      · simp only [if_neg h0]
        rw [if_pos (show n = 0 by omega)]
        exact ev_if (by omega) (app3 _ [110, 111])
    · simp only [if_neg h7]
      have hi := itoa_le a (by omega) (by omega)
      by_cases h6 : k = 6
      · simp only [if_pos h6]
        have hq : (quote b).length ≤ 4 * b.length + 2 := L.quote_len b
        have s1 := ba_size (Lib.itoa a)
        have s2 := ba_size (quote b)
        have s3 : ((kn k ++ (⟨#[32]⟩ : ByteArray)) ++ ba (Lib.itoa a)).size ≤ 30 := by rw [ByteArray.size_append]; omega
        have s4 : (((kn k ++ (⟨#[32]⟩ : ByteArray)) ++ ba (Lib.itoa a)) ++ (⟨#[32]⟩ : ByteArray)).size ≤ 31 := by rw [ByteArray.size_append]; show _ + 1 ≤ 31; omega
        refine Ev.bind (dig_ev a (by omega) (by omega)) ?_
        have z5 : (kn k ++ (⟨#[32]⟩ : ByteArray)).size + (ba (Lib.itoa a)).size ≤ 9223372036854775807 := by omega
        have z6 : ((kn k ++ (⟨#[32]⟩ : ByteArray)) ++ ba (Lib.itoa a)).size + 1 ≤ 9223372036854775807 := by omega
        simp only [if_pos z5, if_pos z6]
        refine Ev.bind (quote_ev b (by omega)) (ev_if (by omega) ?_)
        exact ByteArray.ext (Array.toList_inj.1 (by simp))
      · simp only [if_neg h6]
        have s1 := ba_size (Lib.itoa a)
        exact Ev.bind (dig_ev a (by omega) (by omega)) (ev_if (by omega) (app3 _ _))
/-! ### entries -/
def so (e : En) : S35 := ⟨e.k, e.a, e.n, nbl e.b⟩
theorem rd_so (es : List En) (i : Nat) (h : i < es.length) : rd_T35 (es.map so) (i : Int) = so es[i] := by
  unfold rd_T35
  simp [List.getD, h]
theorem text_from (es : List En) (hl : es.length ≤ 1000000) (hsz : TB es) : ∀ (d i : Nat), es.length - i = d → i ≤ es.length → (∀ x ∈ es.take i, MayE x) → Ev (fun k => odometerref23_Text.l0 k (es.map so) (ba (textL (es.take i))) (i : Int)) (textS es) := by
  intro d
  induction d with
  | zero =>
    intro i hd hi hm
    obtain rfl : i = es.length := by omega
    rw [List.take_length] at hm ⊢
    refine Ev.step (f := fun _ => some (ba (textL es))) (fun k => ?_) ?_
    · simp only [odometerref23_Text.l0]
      rw [if_neg (by simp)]
    · unfold textS; rw [if_pos hm]; exact Ev.now _
  | succ d ih =>
    intro i hd hi hm
    have hlt : i < es.length := by omega
    obtain ⟨r, hr, hri⟩ := may_ev es[i].k es[i].a es[i].n es[i].b
    refine Ev.step (f := fun k => (odometerref23_May.f k es[i].k es[i].a es[i].n (nbl es[i].b)).bind fun t => if t = true then (odometerref23_Line.f k es[i].k es[i].a es[i].n (nbl es[i].b)).bind fun t2 => (if (ba (textL (es.take i))).size + t2.size ≤ 9223372036854775807 then (if (ba (textL (es.take i)) ++ t2).size + 1 ≤ 9223372036854775807 then odometerref23_Text.l0 k (es.map so) ((ba (textL (es.take i)) ++ t2) ++ (⟨#[10]⟩ : ByteArray)) ((i + 1 : Nat) : Int) else none) else none) else some (⟨#[]⟩ : ByteArray)) (fun k => ?_) ?_
    · simp only [odometerref23_Text.l0]
      rw [if_pos (by simp; omega), if_pos (by omega), rd_so es i hlt, wrap_next i (by omega)]
      rfl
    · refine Ev.bind hr ?_
      by_cases h : MayE es[i]
      · have e1 : r = true := hri.2 h
        refine Ev.congr (fun k => by rw [if_pos e1]) ?_
        have hsucc := textL_succ es i hlt
        have hle := hsz (i + 1) hlt (fun x hx => by
          rw [List.take_succ_eq_append_getElem hlt] at hx
          rcases List.mem_append.1 hx with hx | hx
          · exact hm x hx
          · simp only [List.mem_singleton] at hx; exact hx ▸ h)
        have z1 := ba_size (textL (es.take i))
        have z2 := ba_size (lineL es[i])
        rw [hsucc, List.length_append, List.length_append] at hle
        simp only [List.length_cons, List.length_nil] at hle
        have z3 : (ba (textL (es.take i)) ++ ba (lineL es[i])).size = (textL (es.take i)).length + (lineL es[i]).length := by rw [ByteArray.size_append, z1, z2]
        refine Ev.bind (line_ev _ _ _ _ h) ?_
        have hg : ba (textL (es.take i)) ++ ba (lineL es[i]) ++ (⟨#[10]⟩ : ByteArray) = ba (textL (es.take (i + 1))) := by rw [hsucc]; exact ByteArray.ext (Array.toList_inj.1 (by simp))
        refine Ev.congr (f := fun k => odometerref23_Text.l0 k (es.map so) (ba (textL (es.take (i + 1)))) ((i + 1 : Nat) : Int)) (fun k => ?_) ?_
        · show (if (ba (textL (es.take i))).size + (ba (lineL es[i])).size ≤ 9223372036854775807 then (if (ba (textL (es.take i)) ++ ba (lineL es[i])).size + 1 ≤ 9223372036854775807 then odometerref23_Text.l0 k (es.map so) ((ba (textL (es.take i)) ++ ba (lineL es[i])) ++ (⟨#[10]⟩ : ByteArray)) ((i + 1 : Nat) : Int) else none) else none) = _
          rw [if_pos (by omega), if_pos (by omega), hg]
        · refine ih (i + 1) (by omega) (by omega) (fun x hx => ?_)
          rw [List.take_succ_eq_append_getElem hlt] at hx
          rcases List.mem_append.1 hx with hx | hx
          · exact hm x hx
          · simp only [List.mem_singleton] at hx; exact hx ▸ h
      · have e1 : ¬ r = true := fun e => h (hri.1 e)
        refine Ev.congr (fun k => by rw [if_neg e1]) ?_
        unfold textS
        rw [if_neg (fun hh => h (hh _ (List.getElem_mem hlt)))]
        exact Ev.now _
theorem text_ev (es : List En) (hl : es.length ≤ 1000000) (hsz : TB es) : Ev (fun k => odometerref23_Text.f k (es.map so)) (textS es) :=
  text_from es hl hsz _ 0 rfl (by omega) (by simp)
theorem str_nbl (b c : List UInt8) : (strOfNums (nbl b)).toList = (strOfNums (nbl c)).toList ↔ b = c := by
  have h : ∀ b : List UInt8, (strOfNums (nbl b)).toList = b := fun b => by rw [Lib.toList_data]; simp [strOfNums, nbl, Function.comp_def]
  rw [h, h]
theorem same_from (xs ys : List En) (hl : xs.length = ys.length) (hm : xs.length ≤ 1000000) : ∀ (d i : Nat), xs.length - i = d → i ≤ xs.length → Ev (fun k => odometerref23_Same.l0 k (xs.map so) (ys.map so) (i : Int)) (sameB (xs.drop i) (ys.drop i)) := by
  intro d
  induction d with
  | zero =>
    intro i hd hi
    rw [List.drop_eq_nil_of_le (by omega), List.drop_eq_nil_of_le (by omega)]
    refine Ev.step (f := fun _ => some true) (fun k => ?_) (Ev.now _)
    simp only [odometerref23_Same.l0]
    rw [if_neg (by simp; omega)]
  | succ d ih =>
    intro i hd hi
    have hlt : i < xs.length := by omega
    have hlt2 : i < ys.length := by omega
    refine Ev.step (f := fun k => if xs[i].k = ys[i].k then (if xs[i].a = ys[i].a then (if xs[i].n = ys[i].n then (if (strOfNums (nbl xs[i].b)).toList = (strOfNums (nbl ys[i].b)).toList then odometerref23_Same.l0 k (xs.map so) (ys.map so) ((i + 1 : Nat) : Int) else some false) else some false) else some false) else some false) (fun k => ?_) ?_
    · simp only [odometerref23_Same.l0]
      rw [if_pos (by simp; omega), if_pos (by omega), if_pos (by simp; omega), rd_so xs i hlt, rd_so ys i hlt2, wrap_next i (by omega)]
      rfl
    · by_cases h : xs[i] = ys[i]
      · refine Ev.congr (fun k => by rw [if_pos (by rw [h]), if_pos (by rw [h]), if_pos (by rw [h]), if_pos (by rw [h])]) ?_
        have e := ih (i + 1) (by omega) (by omega)
        have e2 : sameB (xs.drop i) (ys.drop i) = sameB (xs.drop (i + 1)) (ys.drop (i + 1)) := by
          rw [Bool.eq_iff_iff, sameB_iff, sameB_iff, List.drop_eq_getElem_cons hlt, List.drop_eq_getElem_cons hlt2, h, List.cons.injEq]
          simp only [true_and]
        rw [e2]
        exact e
      · have e2 : sameB (xs.drop i) (ys.drop i) = false := by
          rw [Bool.eq_false_iff]
          intro e
          rw [sameB_iff, List.drop_eq_getElem_cons hlt, List.drop_eq_getElem_cons hlt2] at e
          exact h (List.cons.inj e).1
        rw [e2]
        refine Ev.congr (f := fun _ => some false) (fun k => ?_) (Ev.now _)
        repeat' split
        all_goals first | rfl | skip
        rename_i h1 h2 h3 h4
        exact absurd (En.ext' h1 h2 h3 ((str_nbl _ _).1 h4)) h
theorem same_ev (xs ys : List En) (hm : xs.length ≤ 1000000) : Ev (fun k => odometerref23_Same.f k (xs.map so) (ys.map so)) (sameB xs ys) := by
  by_cases hl : xs.length = ys.length
  · refine Ev.congr (fun k => by unfold odometerref23_Same.f; rw [if_pos (by simp [hl])]) ?_
    exact same_from xs ys hl hm _ 0 rfl (by omega)
  · refine Ev.congr (f := fun _ => some false) (fun k => by unfold odometerref23_Same.f; rw [if_neg (by simp; omega)]) ?_
    rw [sameB_len xs ys hl]
    exact Ev.now _
end Go.Proofs.YtjapnbghnnbamaaGreatDoor.Rt
