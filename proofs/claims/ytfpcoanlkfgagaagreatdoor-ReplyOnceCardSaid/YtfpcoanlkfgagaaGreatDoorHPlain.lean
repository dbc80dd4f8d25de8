/- The plain laws of head.Parse: what it answers of any bytes, by their lines; nothing of it hangs on what stands behind a whole head. -/
import Derived.Lib.IndexMore
import Derived.Lib.CountLaws
import Derived.Lib.Split
import Derived.Lib.SlTrimSet
import Derived.Lib.ParseIntB
import Derived.Test.YtfpcoanlkfgagaaGreatDoorPAx1
import Derived.Test.YtfpcoanlkfgagaaGreatDoorRe
import Derived.Test.YtfpcoanlkfgagaaGreatDoorRf
import Derived.Test.YtfpcoanlkfgagaaGreatDoorPAx2
import Derived.Test.YtfpcoanlkfgagaaGreatDoorRg
namespace Go.Proofs.YtfpcoanlkfgagaaGreatDoor.Plain
set_option linter.unusedSimpArgs false
set_option linter.unusedVariables false

abbrev L (s : ByteArray) : List UInt8 := s.data.toList
theorem L_length (s : ByteArray) : (L s).length = s.size := by cases s; rfl
theorem L_append (a b : ByteArray) : L (a ++ b) = L a ++ L b := by simp [L, ByteArray.data_append]
theorem L_mk (l : List UInt8) : L ⟨l.toArray⟩ = l := by simp [L]
theorem mk_L (s : ByteArray) : (⟨(L s).toArray⟩ : ByteArray) = s := by cases s; simp [L]
theorem L_inj {a b : ByteArray} (h : L a = L b) : a = b := by rw [← mk_L a, ← mk_L b, h]
theorem L_extract (s : ByteArray) (a b : Nat) : L (s.extract a b) = ((L s).drop a).take (b - a) := by
  simp only [L, ByteArray.data_extract, Array.toList_extract, List.extract]
theorem L_extract_end (s : ByteArray) (a : Nat) : L (s.extract a s.size) = (L s).drop a := by
  rw [L_extract, List.take_of_length_le (by rw [List.length_drop, L_length]; exact Nat.le_refl _)]
theorem L_extract_zero (s : ByteArray) (b : Nat) : L (s.extract 0 b) = (L s).take b := by rw [L_extract]; simp

def crlf : List UInt8 := [13, 10]

theorem occ2 (b : List UInt8) (x y : UInt8) (i : Nat) : Lib.occAt b [x, y] i = true ↔ b[i]? = some x ∧ b[i + 1]? = some y := by
  unfold Lib.occAt
  have h0 : (b.drop i)[0]? = b[i]? := by simp
  have h1 : (b.drop i)[1]? = b[i + 1]? := by simp
  rw [← h0, ← h1]
  clear h0 h1
  generalize b.drop i = l
  cases l with
  | nil => simp
  | cons c t =>
    cases t with
    | nil => simp
    | cons d u => simp [eq_comm (a := x), eq_comm (a := y)]

theorem occ1 (b : List UInt8) (x : UInt8) (i : Nat) : Lib.occAt b [x] i = true ↔ b[i]? = some x := by
  unfold Lib.occAt
  have h0 : (b.drop i)[0]? = b[i]? := by simp
  rw [← h0]
  clear h0
  generalize b.drop i = l
  cases l with
  | nil => simp
  | cons c t => simp [eq_comm (a := x)]

/-- The first end of a line: what index answers of a list that begins with a line. -/
theorem index_pre {p : List UInt8} (x : List UInt8) (s : List UInt8) (i : Nat) (hp : p ≠ []) (h : Lib.index s p = i) : Lib.index (s ++ x) p = i := by
  rcases Lib.index_spec s p with ⟨h1, _⟩ | ⟨k, h1, h2, h3, h4⟩
  · omega
  · obtain rfl : k = i := by omega
    have hroom := (Lib.occAt_room h3).resolve_right hp
    refine Lib.index_first (by rw [List.length_append]; omega) ?_ ?_
    · rw [Lib.occAt_iff_take _ _ _ (by rw [List.length_append]; omega)]
      rw [Lib.occAt_iff_take _ _ _ hroom] at h3
      rw [List.drop_append_of_le_length (by omega), List.take_append_of_le_length (by rw [List.length_drop]; omega)]
      exact h3
    · intro j hj
      have hf := h4 j hj
      have hpl : 1 ≤ p.length := by cases p with | nil => exact absurd rfl hp | cons _ _ => simp
      rw [Bool.eq_false_iff] at hf ⊢
      intro ht
      apply hf
      rw [Lib.occAt_iff_take _ _ _ (by omega)]
      rw [Lib.occAt_iff_take _ _ _ (by rw [List.length_append]; omega)] at ht
      rw [List.drop_append_of_le_length (by omega), List.take_append_of_le_length (by rw [List.length_drop]; omega)] at ht
      exact ht

/-! ### trimming -/
def rdrop (p : UInt8 → Bool) (l : List UInt8) : List UInt8 := (l.reverse.dropWhile p).reverse
theorem rdrop_cons (p : UInt8 → Bool) (x : UInt8) (t : List UInt8) : rdrop p (x :: t) = if rdrop p t = [] then (if p x = true then [] else [x]) else x :: rdrop p t := by
  unfold rdrop
  rw [List.reverse_cons, List.dropWhile_append]
  by_cases h : List.dropWhile p t.reverse = []
  · rw [h]
    simp only [List.isEmpty_nil, if_true, List.reverse_nil]
    by_cases hx : p x = true <;> simp [List.dropWhile, hx]
  · have h2 : (List.dropWhile p t.reverse).isEmpty = false := by
      cases hd : List.dropWhile p t.reverse with
      | nil => exact absurd hd h
      | cons _ _ => rfl
    simp [h2, h]
theorem drop_rdrop (p : UInt8 → Bool) (l : List UInt8) : (rdrop p l).dropWhile p = rdrop p (l.dropWhile p) := by
  induction l with
  | nil => rfl
  | cons x t ih =>
    rw [rdrop_cons]
    by_cases hx : p x = true
    · rw [List.dropWhile_cons_of_pos hx, ← ih]
      by_cases h : rdrop p t = []
      · simp [h, hx]
      · simp [h, hx, List.dropWhile]
    · rw [List.dropWhile_cons_of_neg hx, rdrop_cons]
      by_cases h : rdrop p t = []
      · simp [h, hx, List.dropWhile]
      · simp [h, hx, List.dropWhile]
theorem trimS_eq (l cs : List UInt8) : Lib.trimS l cs = rdrop (cs.contains ·) (l.dropWhile (cs.contains ·)) := drop_rdrop _ l
theorem rdrop_nil (p : UInt8 → Bool) (l : List UInt8) : rdrop p l = [] ↔ l.all p = true := by
  induction l with
  | nil => simp [rdrop]
  | cons x t ih =>
    rw [rdrop_cons, List.all_cons]
    by_cases h : rdrop p t = []
    · rw [if_pos h, ih.1 h]
      by_cases hx : p x = true <;> simp [hx]
    · rw [if_neg h]
      have : ¬ t.all p = true := fun e => h (ih.2 e)
      simp [this]
theorem drop_nil (p : UInt8 → Bool) (l : List UInt8) : l.dropWhile p = [] ↔ l.all p = true := by
  induction l with
  | nil => simp
  | cons x t ih =>
    by_cases hx : p x = true
    · rw [List.dropWhile_cons_of_pos hx, ih]; simp [hx]
    · rw [List.dropWhile_cons_of_neg hx]; simp [hx]
theorem rdrop_all (p : UInt8 → Bool) (l : List UInt8) (h : (rdrop p l).all p = true) : l.all p = true := by
  induction l with
  | nil => rfl
  | cons x t ih =>
    rw [rdrop_cons] at h
    by_cases hn : rdrop p t = []
    · rw [if_pos hn] at h
      rw [List.all_cons, (rdrop_nil p t).1 hn]
      by_cases hx : p x = true
      · simp [hx]
      · simp [hx] at h
    · rw [if_neg hn] at h
      simp only [List.all_cons, Bool.and_eq_true] at h
      rw [List.all_cons, h.1, ih h.2]; rfl
theorem trimS_nil (l cs : List UInt8) : Lib.trimS l cs = [] ↔ l.all (cs.contains ·) = true := by
  unfold Lib.trimS Lib.trimLeftS Lib.trimRightS
  rw [drop_nil]
  constructor
  · exact rdrop_all _ l
  · intro h
    rw [show (List.dropWhile (cs.contains ·) l.reverse).reverse = rdrop (cs.contains ·) l from rfl, (rdrop_nil _ l).2 h]; rfl

/-! ### pieces between commas -/
def pieces : List UInt8 → List (List UInt8)
  | [] => [[]]
  | c :: t => if c = 44 then [] :: pieces t else (match pieces t with | p :: ps => (c :: p) :: ps | [] => [[c]])
theorem pieces_ne (l : List UInt8) : pieces l ≠ [] := by
  cases l with
  | nil => simp [pieces]
  | cons c t =>
    unfold pieces
    split
    · simp
    · split <;> simp
theorem pieces_none (l : List UInt8) (h : ∀ x ∈ l, x ≠ 44) : pieces l = [l] := by
  induction l with
  | nil => rfl
  | cons c t ih =>
    unfold pieces
    rw [if_neg (h c (by simp)), ih (fun x hx => h x (by simp [hx]))]
theorem pieces_at (a r : List UInt8) (h : ∀ x ∈ a, x ≠ 44) : pieces (a ++ 44 :: r) = a :: pieces r := by
  induction a with
  | nil => simp [pieces]
  | cons c t ih =>
    rw [List.cons_append]
    rw [pieces, if_neg (h c (by simp)), ih (fun x hx => h x (by simp [hx]))]
theorem index_comma (s : List UInt8) : (Lib.index s [44] = -1 ∧ ∀ x ∈ s, x ≠ 44) ∨ ∃ i : Nat, Lib.index s [44] = i ∧ i < s.length ∧ s = s.take i ++ 44 :: s.drop (i + 1) ∧ ∀ x ∈ s.take i, x ≠ 44 := by
  rcases Lib.index_spec s [44] with ⟨h1, h2⟩ | ⟨i, h1, h2, h3, h4⟩
  · refine .inl ⟨h1, fun x hx he => ?_⟩
    obtain ⟨j, hj, rfl⟩ := List.mem_iff_getElem.1 hx
    have := h2 j (by omega)
    rw [Bool.eq_false_iff] at this
    exact this ((occ1 s 44 j).2 (by rw [List.getElem?_eq_getElem hj, he]))
  · have h5 := (occ1 s 44 i).1 h3
    obtain ⟨hi, he⟩ := List.getElem?_eq_some_iff.1 h5
    refine .inr ⟨i, h1, hi, ?_, fun x hx hx2 => ?_⟩
    · rw [← he, List.getElem_cons_drop, List.take_append_drop]
    · obtain ⟨j, hj, rfl⟩ := List.mem_iff_getElem.1 hx
      rw [List.length_take] at hj
      have := h4 j (by omega)
      rw [Bool.eq_false_iff] at this
      refine this ((occ1 s 44 j).2 ?_)
      rw [List.getElem_take] at hx2
      rw [List.getElem?_eq_getElem (by omega), hx2]
theorem split_pieces (d : Nat) : ∀ s : List UInt8, s.length ≤ d → Lib.splitK [44] 0 (Lib.count s [44]) s = pieces s := by
  induction d with
  | zero =>
    intro s hs
    obtain rfl : s = [] := List.length_eq_zero_iff.1 (by omega)
    rfl
  | succ d ih =>
    intro s hs
    rcases index_comma s with ⟨h1, h2⟩ | ⟨i, h1, h2, h3, h4⟩
    · rw [Lib.count_miss h1, pieces_none s h2]; rfl
    · rw [Lib.count_hit (by simp) h1, Nat.add_comm]
      unfold Lib.splitK
      rw [if_neg (by rw [h1]; simp), h1]
      simp only [Int.toNat_natCast, List.length_cons, List.length_nil, Nat.zero_add, Nat.add_zero]
      rw [ih _ (by rw [List.length_drop]; omega)]
      conv => rhs; rw [h3]
      rw [pieces_at _ _ h4]
theorem split_size (s : List UInt8) : (Lib.splitK [44] 0 (Lib.count s [44]) s).length = Lib.count s [44] + 1 := by
  suffices H : ∀ d, ∀ s : List UInt8, s.length ≤ d → (Lib.splitK [44] 0 (Lib.count s [44]) s).length = Lib.count s [44] + 1 from H s.length s (Nat.le_refl _)
  intro d
  induction d with
  | zero =>
    intro s hs
    obtain rfl : s = [] := List.length_eq_zero_iff.1 (by omega)
    rfl
  | succ d ih =>
    intro s hs
    rcases index_comma s with ⟨h1, h2⟩ | ⟨i, h1, h2, h3, h4⟩
    · rw [Lib.count_miss h1]; rfl
    · rw [Lib.count_hit (by simp) h1, Nat.add_comm 1]
      unfold Lib.splitK
      rw [if_neg (by rw [h1]; simp), h1]
      simp only [Int.toNat_natCast, List.length_cons, List.length_nil, Nat.zero_add, Nat.add_zero]
      rw [ih _ (by rw [List.length_drop]; omega)]

/-! ### decimal numbers -/
def isDg (c : UInt8) : Bool := decide (48 ≤ c.toNat ∧ c.toNat ≤ 57)
def num (acc : Nat) : List UInt8 → Nat
  | [] => acc
  | c :: r => num (acc * 10 + (c.toNat - 48)) r
theorem num_le (n : Nat) : ∀ (l : List UInt8) (acc k : Nat), l.length = n → l.all isDg = true → acc < 10 ^ k → num acc l < 10 ^ (k + n) := by
  induction n with
  | zero =>
    intro l acc k hl _ ha
    obtain rfl := List.length_eq_zero_iff.1 hl
    exact ha
  | succ n ih =>
    intro l acc k hl hd ha
    cases l with
    | nil => simp at hl
    | cons c r =>
      simp only [List.all_cons, Bool.and_eq_true, isDg, decide_eq_true_eq] at hd
      have := ih r (acc * 10 + (c.toNat - 48)) (k + 1) (by simpa using hl) (by simpa [isDg] using hd.2) (by rw [Nat.pow_succ]; omega)
      rw [show k + (n + 1) = k + 1 + n by omega]
      exact this
theorem num_mono (l : List UInt8) : ∀ acc, acc ≤ num acc l := by
  induction l with
  | nil => intro acc; exact Nat.le_refl _
  | cons c r ih => intro acc; have := ih (acc * 10 + (c.toNat - 48)); unfold num; omega
theorem parseM (l : List UInt8) : ∀ acc, l.all isDg = true → num acc l < 10 ^ 15 → Lib.parseUintM (2 ^ 64 - 1) acc l = .ok (num acc l) := by
  induction l with
  | nil => intro acc _ _; rfl
  | cons c r ih =>
    intro acc hd hn
    simp only [List.all_cons, Bool.and_eq_true, isDg, decide_eq_true_eq] at hd
    have h2 := num_mono r (acc * 10 + (c.toNat - 48))
    unfold num at hn
    unfold Lib.parseUintM
    rw [if_pos hd.1, if_neg (by omega), if_neg (by omega)]
    exact ih _ (by simpa [isDg] using hd.2) hn
theorem parse_num (l : List UInt8) (h0 : l ≠ []) (h1 : l.length ≤ 15) (hd : l.all isDg = true) : Lib.parseIntB 64 l = .ok (num 0 l : Int) ∧ num 0 l < 10 ^ 15 := by
  have hb : num 0 l < 10 ^ 15 := by
    have := num_le l.length l 0 0 rfl hd (by decide)
    have h2 : 10 ^ (0 + l.length) ≤ 10 ^ 15 := Nat.pow_le_pow_right (by decide) (by omega)
    omega
  refine ⟨?_, hb⟩
  cases l with
  | nil => exact absurd rfl h0
  | cons c r =>
    have hc : 48 ≤ c.toNat ∧ c.toNat ≤ 57 := by
      simp only [List.all_cons, Bool.and_eq_true, isDg, decide_eq_true_eq] at hd
      exact hd.1
    have h45 : ¬ (c.toNat = 43 ∨ c.toNat = 45) := by omega
    simp only [Lib.parseIntB, if_neg h45]
    unfold Lib.parseUintB
    rw [if_neg (by simp), parseM (c :: r) 0 hd hb]
    have hne : ¬ c.toNat = 45 := by omega
    simp only [hne, not_false_eq_true, true_and, false_and, if_false]
    rw [if_neg (by have : (2:Nat) ^ (64 - 1) = 9223372036854775808 := by decide
                   omega)]
end Go.Proofs.YtfpcoanlkfgagaaGreatDoor.Plain
namespace Go.Proofs.YtfpcoanlkfgagaaGreatDoor.Plain
open Go.RowKit Go.Proofs.YtfpcoanlkfgagaaGreatDoor.PA Go.Proofs.YtfpcoanlkfgagaaGreatDoor.Ext Go.Proofs.YtfpcoanlkfgagaaGreatDoorW.PrintWords

theorem bt_L (s : ByteArray) (i : Nat) (h : i < s.size) : bt s (i : Int) = (((L s)[i]'(by rw [L_length]; exact h)).toNat : Int) := by
  unfold bt
  rw [dif_pos (by simpa using h)]
  rfl
theorem wrap_up {i n : Nat} (h : i < n) (hn : n ≤ 140737488351232) : wrap64 ((i : Int) + 1) = ((i + 1 : Nat) : Int) := by
  unfold wrap64
  omega
theorem wrap_small (x : Int) (h0 : -9223372036854775808 ≤ x) (h1 : x ≤ 9223372036854775807) : wrap64 x = x := by unfold wrap64; omega
theorem drop_L (s : ByteArray) (i : Nat) (h : i < s.size) : (L s).drop i = (L s)[i]'(by rw [L_length]; exact h) :: (L s).drop (i + 1) := List.drop_eq_getElem_cons (by rw [L_length]; exact h)

def textP (c : Int) : Prop := c = 9 ∨ (32 ≤ c ∧ c ≠ 127)
instance (c : Int) : Decidable (textP c) := by unfold textP; infer_instance
def textB (c : UInt8) : Bool := decide (textP (c.toNat : Int))
def mayText (l : List UInt8) : Bool := l.all textB

theorem text_prog_round (k : Nat) (s : ByteArray) (n i : Int) (h0 : 0 ≤ i) (h1 : i < n) (h2 : i < (s.size : Int)) :
    head_MayText.l0 (k + 1) s n i = if textP (bt s i) then head_MayText.l0 k s n (wrap64 (i + 1)) else some false := by
  simp only [head_MayText.l0]
  rw [if_pos h1, if_pos h0, if_pos h2]
  generalize bt s i = c
  generalize head_MayText.l0 k s n (wrap64 (i + 1)) = X
  by_cases t : textP c
  · rw [if_pos t]
    unfold textP at t
    rcases t with t | t
    · simp (disch := omega) only [if_pos, if_neg]
    · simp (disch := omega) only [if_pos, if_neg]
  · rw [if_neg t]
    unfold textP at t
    by_cases a : c < 32
    · simp (disch := omega) only [if_pos, if_neg]
    · simp (disch := omega) only [if_pos, if_neg]
theorem text_prog_from (s : ByteArray) (hn : s.size ≤ 140737488351232) (d : Nat) : ∀ i : Nat, i ≤ s.size → s.size - i = d →
    Ev (fun k => head_MayText.l0 k s (s.size : Int) (i : Int)) (((L s).drop i).all textB) := by
  induction d with
  | zero =>
    intro i hi hd
    obtain rfl : i = s.size := by omega
    refine Ev.step (f := fun _ => some true) (fun k => ?_) ?_
    · simp only [head_MayText.l0]
      rw [if_neg (by omega)]
    · rw [List.drop_of_length_le (by rw [L_length]; exact Nat.le_refl _)]
      exact Ev.now _
  | succ d ih =>
    intro i hi hd
    have hlt : i < s.size := by omega
    refine Ev.step (f := fun k => if textP (bt s i) then head_MayText.l0 k s (s.size : Int) ((i + 1 : Nat) : Int) else some false) (fun k => ?_) ?_
    · rw [text_prog_round k s _ i (by omega) (by omega) (by omega), wrap_up hlt hn]
    · rw [bt_L s i hlt, drop_L s i hlt, List.all_cons]
      by_cases h : textP (((L s)[i]'(by rw [L_length]; exact hlt)).toNat : Int)
      · simp only [textB, h, decide_true, if_true, Bool.true_and]
        exact ih (i + 1) (by omega) (by omega)
      · simp only [textB, h, decide_false, if_false, Bool.false_and]
        exact Ev.now _
theorem text_prog (s : ByteArray) (hn : s.size ≤ 140737488351232) : Ev (fun k => head_MayText.f k s) (mayText (L s)) := by
  have h := text_prog_from s hn s.size 0 (Nat.zero_le _) (by omega)
  rw [List.drop_zero] at h
  exact h
def signs : List Int := [33, 35, 36, 37, 38, 39, 42, 43, 45, 46, 94, 95, 96, 124, 126]
def alnum (c : Int) : Prop := (97 ≤ c ∧ c ≤ 122) ∨ (65 ≤ c ∧ c ≤ 90) ∨ (48 ≤ c ∧ c ≤ 57)
instance (c : Int) : Decidable (alnum c) := by unfold alnum; infer_instance
def nameI (c : Int) : Bool := decide (alnum c) || signs.contains c
def nameB (c : UInt8) : Bool := nameI (c.toNat : Int)
def mayName (l : List UInt8) : Bool := l.all nameB && !l.isEmpty

theorem letter_nat : ∀ n : Fin 256, head_letter.f 4 ((n.val : Nat) : Int) = some (nameI (n.val : Int)) := by decide +kernel
theorem letter_ev (c : Int) (h0 : 0 ≤ c) (h1 : c < 256) : Ev (fun k => head_letter.f k c) (nameI c) := by
  have h := letter_nat ⟨c.toNat, by omega⟩
  simp only [Int.toNat_of_nonneg h0] at h
  exact Ev.of (fun k => head_letter.mono c k) h
theorem toList_L (s : ByteArray) : s.toList = L s := ByteArray.toList_eq s
theorem name_end (s : ByteArray) : (s.toList != ([] : List UInt8)) = !(L s).isEmpty := by
  rw [toList_L]
  cases L s <;> rfl
theorem name_prog_from (s : ByteArray) (hn : s.size ≤ 140737488351232) (d : Nat) : ∀ i : Nat, i ≤ s.size → s.size - i = d →
    Ev (fun k => head_MayName.l0 k s (s.size : Int) (i : Int)) (((L s).drop i).all nameB && !(L s).isEmpty) := by
  induction d with
  | zero =>
    intro i hi hd
    obtain rfl : i = s.size := by omega
    refine Ev.step (f := fun _ => some (!(L s).isEmpty)) (fun k => ?_) ?_
    · simp only [head_MayName.l0]
      rw [if_neg (by omega), name_end]
    · rw [List.drop_of_length_le (by rw [L_length]; exact Nat.le_refl _)]
      exact Ev.now _
  | succ d ih =>
    intro i hi hd
    have hlt : i < s.size := by omega
    have hb := bt_range s (i : Int)
    refine Ev.step (f := fun k => (head_letter.f k (bt s i)).bind fun t => if t = true then head_MayName.l0 k s (s.size : Int) ((i + 1 : Nat) : Int) else some false) (fun k => ?_) ?_
    · simp only [head_MayName.l0]
      rw [if_pos (by omega), if_pos (by omega), if_pos (by omega), wrap_up hlt hn]
    · refine Ev.bind (letter_ev _ hb.1 (by omega)) ?_
      rw [bt_L s i hlt, drop_L s i hlt, List.all_cons]
      by_cases h : nameI (((L s)[i]'(by rw [L_length]; exact hlt)).toNat : Int) = true
      · simp only [nameB, h, if_true, Bool.true_and]
        exact ih (i + 1) (by omega) (by omega)
      · simp only [nameB, h, Bool.false_and]
        exact Ev.now _
theorem name_prog (s : ByteArray) (hn : s.size ≤ 140737488351232) : Ev (fun k => head_MayName.f k s) (mayName (L s)) := by
  have h := name_prog_from s hn s.size 0 (Nat.zero_le _) (by omega)
  rw [List.drop_zero] at h
  exact h

def blank (c : UInt8) : Bool := ([32, 9] : List UInt8).contains c
def trim (l : List UInt8) : List UInt8 := rdrop blank (l.dropWhile blank)
def trimB (s : ByteArray) : ByteArray := ⟨(trim (L s)).toArray⟩
theorem trim_prog (s : ByteArray) (hn : s.size ≤ 140737488351232) : head_trimmed.f s = some (trimB s) := by
  unfold head_trimmed.f strings_Trim.f
  rw [if_pos ⟨by omega, by decide, by decide⟩]
  simp only [Option.bind_some]
  unfold trimB trim
  show some (⟨(Lib.trimS (L s) [32, 9]).toArray⟩ : ByteArray) = _
  rw [trimS_eq]
  rfl
def smallS (s : ByteArray) : ByteArray := strOfNums ((bytesOf s).map smallB)
theorem small_prog (s : ByteArray) (hn : s.size ≤ 140737488351232) : head_small.f s = some (smallS s) := by unfold head_small.f; rw [if_pos (by omega)]; rfl
end Go.Proofs.YtfpcoanlkfgagaaGreatDoor.Plain
namespace Go.Proofs.YtfpcoanlkfgagaaGreatDoor.Plain
open Go.RowKit Go.Proofs.YtfpcoanlkfgagaaGreatDoor.PA Go.Proofs.YtfpcoanlkfgagaaGreatDoor.Ext Go.Proofs.YtfpcoanlkfgagaaGreatDoorW.PrintWords

def numsL (l : List UInt8) : List Int := l.map fun b => (b.toNat : Int)
theorem lib_bytesOf (l : List UInt8) : Lib.bytesOf (numsL l) = l := by
  simp [Lib.bytesOf, numsL, Function.comp_def]
theorem strOf_L (l : List UInt8) : strOfNums (numsL l) = ⟨l.toArray⟩ := by
  simp [strOfNums, numsL, Function.comp_def]
theorem numsL_length (l : List UInt8) : (numsL l).length = l.length := by simp [numsL]
theorem numsL_take (l : List UInt8) (n : Nat) : (numsL l).take n = numsL (l.take n) := by simp [numsL, List.map_take]
theorem numsL_drop (l : List UInt8) (n : Nat) : (numsL l).drop n = numsL (l.drop n) := by simp [numsL, List.map_drop]
theorem numsL_append (a b : List UInt8) : numsL (a ++ b) = numsL a ++ numsL b := by simp [numsL]
theorem numsL_range (l : List UInt8) : ∀ x ∈ numsL l, 0 ≤ x ∧ x < 256 := by
  intro x hx
  obtain ⟨b, _, rfl⟩ := List.mem_map.1 hx
  have := b.toNat_lt
  omega
theorem rd_numsL (l : List UInt8) (i : Nat) (h : i < l.length) : rd (numsL l) (i : Int) = ((l[i]'h).toNat : Int) := by
  simp [rd, numsL, List.getD_eq_getElem?_getD, List.getElem?_eq_getElem h]
theorem byte_eq (c : UInt8) (n : Nat) (hn : n < 256) : (c.toNat : Int) = (n : Int) ↔ c = UInt8.ofNat n := by
  constructor
  · intro h
    apply UInt8.toNat_inj.1
    rw [UInt8.toNat_ofNat']
    omega
  · rintro rfl
    rw [UInt8.toNat_ofNat']
    omega

theorem index_prog (b : List UInt8) (hn : b.length ≤ 100000000) : bytes_Index.f (numsL b) [13, 10] = some (Lib.index b crlf) := by
  unfold bytes_Index.f
  rw [if_pos ⟨by rw [numsL_length]; omega, by decide, by decide, numsL_range b, by decide⟩, lib_bytesOf]
  rfl

/-- The field of a line, if it is one. -/
def fieldOf (s : ByteArray) : Option S86 :=
  if Lib.index (L s) [58] = -1 then none else if mayName ((L s).take (Lib.index (L s) [58]).toNat) && mayText ((L s).drop ((Lib.index (L s) [58]).toNat + 1)) then
    some ⟨smallS (s.extract 0 (Lib.index (L s) [58]).toNat), trimB (s.extract ((Lib.index (L s) [58]).toNat + 1) s.size)⟩ else none
theorem size_extract_le (s : ByteArray) (a b : Nat) : (s.extract a b).size ≤ s.size := by
  rw [← L_length, L_extract, List.length_take, List.length_drop, L_length]
  omega
theorem mk_take (s : ByteArray) (i : Nat) : (⟨((L s).take i).toArray⟩ : ByteArray) = s.extract 0 i := L_inj (by rw [L_mk, L_extract_zero])
theorem mk_drop (s : ByteArray) (i : Nat) : (⟨((L s).drop i).toArray⟩ : ByteArray) = s.extract i s.size := L_inj (by rw [L_mk, L_extract_end])

/-- What the program's field answers. -/
def fieldP (n : Nat) (s : ByteArray) : Int × ByteArray × ByteArray :=
  match fieldOf s with
  | some f => if n < 64 then (0, f.f0, f.f1) else (10, ⟨#[]⟩, ⟨#[]⟩)
  | none => (10, ⟨#[]⟩, ⟨#[]⟩)
theorem field_prog (n : Nat) (s : ByteArray) (hs : s.size ≤ 100000000) : Ev (fun k => head_head_field.f k n s) (fieldP n s) := by
  have hcut : strings_Cut.f s colon = some (⟨(Lib.cut (L s) [58]).1.toArray⟩, ⟨(Lib.cut (L s) [58]).2.1.toArray⟩, (Lib.cut (L s) [58]).2.2) := by
    unfold strings_Cut.f
    rw [if_pos (by omega)]
  have hge := Lib.index_ge (L s) [58]
  by_cases hx : Lib.index (L s) [58] = -1
  · have e : Lib.cut (L s) [58] = (L s, [], false) := by unfold Lib.cut; rw [if_neg (by omega)]
    refine Ev.congr (f := fun _ => some (fieldP n s)) (fun k => ?_) (Ev.now _)
    unfold head_head_field.f
    rw [hcut, e]
    simp only [Option.bind_some]
    unfold fieldP fieldOf
    rw [if_pos hx]
    rfl
  · obtain ⟨i, hi⟩ : ∃ i : Nat, Lib.index (L s) [58] = i := ⟨(Lib.index (L s) [58]).toNat, by omega⟩
    have e : Lib.cut (L s) [58] = ((L s).take i, (L s).drop (i + 1), true) := by unfold Lib.cut; rw [if_pos (by omega), hi]; rfl
    have hsz0 : (s.extract 0 i).size ≤ s.size := size_extract_le _ _ _
    have hsz1 : (s.extract (i + 1) s.size).size ≤ s.size := size_extract_le _ _ _
    have hn0 := name_prog (s.extract 0 i) (by omega)
    have ht0 := text_prog (s.extract (i + 1) s.size) (by omega)
    rw [L_extract_zero] at hn0
    rw [L_extract_end] at ht0
    have ef : fieldOf s = if mayName ((L s).take i) && mayText ((L s).drop (i + 1)) then some ⟨smallS (s.extract 0 i), trimB (s.extract (i + 1) s.size)⟩ else none := by
      unfold fieldOf
      rw [if_neg hx, hi, Int.toNat_natCast]
    refine Ev.congr (f := fun k => (head_MayName.f k (s.extract 0 i)).bind fun m => (if m = true then (head_MayText.f k (s.extract (i + 1) s.size)).bind fun m2 => (if m2 = true then (if n < 64 then some (0, smallS (s.extract 0 i), trimB (s.extract (i + 1) s.size)) else some (10, ⟨#[]⟩, ⟨#[]⟩)) else some (10, ⟨#[]⟩, ⟨#[]⟩)) else some (10, ⟨#[]⟩, ⟨#[]⟩))) (fun k => ?_) ?_
    · unfold head_head_field.f
      rw [hcut, e]
      simp only [Option.bind_some, if_true, mk_take, mk_drop]
      rw [small_prog _ (by omega), trim_prog _ (by omega)]
      rfl
    · refine Ev.bind hn0 ?_
      unfold fieldP
      rw [ef]
      cases h1 : mayName ((L s).take i) with
      | false => simp only [Bool.false_and, Bool.false_eq_true, if_false]; exact Ev.now _
      | true =>
        simp only [Bool.true_and, if_true]
        refine Ev.bind ht0 ?_
        cases h2 : mayText ((L s).drop (i + 1)) with
        | false => simp only [Bool.false_eq_true, if_false]; exact Ev.now _
        | true =>
          simp only [if_true]
          by_cases hn : n < 64
          · simp only [if_pos hn]; exact Ev.now _
          · simp only [if_neg hn]; exact Ev.now _
end Go.Proofs.YtfpcoanlkfgagaaGreatDoor.Plain
namespace Go.Proofs.YtfpcoanlkfgagaaGreatDoor.Plain
open Go.RowKit Go.Proofs.YtfpcoanlkfgagaaGreatDoor.PA Go.Proofs.YtfpcoanlkfgagaaGreatDoor.Ext Go.Proofs.YtfpcoanlkfgagaaGreatDoorW.PrintWords

theorem prefix9 (s p : ByteArray) (hp : p.size = 9) : strings_HasPrefix.f s p = some (decide ((L s).take 9 = L p)) := by
  unfold strings_HasPrefix.f stringslite_HasPrefix.f
  rw [hp]
  by_cases h : (s.size : Int) ≥ ((9 : Nat) : Int)
  · rw [if_pos h, if_pos (by omega), if_pos (by omega)]
    simp only [Option.bind_some, Int.toNat_natCast]
    rw [toList_L, toList_L, L_extract_zero]
    congr 1
    rw [Bool.eq_iff_iff, beq_iff_eq, decide_eq_true_iff]
  · rw [if_neg h]
    simp only [Option.bind_some]
    rw [decide_eq_false]
    intro e
    have := congrArg List.length e
    rw [List.length_take, L_length, L_length] at this
    omega
def restB (s : ByteArray) : Bool := decide (13 ≤ s.size ∧ bt s 12 = 32 ∧ (dg (bt s 9) ∧ dg (bt s 10) ∧ dg (bt s 11))) && mayText ((L s).drop 13)
def oldB (s : ByteArray) : Bool := decide ((L s).take 9 = L p10)
def newB (s : ByteArray) : Bool := decide ((L s).take 9 = L p11)
def statusB (s : ByteArray) : Bool := (oldB s || newB s) && restB s
theorem first_g (s : ByteArray) (o : Bool) (hs : s.size ≤ 100000000) : Ev (fun k => head_head_first.g k s o) (if restB s = true then (0, stv s 3, o) else (9, 0, false)) := by
  unfold restB
  by_cases h13 : 13 ≤ s.size
  · by_cases h12 : bt s 12 = 32
    · have ht := text_prog (s.extract 13 s.size) (by have := size_extract_le s 13 s.size; omega)
      rw [L_extract_end] at ht
      refine Ev.congr (f := fun k => (head_MayText.f k (s.extract 13 s.size)).bind fun m => (if m = true then (if dg (bt s 9) ∧ dg (bt s 10) ∧ dg (bt s 11) then some (0, stv s 3, o) else some (9, 0, false)) else some (9, 0, false))) (fun k => ?_) ?_
      · unfold head_head_first.g
        rw [if_pos h13, if_pos h12]
      · refine Ev.bind ht ?_
        by_cases hd : dg (bt s 9) ∧ dg (bt s 10) ∧ dg (bt s 11)
        · rw [decide_eq_true ⟨h13, h12, hd⟩]
          cases hm : mayText ((L s).drop 13) with
          | true => simp only [if_true, if_pos hd, Bool.true_and]; exact Ev.now _
          | false => simp only [Bool.false_eq_true, if_false, Bool.and_false]; exact Ev.now _
        · rw [decide_eq_false (fun h => hd h.2.2)]
          cases hm : mayText ((L s).drop 13) with
          | true => simp only [if_true, if_neg hd, Bool.false_and, Bool.false_eq_true, if_false]; exact Ev.now _
          | false => simp only [Bool.false_eq_true, if_false, Bool.and_false]; exact Ev.now _
    · rw [decide_eq_false (fun h => h12 h.2.1)]
      refine Ev.congr (f := fun _ => some (9, 0, false)) (fun k => ?_) (by simp only [Bool.false_and, Bool.false_eq_true, if_false]; exact Ev.now _)
      unfold head_head_first.g
      rw [if_pos h13, if_neg h12]
  · rw [decide_eq_false (fun h => h13 h.1)]
    refine Ev.congr (f := fun _ => some (9, 0, false)) (fun k => ?_) (by simp only [Bool.false_and, Bool.false_eq_true, if_false]; exact Ev.now _)
    unfold head_head_first.g
    rw [if_neg h13]
def firstP (s : ByteArray) : Int × Int × Bool := if statusB s = true then (0, stv s 3, oldB s) else (9, 0, false)
theorem first_prog (s : ByteArray) (hs : s.size ≤ 100000000) : Ev (fun k => head_head_first.f k s) (firstP s) := by
  have e : ∀ k, head_head_first.f k s = if oldB s = true then head_head_first.g k s true else if newB s = true then head_head_first.g k s false else some (9, 0, false) := fun k => by
    unfold head_head_first.f
    rw [prefix9 s p10 rfl, prefix9 s p11 rfl]
    rfl
  refine Ev.congr e ?_
  unfold firstP statusB
  cases ho : oldB s with
  | true =>
    simp only [if_true, Bool.true_or, Bool.true_and]
    exact first_g s true hs
  | false =>
    cases hn : newB s with
    | true =>
      simp only [if_true, Bool.false_eq_true, if_false, Bool.or_true, Bool.true_and]
      exact first_g s false hs
    | false =>
      simp only [Bool.false_eq_true, if_false, Bool.or_false, Bool.false_and]
      exact Ev.now _
def lineAt (w : List UInt8) (at_ i : Nat) : ByteArray := ⟨((w.drop at_).take i).toArray⟩
/-- The fields from a place on: none: a wrong one; some none: not whole; else the fields, and where the head ends. -/
def hd (w : List UInt8) : Nat → Nat → List S86 → Option (Option (List S86 × Nat))
  | 0, _, _ => some none
  | k + 1, a, l => if Lib.index (w.drop a) crlf = -1 then some none else if Lib.index (w.drop a) crlf = 0 then some (some (l, a + 2)) else
      match fieldOf (lineAt w a (Lib.index (w.drop a) crlf).toNat) with
      | none => none
      | some f => if l.length < 64 then hd w k (a + (Lib.index (w.drop a) crlf).toNat + 2) (l ++ [f]) else none
def bigE (n : Nat) : Int := if 8192 ≤ n then 13 else 0
def readS (b : List UInt8) : Int × Option (ByteArray × List S86 × Nat) :=
  if Lib.index (b.take 8192) crlf = -1 then (bigE b.length, none)
  else if statusB (lineAt (b.take 8192) 0 (Lib.index (b.take 8192) crlf).toNat) = true then
    (match hd (b.take 8192) (b.length + 1) ((Lib.index (b.take 8192) crlf).toNat + 2) [] with
     | none => (10, none)
     | some none => (bigE b.length, none)
     | some (some (l, m)) => (0, some (lineAt (b.take 8192) 0 (Lib.index (b.take 8192) crlf).toNat, l, m)))
  else (9, none)

theorem drop_index (w : List UInt8) (a : Nat) : Lib.index (w.drop a) crlf = -1 ∨ ∃ i : Nat, Lib.index (w.drop a) crlf = i ∧ a + i + 2 ≤ w.length := by
  rcases Lib.index_spec (w.drop a) crlf with ⟨h1, _⟩ | ⟨i, h1, h2, h3, _⟩
  · exact .inl h1
  · have := (Lib.occAt_room h3).resolve_right (by decide)
    rw [List.length_drop] at this
    have hl : crlf.length = 2 := rfl
    exact .inr ⟨i, h1, by omega⟩
theorem readS_at (b : List UInt8) (i : Nat) (hi : Lib.index (b.take 8192) crlf = i) : readS b = if statusB (lineAt (b.take 8192) 0 i) = true then
    (match hd (b.take 8192) (b.length + 1) (i + 2) [] with
     | none => (10, none)
     | some none => (bigE b.length, none)
     | some (some (l, m)) => (0, some (lineAt (b.take 8192) 0 i, l, m)))
  else (9, none) := by
  unfold readS
  rw [if_neg (by omega), hi, Int.toNat_natCast]
theorem lineAt_size (w : List UInt8) (a i : Nat) : (lineAt w a i).size ≤ i := by
  rw [← L_length, lineAt, L_mk, List.length_take]
  omega

def outP (n : Nat) (st : Int) (old : Bool) : Option (Option (List S86 × Nat)) → Int × Bool × List S86 × Int × Bool × Int
  | none => (0, false, [], 0, false, 10)
  | some none => (0, false, [], 0, false, bigE n)
  | some (some (l, m)) => (st, old, l, (m : Int), true, 0)
theorem hd_prog (w : List UInt8) (n : Nat) (st : Int) (old : Bool) (hw : w.length ≤ 100000000) : ∀ (k a : Nat) (l : List S86), 0 < a → a ≤ w.length → w.length - a < k →
    Ev (fun q => head_read.l0 q (numsL w) (n : Int) st old l (a : Int)) (outP n st old (hd w k a l)) := by
  intro k
  induction k with
  | zero => intro a l _ _ h; exact absurd h (by omega)
  | succ k ih =>
    intro a l h0 ha hk
    have hix : bytes_Index.f ((numsL w).drop (a : Int).toNat) [13, 10] = some (Lib.index (w.drop a) crlf) := by
      rw [Int.toNat_natCast, numsL_drop]
      exact index_prog _ (by rw [List.length_drop]; omega)
    rcases drop_index w a with hi | ⟨i, hi, hr⟩
    · refine Ev.step (f := fun _ => some (outP n st old (hd w (k + 1) a l))) (fun q => ?_) (Ev.now _)
      simp only [head_read.l0]
      rw [if_pos ⟨by omega, by rw [numsL_length]; omega⟩, hix, hi]
      simp only [Option.bind_some]
      rw [if_pos (by omega)]
      simp only [hd, if_pos hi, outP, bigE]
      congr 6
      by_cases h : 8192 ≤ n
      · rw [if_pos h, if_pos (by omega)]
      · rw [if_neg h, if_neg (by omega)]
    · have hline : strOfNums (((numsL w).take ((a : Int) + (i : Int)).toNat).drop (a : Int).toNat) = lineAt w a i := by
        rw [show ((a : Int) + (i : Int)).toNat = a + i by omega, Int.toNat_natCast, numsL_take, numsL_drop, strOf_L, List.drop_take]
        unfold lineAt
        congr 4
        omega
      by_cases h0i : i = 0
      · refine Ev.step (f := fun _ => some (outP n st old (hd w (k + 1) a l))) (fun q => ?_) (Ev.now _)
        simp only [head_read.l0]
        rw [if_pos ⟨by omega, by rw [numsL_length]; omega⟩, hix, hi]
        simp only [Option.bind_some]
        rw [if_neg (by omega), if_pos (by rw [numsL_length]; omega), if_neg (by omega), hline]
        have el : (lineAt w a i).toList = [] := by rw [toList_L, lineAt, L_mk, h0i]; rfl
        rw [if_pos el]
        simp only [hd]
        rw [if_neg (by omega), if_pos (by omega)]
        simp only [outP]
        rw [h0i]
        rfl
      · have el : ¬ (lineAt w a i).toList = [] := by
          rw [toList_L, lineAt, L_mk]
          intro h
          have := congrArg List.length h
          rw [List.length_take, List.length_drop, List.length_nil] at this
          omega
        have hf := field_prog l.length (lineAt w a i) (by have := lineAt_size w a i; omega)
        refine Ev.step (f := fun q => (head_head_field.f q l.length (lineAt w a i)).bind fun t => (if t.1 = 0 then head_read.l0 q (numsL w) (n : Int) st old (l ++ [⟨t.2.1, t.2.2⟩]) ((a + i + 2 : Nat) : Int) else some (0, false, [], 0, false, t.1))) (fun q => ?_) ?_
        · simp only [head_read.l0]
          rw [if_pos ⟨by omega, by rw [numsL_length]; omega⟩, hix, hi]
          simp only [Option.bind_some]
          rw [if_neg (by omega), if_pos (by rw [numsL_length]; omega), if_neg (by omega), hline, if_neg el]
          rw [show ((a : Int) + ((i : Int) + 2)) = ((a + i + 2 : Nat) : Int) by omega]
        · refine Ev.bind hf ?_
          have hu : hd w (k + 1) a l = match fieldOf (lineAt w a i) with
              | none => none
              | some f => if l.length < 64 then hd w k (a + i + 2) (l ++ [f]) else none := by
            simp only [hd]
            rw [if_neg (by omega), if_neg (by omega), hi, Int.toNat_natCast]
          rw [hu]
          unfold fieldP
          cases hff : fieldOf (lineAt w a i) with
          | none =>
            exact Ev.congr (f := fun _ => some (0, false, [], 0, false, 10)) (fun _ => if_neg (show ¬ ((10 : Int) = 0) by decide)) (Ev.now _)
          | some f =>
            by_cases h64 : l.length < 64
            · simp only [if_pos h64]
              exact ih (a + i + 2) (l ++ [f]) (by omega) (by omega) (by omega)
            · simp only [if_neg h64]
              exact Ev.congr (f := fun _ => some (0, false, [], 0, false, 10)) (fun _ => if_neg (by decide)) (Ev.now _)
def readP : Int × Option (ByteArray × List S86 × Nat) → Int × Bool × List S86 × Int × Bool × Int
  | (e, none) => (0, false, [], 0, false, e)
  | (_, some (s, l, m)) => (stv s 3, oldB s, l, (m : Int), true, 0)
theorem min_take (b : List UInt8) : (numsL b).take (min ((numsL b).length : Int) 8192).toNat = numsL (b.take 8192) := by
  rw [numsL_length, numsL_take]
  congr 1
  by_cases h : b.length ≤ 8192
  · rw [List.take_of_length_le (by omega), List.take_of_length_le h]
  · congr 1; omega
theorem read_prog (b : List UInt8) (hb : b.length ≤ 100000000) : Ev (fun k => head_read.f k (numsL b)) (readP (readS b)) := by
  have hw : (b.take 8192).length ≤ b.length := by rw [List.length_take]; omega
  refine Ev.congr (f := fun k => head_read.l0 k (numsL (b.take 8192)) (b.length : Int) 0 false [] 0) (fun k => by unfold head_read.f; rw [min_take, numsL_length]) ?_
  have hix : bytes_Index.f ((numsL (b.take 8192)).drop (0 : Int).toNat) [13, 10] = some (Lib.index (b.take 8192) crlf) := by
    rw [show (0 : Int).toNat = 0 from rfl, List.drop_zero]
    exact index_prog _ (by omega)
  have hdi := drop_index (b.take 8192) 0
  rw [List.drop_zero] at hdi
  rcases hdi with hi | ⟨i, hi, hr⟩
  · refine Ev.step (f := fun _ => some (readP (readS b))) (fun q => ?_) (Ev.now _)
    simp only [head_read.l0]
    rw [if_pos ⟨by omega, by omega⟩, hix, hi]
    simp only [Option.bind_some]
    rw [if_pos (by omega)]
    unfold readS
    rw [if_pos hi]
    simp only [readP, bigE]
    congr 6
    by_cases h : 8192 ≤ b.length
    · rw [if_pos h, if_pos (by omega)]
    · rw [if_neg h, if_neg (by omega)]
  · have hline : strOfNums (((numsL (b.take 8192)).take ((0 : Int) + (i : Int)).toNat).drop (0 : Int).toNat) = lineAt (b.take 8192) 0 i := by
      rw [show ((0 : Int) + (i : Int)).toNat = i by omega, show (0 : Int).toNat = 0 from rfl, List.drop_zero, numsL_take, strOf_L]
      rfl
    have hf := first_prog (lineAt (b.take 8192) 0 i) (by have := lineAt_size (b.take 8192) 0 i; omega)
    refine Ev.step (f := fun q => (head_head_first.f q (lineAt (b.take 8192) 0 i)).bind fun t => (if t.1 = 0 then head_read.l0 q (numsL (b.take 8192)) (b.length : Int) t.2.1 t.2.2 [] ((i + 2 : Nat) : Int) else some (0, false, [], 0, false, t.1))) (fun q => ?_) ?_
    · simp only [head_read.l0]
      rw [if_pos ⟨by omega, by omega⟩, hix, hi]
      simp only [Option.bind_some]
      rw [if_neg (by omega), if_pos (by rw [numsL_length]; omega), if_pos trivial, if_pos trivial, hline]
      rw [show ((0 : Int) + ((i : Int) + 2)) = ((i + 2 : Nat) : Int) by omega]
    · refine Ev.bind hf ?_
      rw [readS_at b i hi]
      unfold firstP
      by_cases hs : statusB (lineAt (b.take 8192) 0 i) = true
      · simp only [if_pos hs, if_true]
        have := hd_prog (b.take 8192) b.length (stv (lineAt (b.take 8192) 0 i) 3) (oldB (lineAt (b.take 8192) 0 i)) (by omega) (b.length + 1) (i + 2) [] (by omega) (by omega) (by omega)
        cases hh : hd (b.take 8192) (b.length + 1) (i + 2) [] with
        | none => rw [hh] at this; exact this
        | some o =>
          cases o with
          | none => rw [hh] at this; exact this
          | some p => rw [hh] at this; exact this
      · simp only [if_neg hs]
        exact Ev.congr (f := fun _ => some (0, false, [], 0, false, 9)) (fun _ => if_neg (by decide)) (Ev.now _)

end Go.Proofs.YtfpcoanlkfgagaaGreatDoor.Plain
namespace Go.Proofs.YtfpcoanlkfgagaaGreatDoor.Plain
open Go.RowKit Go.Proofs.YtfpcoanlkfgagaaGreatDoor.PA Go.Proofs.YtfpcoanlkfgagaaGreatDoor.Ext Go.Proofs.YtfpcoanlkfgagaaGreatDoorW.PrintWords

theorem same_iff (a b : ByteArray) : a.toList = b.toList ↔ a = b := by
  rw [toList_L, toList_L]
  exact ⟨L_inj, fun h => by rw [h]⟩
theorem rdOf_at (l : List ByteArray) (i : Nat) (h : i < l.length) : rdOf ByteArray.empty l (i : Int) = l[i]'h := by
  simp [rdOf, List.getD_eq_getElem?_getD, List.getElem?_eq_getElem h]
theorem rd86_at (l : List S86) (i : Nat) (h : i < l.length) : rd_T86 l (i : Int) = l[i]'h := by
  simp [rd_T86, List.getD_eq_getElem?_getD, List.getElem?_eq_getElem h]

def hasName (name : ByteArray) (f : S86) : Bool := decide (f.f0 = name)
def vals (l : List S86) (name : ByteArray) : List ByteArray := (l.filter (hasName name)).map S86.f1
theorem vals_le (l : List S86) (name : ByteArray) : (vals l name).length ≤ l.length := by
  unfold vals
  rw [List.length_map]
  exact List.length_filter_le _ _
theorem values_prog_from (l : List S86) (name : ByteArray) (st : Int) (old : Bool) (sz : Int) (hl : l.length ≤ 100000000) (d : Nat) : ∀ (i : Nat) (acc : List ByteArray), i ≤ l.length → l.length - i = d → acc.length ≤ i →
    Ev (fun k => head_head_values.l0 k name acc l (l.length : Int) (i : Int) st old l sz) (acc ++ vals (l.drop i) name, st, old, sz) := by
  induction d with
  | zero =>
    intro i acc hi hd ha
    obtain rfl : i = l.length := by omega
    refine Ev.step (f := fun _ => some (acc, st, old, sz)) (fun k => ?_) ?_
    · simp only [head_head_values.l0]
      rw [if_neg (by omega)]
    · rw [List.drop_length]
      simp only [vals, List.filter_nil, List.map_nil, List.append_nil]
      exact Ev.now _
  | succ d ih =>
    intro i acc hi hd ha
    have hlt : i < l.length := by omega
    have hdr : l.drop i = l[i]'hlt :: l.drop (i + 1) := List.drop_eq_getElem_cons hlt
    refine Ev.step (f := fun k => if (l[i]'hlt).f0 = name then head_head_values.l0 k name (acc ++ [(l[i]'hlt).f1]) l (l.length : Int) ((i + 1 : Nat) : Int) st old l sz else head_head_values.l0 k name acc l (l.length : Int) ((i + 1 : Nat) : Int) st old l sz) (fun k => ?_) ?_
    · simp only [head_head_values.l0]
      rw [if_pos (by omega), if_pos (by omega), if_pos (by omega), rd86_at l i hlt, wrap_up hlt (by omega)]
      simp only [same_iff]
      rw [if_pos (show acc.length < 8796093022208 by omega)]
    · rw [hdr]
      by_cases h : (l[i]'hlt).f0 = name
      · simp only [if_pos h]
        have := ih (i + 1) (acc ++ [(l[i]'hlt).f1]) (by omega) (by omega) (by rw [List.length_append]; simp; omega)
        have e : acc ++ vals (l[i]'hlt :: l.drop (i + 1)) name = (acc ++ [(l[i]'hlt).f1]) ++ vals (l.drop (i + 1)) name := by
          unfold vals
          rw [List.filter_cons_of_pos (by simp [hasName, h])]
          simp
        rw [e]
        exact this
      · simp only [if_neg h]
        have := ih (i + 1) acc (by omega) (by omega) (by omega)
        have e : vals (l[i]'hlt :: l.drop (i + 1)) name = vals (l.drop (i + 1)) name := by
          unfold vals
          rw [List.filter_cons_of_neg (by simp [hasName, h])]
        rw [e]
        exact this
theorem values_prog (l : List S86) (name : ByteArray) (st : Int) (old : Bool) (sz : Int) (hl : l.length ≤ 100000000) :
    Ev (fun k => head_head_values.f k st old l sz name) (vals l name, st, old, sz) := by
  have := values_prog_from l name st old sz hl l.length 0 [] (by omega) (by omega) (by simp)
  rw [List.drop_zero, List.nil_append] at this
  exact this
def elemOK (v0 s : ByteArray) : Bool := decide (s = v0) && (decide (1 ≤ s.size) && (decide (s.size ≤ 15) && (L s).all isDg))
def lenS (v : List ByteArray) : Int × Bool :=
  match v with
  | [] => (-1, true)
  | v0 :: t => if (v0 :: t).all (elemOK v0) = true then ((num 0 (L v0) : Int), true) else (0, false)
theorem dg_digits (c : UInt8) : (([48, 49, 50, 51, 52, 53, 54, 55, 56, 57] : List UInt8).contains c) = isDg c := by
  have h : ∀ c : Fin 256, (([48, 49, 50, 51, 52, 53, 54, 55, 56, 57] : List UInt8).contains (UInt8.ofNat c.val)) = isDg (UInt8.ofNat c.val) := by decide +kernel
  have := h ⟨c.toNat, c.toNat_lt⟩
  simpa only [UInt8.ofNat_toNat] using this
theorem trim_digits (s : ByteArray) (hs : s.size ≤ 100000000) : ∃ t, strings_Trim.f s (⟨#[48, 49, 50, 51, 52, 53, 54, 55, 56, 57]⟩ : ByteArray) = some t ∧ (t.toList = [] ↔ (L s).all isDg = true) := by
  refine ⟨⟨(Lib.trimS (L s) [48, 49, 50, 51, 52, 53, 54, 55, 56, 57]).toArray⟩, ?_, ?_⟩
  · unfold strings_Trim.f
    rw [if_pos ⟨by omega, by decide, by decide⟩]
  · rw [toList_L, L_mk, trimS_nil]
    have e : (fun x => ([48, 49, 50, 51, 52, 53, 54, 55, 56, 57] : List UInt8).contains x) = isDg := funext dg_digits
    rw [e]
theorem length_prog_from (v0 : ByteArray) (t : List ByteArray) (st : Int) (old : Bool) (l : List S86) (sz : Int) (hv : (v0 :: t).length ≤ 100000000) (hz : ∀ s ∈ (v0 :: t), s.size ≤ 100000000) (d : Nat) :
    ∀ (i : Nat), i ≤ (v0 :: t).length → (v0 :: t).length - i = d → (i = 0 ∨ elemOK v0 v0 = true) →
    Ev (fun k => head_head_length.l0 k (v0 :: t) (v0 :: t) ((v0 :: t).length : Int) (i : Int) st old l sz) (if ((v0 :: t).drop i).all (elemOK v0) = true then ((num 0 (L v0) : Int), 0, st, old, sz) else (0, 11, st, old, sz)) := by
  have hr0 : rdOf ByteArray.empty (v0 :: t) 0 = v0 := rfl
  have hpos : (0 : Int) < ((v0 :: t).length : Int) := by simp
  induction d with
  | zero =>
    intro i hi hd h0
    obtain rfl : i = (v0 :: t).length := by omega
    have hok : elemOK v0 v0 = true := h0.resolve_left (by simp)
    unfold elemOK at hok
    simp only [Bool.and_eq_true, decide_eq_true_eq] at hok
    have hp := parse_num (L v0) (fun h => by have := L_length v0; rw [h] at this; simp at this; omega) (by rw [L_length]; exact hok.2.2.1) hok.2.2.2
    refine Ev.step (f := fun _ => some ((num 0 (L v0) : Int), 0, st, old, sz)) (fun k => ?_) ?_
    · simp only [head_head_length.l0]
      rw [if_neg (by omega), if_pos hpos, hr0]
      unfold strconv_ParseInt.f
      rw [if_pos ⟨by omega, rfl, rfl⟩, hp.1]
      rfl
    · rw [List.drop_length]
      exact Ev.now _
  | succ d ih =>
    intro i hi hd h0
    have hlt : i < (v0 :: t).length := by omega
    have hdr : (v0 :: t).drop i = (v0 :: t)[i]'hlt :: (v0 :: t).drop (i + 1) := List.drop_eq_getElem_cons hlt
    obtain ⟨x, hx⟩ : ∃ x, x = (v0 :: t)[i]'hlt := ⟨_, rfl⟩
    have hxs : x.size ≤ 100000000 := hz x (by rw [hx]; exact List.getElem_mem hlt)
    obtain ⟨q, hq, hqd⟩ := trim_digits x hxs
    rw [hdr, ← hx, List.all_cons]
    have hstep : ∀ k, head_head_length.l0 (k + 1) (v0 :: t) (v0 :: t) ((v0 :: t).length : Int) (i : Int) st old l sz = if elemOK v0 x = true then head_head_length.l0 k (v0 :: t) (v0 :: t) ((v0 :: t).length : Int) ((i + 1 : Nat) : Int) st old l sz else some (0, 11, st, old, sz) := fun k => by
      simp only [head_head_length.l0]
      rw [if_pos (by omega), if_pos (by omega), if_pos (by omega), if_pos hpos, hr0, rdOf_at _ i hlt, ← hx, wrap_up hlt (by omega), hq]
      simp only [Option.bind_some]
      unfold elemOK
      by_cases a : x = v0
      · rw [if_pos ((same_iff _ _).2 a), decide_eq_true a, Bool.true_and]
        by_cases b : 1 ≤ x.size
        · rw [if_neg (by omega), decide_eq_true b, Bool.true_and]
          by_cases c : x.size ≤ 15
          · rw [if_neg (by omega), decide_eq_true c, Bool.true_and]
            by_cases e : (L x).all isDg = true
            · rw [if_pos (hqd.2 e), if_pos e]
            · rw [if_neg (fun h => e (hqd.1 h)), if_neg e]
          · rw [if_pos (by omega), decide_eq_false c, Bool.false_and, if_neg (by decide)]
        · rw [if_pos (by omega), decide_eq_false b, Bool.false_and, if_neg (by decide)]
      · rw [if_neg (fun h => a ((same_iff _ _).1 h)), decide_eq_false a, Bool.false_and, if_neg (by decide)]
    refine Ev.step (f := fun k => if elemOK v0 x = true then head_head_length.l0 k (v0 :: t) (v0 :: t) ((v0 :: t).length : Int) ((i + 1 : Nat) : Int) st old l sz else some (0, 11, st, old, sz)) hstep ?_
    by_cases hok : elemOK v0 x = true
    · have hxv : x = v0 := by
        unfold elemOK at hok
        simp only [Bool.and_eq_true, decide_eq_true_eq] at hok
        exact hok.1
      simp only [hok, if_true, Bool.true_and]
      exact ih (i + 1) (by omega) (by omega) (.inr (by rw [hxv] at hok; exact hok))
    · simp only [Bool.eq_false_iff.2 hok, Bool.false_and, Bool.false_eq_true, if_false]
      exact Ev.now _
def lenP (st : Int) (old : Bool) (sz : Int) (r : Int × Bool) : Int × Int × Int × Bool × Int := (r.1, if r.2 = true then 0 else 11, st, old, sz)
abbrev clen : ByteArray := ⟨#[99, 111, 110, 116, 101, 110, 116, 45, 108, 101, 110, 103, 116, 104]⟩
theorem length_prog (l : List S86) (st : Int) (old : Bool) (sz : Int) (hl : l.length ≤ 100000000) (hz : ∀ s ∈ vals l clen, s.size ≤ 100000000) :
    Ev (fun k => head_head_length.f k st old l sz) (lenP st old sz (lenS (vals l clen))) := by
  refine Ev.congr (f := fun k => (head_head_values.f k st old l sz clen).bind fun bt130 => (if (bt130.1.length : Int) = 0 then (some ((-1), 0, bt130.2.1, bt130.2.2.1, bt130.2.2.2)) else (head_head_length.l0 k bt130.1 bt130.1 (bt130.1.length : Int) 0 bt130.2.1 bt130.2.2.1 l bt130.2.2.2))) (fun k => rfl) (Ev.bind (values_prog l clen st old sz hl) ?_)
  have hle := vals_le l clen
  cases hv : vals l clen with
  | nil =>
    simp only [List.length_nil]
    exact Ev.congr (f := fun _ => some _) (fun _ => if_pos (by rfl)) (Ev.now _)
  | cons v0 t =>
    rw [hv] at hle hz
    have := length_prog_from v0 t st old l sz (by omega) hz _ 0 (by omega) rfl (.inl rfl)
    have hne : ¬ (((v0 :: t).length : Int) = 0) := by simp; omega
    simp only [if_neg hne]
    unfold lenS
    by_cases h : (v0 :: t).all (elemOK v0) = true
    · simp only [List.drop_zero, if_pos h] at this ⊢
      exact this
    · simp only [List.drop_zero, if_neg h] at this ⊢
      exact this

end Go.Proofs.YtfpcoanlkfgagaaGreatDoor.Plain
namespace Go.Proofs.YtfpcoanlkfgagaaGreatDoor.Plain
open Go.RowKit Go.Proofs.YtfpcoanlkfgagaaGreatDoor.PA Go.Proofs.YtfpcoanlkfgagaaGreatDoor.Ext Go.Proofs.YtfpcoanlkfgagaaGreatDoorW.PrintWords

def hit (word : ByteArray) (p : ByteArray) : Bool := decide (smallS (trimB p) = word)
def hitL (word : ByteArray) (p : List UInt8) : Bool := hit word ⟨p.toArray⟩
def saysOne (word v : ByteArray) : Bool := (pieces (L v)).any (hitL word)
def saysS (vs : List ByteArray) (word : ByteArray) : Bool := vs.any (saysOne word)

theorem rdrop_length (p : UInt8 → Bool) (l : List UInt8) : (rdrop p l).length ≤ l.length := by
  unfold rdrop
  have h := (List.dropWhile_sublist (p := p) (l := l.reverse)).length_le
  rw [List.length_reverse] at h ⊢
  exact h
theorem trimB_size (s : ByteArray) : (trimB s).size ≤ s.size := by
  rw [← L_length, trimB, L_mk, ← L_length]
  unfold trim
  have h := (List.dropWhile_sublist (p := blank) (l := L s)).length_le
  have h2 := rdrop_length blank ((L s).dropWhile blank)
  omega
theorem split_pieces_B (v : ByteArray) (hs : v.size ≤ 100000000) : ∃ t, strings_Split.f v (⟨#[44]⟩ : ByteArray) = some t ∧ t.map L = pieces (L v) ∧ t.length ≤ v.size + 2 := by
  have hd := Lib.splitB_data (⟨#[44]⟩ : ByteArray) 0 (Lib.countB v ⟨#[44]⟩) v
  have hc : Lib.countB v ⟨#[44]⟩ = Lib.count (L v) [44] := rfl
  have hs1 := split_size (L v)
  have hsp := split_pieces (L v).length (L v) (Nat.le_refl _)
  have hcl := Lib.count_le (L v) [44]
  rw [L_length] at hcl
  have he : (⟨#[44]⟩ : ByteArray).data.toList = [44] := rfl
  rw [hc, he] at hd
  have hlen : (Lib.splitB (⟨#[44]⟩ : ByteArray) 0 (Lib.count (L v) [44]) v).length = Lib.count (L v) [44] + 1 := by
    have := congrArg List.length hd
    rw [List.length_map] at this
    rw [this]
    exact hs1
  refine ⟨Lib.splitB (⟨#[44]⟩ : ByteArray) 0 (Lib.count (L v) [44]) v, ?_, ?_, by omega⟩
  · unfold strings_Split.f
    rw [hc, if_pos ⟨by omega, by decide, by omega, hlen⟩]
  · rw [← hsp]
    exact hd
theorem says_inner (word : ByteArray) (vs : List ByteArray) (i : Nat) (st : Int) (old : Bool) (l : List S86) (sz : Int) (r : Bool) (t : List ByteArray) (ht : t.length ≤ 1000000000) (hz : ∀ p ∈ t, p.size ≤ 100000000)
    (hnext : Ev (fun k => head_head_says.l0 k word false vs (vs.length : Int) (wrap64 ((i : Int) + 1)) st old l sz) (r, st, old, sz)) (d : Nat) : ∀ j : Nat, j ≤ t.length → t.length - j = d →
    Ev (fun k => head_head_says.l1 k word false vs (vs.length : Int) (i : Int) t (t.length : Int) (j : Int) st old l sz) ((t.drop j).any (hit word) || r, st, old, sz) := by
  induction d with
  | zero =>
    intro j hj hd
    obtain rfl : j = t.length := by omega
    rw [List.drop_length]
    refine Ev.step (f := fun k => head_head_says.l0 k word false vs (vs.length : Int) (wrap64 ((i : Int) + 1)) st old l sz) (fun k => ?_) (by simpa using hnext)
    simp only [head_head_says.l1]
    rw [if_neg (by omega)]
  | succ d ih =>
    intro j hj hd
    have hlt : j < t.length := by omega
    have hdr : t.drop j = t[j]'hlt :: t.drop (j + 1) := List.drop_eq_getElem_cons hlt
    have hzj := hz (t[j]'hlt) (List.getElem_mem hlt)
    have hzt := trimB_size (t[j]'hlt)
    rw [hdr, List.any_cons]
    refine Ev.step (f := fun k => if hit word (t[j]'hlt) = true then some (true, st, old, sz) else head_head_says.l1 k word false vs (vs.length : Int) (i : Int) t (t.length : Int) ((j + 1 : Nat) : Int) st old l sz) (fun k => ?_) ?_
    · simp only [head_head_says.l1]
      rw [if_pos (by omega), if_pos (by omega), if_pos (by omega), rdOf_at _ j hlt, trim_prog _ (by omega)]
      simp only [Option.bind_some]
      rw [small_prog _ (by omega), wrap_up hlt (by omega)]
      simp only [Option.bind_some, same_iff, hit, decide_eq_true_iff]
    · by_cases h : hit word (t[j]'hlt) = true
      · simp only [h, if_true, Bool.true_or]
        exact Ev.now _
      · simp only [h, Bool.false_or]
        exact ih (j + 1) (by omega) (by omega)
theorem any_pieces (word v : ByteArray) (t : List ByteArray) (h : t.map L = pieces (L v)) : t.any (hit word) = saysOne word v := by
  unfold saysOne
  rw [← h, List.any_map]
  have e : (hitL word ∘ L) = hit word := funext fun p => by simp only [Function.comp, hitL, mk_L]
  rw [e]
theorem says_prog_from (word : ByteArray) (vs : List ByteArray) (st : Int) (old : Bool) (l : List S86) (sz : Int) (hv : vs.length ≤ 100000000) (hz : ∀ s ∈ vs, s.size ≤ 100000000) (d : Nat) : ∀ i : Nat, i ≤ vs.length → vs.length - i = d →
    Ev (fun k => head_head_says.l0 k word false vs (vs.length : Int) (i : Int) st old l sz) ((vs.drop i).any (saysOne word), st, old, sz) := by
  induction d with
  | zero =>
    intro i hi hd
    obtain rfl : i = vs.length := by omega
    rw [List.drop_length]
    refine Ev.step (f := fun _ => some (false, st, old, sz)) (fun k => ?_) (Ev.now _)
    simp only [head_head_says.l0]
    rw [if_neg (by omega)]
  | succ d ih =>
    intro i hi hd
    have hlt : i < vs.length := by omega
    have hdr : vs.drop i = vs[i]'hlt :: vs.drop (i + 1) := List.drop_eq_getElem_cons hlt
    have hzi := hz (vs[i]'hlt) (List.getElem_mem hlt)
    obtain ⟨t, ht, hp, htl⟩ := split_pieces_B (vs[i]'hlt) hzi
    have hn := ih (i + 1) (by omega) (by omega)
    rw [← wrap_up hlt (by omega)] at hn
    have hpz : ∀ p ∈ t, p.size ≤ 100000000 := fun p hp2 => by
      have hm : L p ∈ pieces (L (vs[i]'hlt)) := by rw [← hp]; exact List.mem_map_of_mem hp2
      have hsz : ∀ (q : List UInt8) (s : List UInt8), q ∈ pieces s → q.length ≤ s.length := by
        intro q s
        induction s generalizing q with
        | nil => intro h; simp [pieces] at h; simp [h]
        | cons c s ihs =>
          intro h
          unfold pieces at h
          split at h
          · rcases List.mem_cons.1 h with h | h
            · simp [h]
            · have := ihs q h; simp; omega
          · split at h
            · rename_i p0 ps he
              rcases List.mem_cons.1 h with h | h
              · have := ihs p0 (by rw [he]; simp)
                rw [h]; simp; omega
              · have := ihs q (by rw [he]; simp [h])
                simp; omega
            · simp at h; simp [h]
      have := hsz _ _ hm
      rw [L_length, L_length] at this
      omega
    have hin := says_inner word vs i st old l sz _ t (by omega) hpz hn _ 0 (by omega) rfl
    rw [List.drop_zero, any_pieces word _ t hp] at hin
    rw [hdr, List.any_cons]
    refine Ev.step (f := fun k => head_head_says.l1 k word false vs (vs.length : Int) (i : Int) t (t.length : Int) ((0 : Nat) : Int) st old l sz) (fun k => ?_) hin
    simp only [head_head_says.l0]
    rw [if_pos (by omega), if_pos (by omega), if_pos (by omega), rdOf_at _ i hlt, ht]
    rfl
abbrev cconn : ByteArray := ⟨#[99, 111, 110, 110, 101, 99, 116, 105, 111, 110]⟩
theorem says_prog (l : List S86) (word : ByteArray) (st : Int) (old : Bool) (sz : Int) (hl : l.length ≤ 100000000) (hz : ∀ s ∈ vals l cconn, s.size ≤ 100000000) :
    Ev (fun k => head_head_says.f k st old l sz word) (saysS (vals l cconn) word, st, old, sz) := by
  unfold head_head_says.f
  refine Ev.bind (values_prog l cconn st old sz hl) ?_
  have := says_prog_from word (vals l cconn) st old l sz (Nat.le_trans (vals_le _ _) hl) hz _ 0 (by omega) rfl
  rw [List.drop_zero] at this
  exact this

end Go.Proofs.YtfpcoanlkfgagaaGreatDoor.Plain
namespace Go.Proofs.YtfpcoanlkfgagaaGreatDoor.Plain
open Go.RowKit Go.Proofs.YtfpcoanlkfgagaaGreatDoor.PA Go.Proofs.YtfpcoanlkfgagaaGreatDoor.Ext Go.Proofs.YtfpcoanlkfgagaaGreatDoorW.PrintWords

structure Whole (s : ByteArray) (l : List S86) (m n : Nat) : Prop where
  st : statusB s = true
  sz : s.size ≤ 8192
  few : l.length ≤ 64
  small : ∀ f ∈ l, f.f1.size ≤ 8192
  pos : 0 < m
  le : m ≤ n
theorem fieldOf_size (s : ByteArray) (f : S86) (h : fieldOf s = some f) : f.f1.size ≤ s.size := by
  unfold fieldOf at h
  split at h
  · cases h
  · split at h
    · rw [← Option.some.inj h]
      exact Nat.le_trans (trimB_size _) (size_extract_le _ _ _)
    · cases h
theorem hd_whole (w : List UInt8) (hw : w.length ≤ 8192) : ∀ (k a : Nat) (l l' : List S86) (m : Nat), l.length ≤ 64 → (∀ f ∈ l, f.f1.size ≤ 8192) → hd w k a l = some (some (l', m)) → l'.length ≤ 64 ∧ (∀ f ∈ l', f.f1.size ≤ 8192) ∧ 0 < m ∧ m ≤ w.length := by
  intro k
  induction k with
  | zero => intro a l l' m _ _ h; cases h
  | succ k ih =>
    intro a l l' m hl hf h
    simp only [hd] at h
    rcases drop_index w a with hi | ⟨i, hi, hr⟩
    · rw [if_pos hi] at h; cases h
    · rw [if_neg (by omega)] at h
      by_cases h0 : i = 0
      · rw [if_pos (by omega)] at h
        simp only [Option.some.injEq, Prod.mk.injEq] at h
        obtain ⟨rfl, rfl⟩ := h
        exact ⟨hl, hf, by omega, by omega⟩
      · rw [if_neg (by omega), hi, Int.toNat_natCast] at h
        split at h
        · cases h
        · rename_i f hff
          split at h
          · rename_i h64
            have hfs := fieldOf_size _ _ hff
            have hls := lineAt_size w a i
            refine ih (a + i + 2) (l ++ [f]) l' m (by rw [List.length_append]; simp; omega) (fun g hg => ?_) h
            rcases List.mem_append.1 hg with hg | hg
            · exact hf g hg
            · rw [List.mem_singleton] at hg; rw [hg]; omega
          · cases h
theorem readS_whole (b : List UInt8) (e : Int) (s : ByteArray) (l : List S86) (m : Nat) (h : readS b = (e, some (s, l, m))) : Whole s l m (b.take 8192).length := by
  have hw : (b.take 8192).length ≤ 8192 := by rw [List.length_take]; omega
  have hdi := drop_index (b.take 8192) 0
  rw [List.drop_zero] at hdi
  rcases hdi with hi | ⟨i, hi, hr⟩
  · unfold readS at h
    rw [if_pos hi] at h
    cases h
  · rw [readS_at b i hi] at h
    split at h
    · rename_i hst
      split at h
      · cases h
      · cases h
      · rename_i l0 m0 hh
        simp only [Prod.mk.injEq, Option.some.injEq] at h
        obtain ⟨_, rfl, rfl, rfl⟩ := h
        obtain ⟨a1, a2, a3, a4⟩ := hd_whole _ hw _ _ _ _ _ (by simp) (by simp) hh
        have hls := lineAt_size (b.take 8192) 0 i
        exact ⟨hst, by omega, a1, a2, a3, a4⟩
    · cases h
theorem vals_size {l : List S86} {name : ByteArray} {n : Nat} (h : ∀ f ∈ l, f.f1.size ≤ n) : ∀ s ∈ vals l name, s.size ≤ n := by
  intro s hs
  obtain ⟨f, hf, rfl⟩ := List.mem_map.1 hs
  exact h f (List.mem_filter.1 hf).1

def chunkd : ByteArray := ⟨#[99, 104, 117, 110, 107, 101, 100]⟩
theorem chunk_iff (s : ByteArray) : s.toList = ([99, 104, 117, 110, 107, 101, 100] : List UInt8) ↔ s = chunkd := by
  rw [toList_L]
  exact ⟨fun h => L_inj h, fun h => by rw [h]; rfl⟩
def closeS (l : List S86) (n : Int) (ch old : Bool) : Bool := saysS (vals l cconn) clos || ((decide (n < 0) && !ch) || (old && !saysS (vals l cconn) kali))
abbrev Told := Int × Int × Bool × Bool × Int × Int
def wrongT (e : Int) : Told := (0, 0, false, false, 0, e)
def parseW (s : ByteArray) (l : List S86) (m : Nat) : Told :=
  if (lenS (vals l clen)).2 = true then
    (if (lenS (vals l clen)).1 ≥ 0 ∧ 0 < (vals l tenc).length then wrongT 11
     else if 1 < (vals l tenc).length then wrongT 12
     else if (vals l tenc).length = 1 then (if smallS (rdOf ByteArray.empty (vals l tenc) 0) = chunkd then (if oldB s = true then wrongT 12 else (stv s 3, (lenS (vals l clen)).1, true, closeS l (lenS (vals l clen)).1 true (oldB s), (m : Int), 0)) else wrongT 12)
     else (stv s 3, (lenS (vals l clen)).1, false, closeS l (lenS (vals l clen)).1 false (oldB s), (m : Int), 0))
  else wrongT 11
def parseS : Int × Option (ByteArray × List S86 × Nat) → Told
  | (e, none) => wrongT e
  | (_, some (s, l, m)) => parseW s l m
theorem parse_g (l : List S86) (st : Int) (old : Bool) (sz n : Int) (ch : Bool) (hl : l.length ≤ 64) (hz : ∀ f ∈ l, f.f1.size ≤ 8192) :
    Ev (fun k => head_Parse.g k st old l sz n ch) (st, n, ch, closeS l n ch old, sz, 0) := by
  have hz2 : ∀ s ∈ vals l cconn, s.size ≤ 100000000 := fun s hs => Nat.le_trans (vals_size hz s hs) (by decide)
  unfold head_Parse.g
  refine Ev.bind (says_prog l clos st old sz (by omega) hz2) ?_
  unfold closeS
  by_cases h1 : saysS (vals l cconn) clos = true
  · simp only [h1, if_true, Bool.true_or]
    exact Ev.now _
  · simp only [Bool.eq_false_iff.2 h1, Bool.false_eq_true, if_false, Bool.false_or]
    by_cases h2 : n < 0 ∧ ch = false
    · simp only [h2, and_self, if_true, decide_true, Bool.not_false, Bool.true_or, Bool.and_self]
      exact Ev.now _
    · have e2 : (decide (n < 0) && !ch) = false := by
        rw [Bool.eq_false_iff]
        intro h
        rw [Bool.and_eq_true] at h
        exact h2 ⟨of_decide_eq_true h.1, by simpa using h.2⟩
      simp only [if_neg h2, e2, Bool.false_or]
      cases old with
      | false =>
        simp only [Bool.false_eq_true, if_false, Bool.false_and]
        exact Ev.now _
      | true =>
        simp only [if_true, Bool.true_and]
        exact Ev.bind (says_prog l kali st true sz (by omega) hz2) (Ev.now _)
theorem parse_prog (b : List UInt8) (hb : b.length ≤ 100000000) : Ev (fun k => head_Parse.f k (numsL b)) (parseS (readS b)) := by
  unfold head_Parse.f
  refine Ev.bind (read_prog b hb) ?_
  cases hr : readS b with
  | mk e o =>
    cases o with
    | none =>
      simp only [readP, parseS, wrongT, Bool.false_eq_true, if_false, ite_self]
      exact Ev.now _
    | some p =>
      obtain ⟨s, l, m⟩ := p
      have hw := readS_whole b e s l m hr
      have hz2 : ∀ s ∈ vals l clen, s.size ≤ 100000000 := fun s hs => Nat.le_trans (vals_size hw.small s hs) (by decide)
      have hz3 : ∀ s ∈ vals l tenc, s.size ≤ 8192 := vals_size hw.small
      have hlen := hw.few
      simp only [readP, parseS, if_true]
      refine Ev.bind (length_prog l _ _ _ (by omega) hz2) (Ev.bind (values_prog l tenc _ _ _ (by omega)) ?_)
      simp only [lenP]
      unfold parseW
      by_cases h1 : (lenS (vals l clen)).2 = true
      · simp only [h1, if_true, eq_self]
        by_cases h2 : (lenS (vals l clen)).1 ≥ 0 ∧ 0 < (vals l tenc).length
        · simp only [h2, and_self, if_true]; exact Ev.now _
        · simp only [h2, if_false]
          by_cases h3 : 1 < (vals l tenc).length
          · simp only [if_pos h3]; exact Ev.now _
          · simp only [if_neg h3]
            by_cases h4 : (vals l tenc).length = 1
            · have hx : (rdOf ByteArray.empty (vals l tenc) 0).size ≤ 8192 := by
                have := rdOf_at (vals l tenc) 0 (by omega)
                rw [show ((0 : Nat) : Int) = 0 from rfl] at this
                rw [this]
                exact hz3 _ (List.getElem_mem _)
              simp only [if_pos h4, small_prog _ (Nat.le_trans hx (by decide)), Option.bind_some, chunk_iff]
              by_cases h5 : smallS (rdOf ByteArray.empty (vals l tenc) 0) = chunkd
              · simp only [if_pos h5]
                by_cases h6 : oldB s = true
                · simp only [h6, if_true]; exact Ev.now _
                · simp only [Bool.eq_false_iff.2 h6, Bool.false_eq_true, if_false]
                  exact parse_g l _ _ _ _ _ hw.few hw.small
              · simp only [if_neg h5]; exact Ev.now _
            · simp only [if_neg h4]
              exact parse_g l _ _ _ _ _ hw.few hw.small
      · simp only [Bool.eq_false_iff.2 h1, Bool.false_eq_true, if_false]
        have hn : ¬ ((11 : Int) = 0) := by decide
        simp only [if_neg hn]
        exact Ev.now _

end Go.Proofs.YtfpcoanlkfgagaaGreatDoor.Plain
namespace Go.Proofs.YtfpcoanlkfgagaaGreatDoor.Plain
open Go.RowKit Go.Proofs.YtfpcoanlkfgagaaGreatDoor.PA Go.Proofs.YtfpcoanlkfgagaaGreatDoor.Ext Go.Proofs.YtfpcoanlkfgagaaGreatDoorW.PrintWords

theorem lineAt_pre (w x : List UInt8) (a i : Nat) (h : a + i ≤ w.length) : lineAt (w ++ x) a i = lineAt w a i := by
  unfold lineAt
  rw [List.drop_append_of_le_length (by omega), List.take_append_of_le_length (by rw [List.length_drop]; omega)]
theorem hd_pre (w x : List UInt8) : ∀ (k a : Nat) (l : List S86) (r : Option (Option (List S86 × Nat))), hd w k a l = r → r ≠ some none → ∀ k', k ≤ k' → hd (w ++ x) k' a l = r := by
  intro k
  induction k with
  | zero => intro a l r h hr; exact absurd h.symm hr
  | succ k ih =>
    intro a l r h hr k' hk
    obtain ⟨k', rfl⟩ : ∃ q, k' = q + 1 := ⟨k' - 1, by omega⟩
    simp only [hd] at h ⊢
    rcases drop_index w a with hi | ⟨i, hi, hroom⟩
    · rw [if_pos hi] at h; exact absurd h.symm hr
    · have hi2 : Lib.index ((w ++ x).drop a) crlf = i := by
        rw [List.drop_append_of_le_length (by omega)]
        exact index_pre x _ i (by decide) hi
      rw [if_neg (by omega), hi] at h
      rw [if_neg (by omega), hi2]
      by_cases h0 : (i : Int) = 0
      · rw [if_pos h0] at h ⊢; exact h
      · rw [if_neg h0, Int.toNat_natCast] at h ⊢
        rw [lineAt_pre w x a i (by omega)]
        cases hf : fieldOf (lineAt w a i) with
        | none => rw [hf] at h; exact h
        | some f =>
          rw [hf] at h
          simp only at h ⊢
          by_cases h64 : l.length < 64
          · rw [if_pos h64] at h ⊢
            exact ih _ _ r h hr k' (by omega)
          · rw [if_neg h64] at h ⊢; exact h
theorem hd_fuel (w : List UInt8) : ∀ (k a : Nat) (l : List S86) (k' : Nat), w.length - a < k → w.length - a < k' → hd w k a l = hd w k' a l := by
  intro k
  induction k with
  | zero => intro a l k' h; exact absurd h (by omega)
  | succ k ih =>
    intro a l k' h h'
    obtain ⟨k', rfl⟩ : ∃ q, k' = q + 1 := ⟨k' - 1, by omega⟩
    simp only [hd]
    rcases drop_index w a with hi | ⟨i, hi, hroom⟩
    · rw [if_pos hi, if_pos hi]
    · have hn1 : ¬ Lib.index (w.drop a) crlf = -1 := by omega
      rw [if_neg hn1, if_neg hn1, hi]
      by_cases h0 : (i : Int) = 0
      · rw [if_pos h0, if_pos h0]
      · rw [if_neg h0, if_neg h0, Int.toNat_natCast]
        cases hf : fieldOf (lineAt w a i) with
        | none => rfl
        | some f =>
          simp only
          by_cases h64 : l.length < 64
          · rw [if_pos h64, if_pos h64]
            exact ih _ _ k' (by omega) (by omega)
          · rw [if_neg h64, if_neg h64]
/-- What a beginning tells, the whole tells, but where it tells nothing. -/
theorem readS_pre (p x : List UInt8) (h : readS p ≠ (0, none)) : readS (p ++ x) = readS p := by
  by_cases hbig : 8192 ≤ p.length
  · have hw : (p ++ x).take 8192 = p.take 8192 := List.take_append_of_le_length hbig
    have hl : (p.take 8192).length = 8192 := by rw [List.length_take]; omega
    have hb1 : bigE (p ++ x).length = bigE p.length := by
      unfold bigE
      rw [if_pos (by rw [List.length_append]; omega), if_pos hbig]
    have hf : ∀ a, hd (p.take 8192) ((p ++ x).length + 1) a [] = hd (p.take 8192) (p.length + 1) a [] := fun a =>
      hd_fuel _ _ a [] _ (by rw [List.length_append]; omega) (by omega)
    unfold readS
    rw [hw, hb1, hf]
  · have hp : p.take 8192 = p := List.take_of_length_le (by omega)
    have hw : (p ++ x).take 8192 = p ++ x.take (8192 - p.length) := by
      rw [List.take_append, hp]
    have hb0 : bigE p.length = 0 := by unfold bigE; rw [if_neg hbig]
    have hdi := drop_index p 0
    rw [List.drop_zero] at hdi
    rcases hdi with hi | ⟨i, hi, hr⟩
    · exact absurd (by unfold readS; rw [hp, if_pos hi, hb0]) h
    · have hi2 : Lib.index ((p ++ x).take 8192) crlf = i := by rw [hw]; exact index_pre _ _ i (by decide) hi
      have hi1 : Lib.index (p.take 8192) crlf = i := by rw [hp]; exact hi
      rw [readS_at p i hi1] at h ⊢
      rw [readS_at (p ++ x) i hi2, hw, lineAt_pre p _ 0 i (by omega)]
      rw [hp] at h ⊢
      by_cases hs : statusB (lineAt p 0 i) = true
      · rw [if_pos hs] at h ⊢
        rw [if_pos hs]
        cases hh : hd p (p.length + 1) (i + 2) [] with
        | none => rw [hd_pre p _ _ _ _ _ hh (by simp) ((p ++ x).length + 1) (by rw [List.length_append]; omega)]
        | some o =>
          cases o with
          | none => rw [hh] at h; exact absurd (by rw [hb0]) h
          | some q => rw [hd_pre p _ _ _ _ _ hh (by simp) ((p ++ x).length + 1) (by rw [List.length_append]; omega)]
      · rw [if_neg hs]
        rw [if_neg hs]
def parseT (b : List UInt8) : Told := parseS (readS b)
theorem parseW_cases (s : ByteArray) (l : List S86) (m : Nat) : (∃ e, e ≠ 0 ∧ parseW s l m = wrongT e) ∨ (parseW s l m).2.2.2.2.2 = 0 ∧ (parseW s l m).2.2.2.2.1 = (m : Int) := by
  unfold parseW
  split
  · split
    · exact .inl ⟨11, by decide, rfl⟩
    · split
      · exact .inl ⟨12, by decide, rfl⟩
      · split
        · split
          · split
            · exact .inl ⟨12, by decide, rfl⟩
            · exact .inr ⟨rfl, rfl⟩
          · exact .inl ⟨12, by decide, rfl⟩
        · exact .inr ⟨rfl, rfl⟩
  · exact .inl ⟨11, by decide, rfl⟩
theorem parseT_cases (b : List UInt8) : (∃ e, parseT b = wrongT e) ∨ (parseT b).2.2.2.2.2 = 0 ∧ ∃ m : Nat, (parseT b).2.2.2.2.1 = (m : Int) ∧ 0 < m ∧ m ≤ b.length := by
  unfold parseT
  cases hr : readS b with
  | mk e o =>
    cases o with
    | none => exact .inl ⟨e, rfl⟩
    | some p =>
      obtain ⟨s, l, m⟩ := p
      have hw := readS_whole b e s l m hr
      have hle := hw.le
      rw [List.length_take] at hle
      rcases parseW_cases s l m with ⟨e2, _, h⟩ | ⟨h1, h2⟩
      · exact .inl ⟨e2, h⟩
      · exact .inr ⟨h1, m, h2, hw.pos, by omega⟩
theorem parseT_pre (p x : List UInt8) (h : parseT p ≠ wrongT 0) : parseT (p ++ x) = parseT p := by
  unfold parseT at h ⊢
  rw [readS_pre p x (fun e => h (by rw [e]; rfl))]
end Go.Proofs.YtfpcoanlkfgagaaGreatDoor.Plain
