/- Plain laws of the head seat, over lists of bytes alone: lines, trimming, splitting at commas, decimal numbers. -/
import Derived.Lib.IndexMore
import Derived.Lib.CountLaws
import Derived.Lib.Split
import Derived.Lib.SlTrimSet
import Derived.Lib.ParseIntB
namespace Go.Proofs.YtfpcoanlkfgagaaDoor.Plain

abbrev L (s : ByteArray) : List UInt8 := s.data.toList
theorem L_length (s : ByteArray) : (L s).length = s.size := by cases s; rfl
theorem L_append (a b : ByteArray) : L (a ++ b) = L a ++ L b := by simp [L, ByteArray.data_append]
theorem L_mk (l : List UInt8) : L ⟨l.toArray⟩ = l := by simp [L]
theorem mk_L (s : ByteArray) : (⟨(L s).toArray⟩ : ByteArray) = s := by cases s; simp [L]
theorem L_inj {a b : ByteArray} (h : L a = L b) : a = b := by rw [← mk_L a, ← mk_L b, h]
theorem L_extract (s : ByteArray) (a b : Nat) : L (s.extract a b) = ((L s).drop a).take (b - a) := by
  simp only [L, ByteArray.data_extract, Array.toList_extract, List.extract]
theorem L_extract_end (s : ByteArray) (a : Nat) : L (s.extract a s.size) = (L s).drop a := by
  rw [L_extract, List.take_of_length_le (by rw [List.length_drop, L_length]; exact Nat.le_refl _)]
theorem L_extract_zero (s : ByteArray) (b : Nat) : L (s.extract 0 b) = (L s).take b := by rw [L_extract]; simp

def crlf : List UInt8 := [13, 10]

theorem occ2 (b : List UInt8) (x y : UInt8) (i : Nat) : Lib.occAt b [x, y] i = true ↔ b[i]? = some x ∧ b[i + 1]? = some y := by
  unfold Lib.occAt
  have h0 : (b.drop i)[0]? = b[i]? := by simp
  have h1 : (b.drop i)[1]? = b[i + 1]? := by simp
  rw [← h0, ← h1]
  clear h0 h1
  generalize b.drop i = l
  cases l with
  | nil => simp
  | cons c t =>
    cases t with
    | nil => simp
    | cons d u => simp [eq_comm (a := x), eq_comm (a := y)]

theorem occ1 (b : List UInt8) (x : UInt8) (i : Nat) : Lib.occAt b [x] i = true ↔ b[i]? = some x := by
  unfold Lib.occAt
  have h0 : (b.drop i)[0]? = b[i]? := by simp
  rw [← h0]
  clear h0
  generalize b.drop i = l
  cases l with
  | nil => simp
  | cons c t => simp [eq_comm (a := x)]

/-- The first end of a line: what index answers of a list that begins with a line. -/
theorem index_pre {p : List UInt8} (x : List UInt8) (s : List UInt8) (i : Nat) (hp : p ≠ []) (h : Lib.index s p = i) : Lib.index (s ++ x) p = i := by
  rcases Lib.index_spec s p with ⟨h1, _⟩ | ⟨k, h1, h2, h3, h4⟩
  · omega
  · obtain rfl : k = i := by omega
    have hroom := (Lib.occAt_room h3).resolve_right hp
    refine Lib.index_first (by rw [List.length_append]; omega) ?_ ?_
    · rw [Lib.occAt_iff_take _ _ _ (by rw [List.length_append]; omega)]
      rw [Lib.occAt_iff_take _ _ _ hroom] at h3
      rw [List.drop_append_of_le_length (by omega), List.take_append_of_le_length (by rw [List.length_drop]; omega)]
      exact h3
    · intro j hj
      have hf := h4 j hj
      have hpl : 1 ≤ p.length := by cases p with | nil => exact absurd rfl hp | cons _ _ => simp
      rw [Bool.eq_false_iff] at hf ⊢
      intro ht
      apply hf
      rw [Lib.occAt_iff_take _ _ _ (by omega)]
      rw [Lib.occAt_iff_take _ _ _ (by rw [List.length_append]; omega)] at ht
      rw [List.drop_append_of_le_length (by omega), List.take_append_of_le_length (by rw [List.length_drop]; omega)] at ht
      exact ht

/-! ### trimming -/
def rdrop (p : UInt8 → Bool) (l : List UInt8) : List UInt8 := (l.reverse.dropWhile p).reverse
theorem rdrop_cons (p : UInt8 → Bool) (x : UInt8) (t : List UInt8) : rdrop p (x :: t) = if rdrop p t = [] then (if p x = true then [] else [x]) else x :: rdrop p t := by
  unfold rdrop
  rw [List.reverse_cons, List.dropWhile_append]
  by_cases h : List.dropWhile p t.reverse = []
  · rw [h]
    simp only [List.isEmpty_nil, if_true, List.reverse_nil]
    by_cases hx : p x = true <;> simp [List.dropWhile, hx]
  · have h2 : (List.dropWhile p t.reverse).isEmpty = false := by
      cases hd : List.dropWhile p t.reverse with
      | nil => exact absurd hd h
      | cons _ _ => rfl
    simp [h2, h]
theorem drop_rdrop (p : UInt8 → Bool) (l : List UInt8) : (rdrop p l).dropWhile p = rdrop p (l.dropWhile p) := by
  induction l with
  | nil => rfl
  | cons x t ih =>
    rw [rdrop_cons]
    by_cases hx : p x = true
    · rw [List.dropWhile_cons_of_pos hx, ← ih]
      by_cases h : rdrop p t = []
      · simp [h, hx]
      · simp [h, hx, List.dropWhile]
    · rw [List.dropWhile_cons_of_neg hx, rdrop_cons]
      by_cases h : rdrop p t = []
      · simp [h, hx, List.dropWhile]
      · simp [h, hx, List.dropWhile]
theorem trimS_eq (l cs : List UInt8) : Lib.trimS l cs = rdrop (cs.contains ·) (l.dropWhile (cs.contains ·)) := drop_rdrop _ l
theorem rdrop_nil (p : UInt8 → Bool) (l : List UInt8) : rdrop p l = [] ↔ l.all p = true := by
  induction l with
  | nil => simp [rdrop]
  | cons x t ih =>
    rw [rdrop_cons, List.all_cons]
    by_cases h : rdrop p t = []
    · rw [if_pos h, ih.1 h]
      by_cases hx : p x = true <;> simp [hx]
    · rw [if_neg h]
      have : ¬ t.all p = true := fun e => h (ih.2 e)
      simp [this]
theorem drop_nil (p : UInt8 → Bool) (l : List UInt8) : l.dropWhile p = [] ↔ l.all p = true := by
  induction l with
  | nil => simp
  | cons x t ih =>
    by_cases hx : p x = true
    · rw [List.dropWhile_cons_of_pos hx, ih]; simp [hx]
    · rw [List.dropWhile_cons_of_neg hx]; simp [hx]
theorem rdrop_all (p : UInt8 → Bool) (l : List UInt8) (h : (rdrop p l).all p = true) : l.all p = true := by
  induction l with
  | nil => rfl
  | cons x t ih =>
    rw [rdrop_cons] at h
    by_cases hn : rdrop p t = []
    · rw [if_pos hn] at h
      rw [List.all_cons, (rdrop_nil p t).1 hn]
      by_cases hx : p x = true
      · simp [hx]
      · simp [hx] at h
    · rw [if_neg hn] at h
      simp only [List.all_cons, Bool.and_eq_true] at h
      rw [List.all_cons, h.1, ih h.2]; rfl
theorem trimS_nil (l cs : List UInt8) : Lib.trimS l cs = [] ↔ l.all (cs.contains ·) = true := by
  unfold Lib.trimS Lib.trimLeftS Lib.trimRightS
  rw [drop_nil]
  constructor
  · exact rdrop_all _ l
  · intro h
    rw [show (List.dropWhile (cs.contains ·) l.reverse).reverse = rdrop (cs.contains ·) l from rfl, (rdrop_nil _ l).2 h]; rfl

/-! ### pieces between commas -/
def pieces : List UInt8 → List (List UInt8)
  | [] => [[]]
  | c :: t => if c = 44 then [] :: pieces t else (match pieces t with | p :: ps => (c :: p) :: ps | [] => [[c]])
theorem pieces_ne (l : List UInt8) : pieces l ≠ [] := by
  cases l with
  | nil => simp [pieces]
  | cons c t =>
    unfold pieces
    split
    · simp
    · split <;> simp
theorem pieces_none (l : List UInt8) (h : ∀ x ∈ l, x ≠ 44) : pieces l = [l] := by
  induction l with
  | nil => rfl
  | cons c t ih =>
    unfold pieces
    rw [if_neg (h c (by simp)), ih (fun x hx => h x (by simp [hx]))]
theorem pieces_at (a r : List UInt8) (h : ∀ x ∈ a, x ≠ 44) : pieces (a ++ 44 :: r) = a :: pieces r := by
  induction a with
  | nil => simp [pieces]
  | cons c t ih =>
    rw [List.cons_append]
    rw [pieces, if_neg (h c (by simp)), ih (fun x hx => h x (by simp [hx]))]
theorem index_comma (s : List UInt8) : (Lib.index s [44] = -1 ∧ ∀ x ∈ s, x ≠ 44) ∨ ∃ i : Nat, Lib.index s [44] = i ∧ i < s.length ∧ s = s.take i ++ 44 :: s.drop (i + 1) ∧ ∀ x ∈ s.take i, x ≠ 44 := by
  rcases Lib.index_spec s [44] with ⟨h1, h2⟩ | ⟨i, h1, h2, h3, h4⟩
  · refine .inl ⟨h1, fun x hx he => ?_⟩
    obtain ⟨j, hj, rfl⟩ := List.mem_iff_getElem.1 hx
    have := h2 j (by omega)
    rw [Bool.eq_false_iff] at this
    exact this ((occ1 s 44 j).2 (by rw [List.getElem?_eq_getElem hj, he]))
  · have h5 := (occ1 s 44 i).1 h3
    obtain ⟨hi, he⟩ := List.getElem?_eq_some_iff.1 h5
    refine .inr ⟨i, h1, hi, ?_, fun x hx hx2 => ?_⟩
    · rw [← he, List.getElem_cons_drop, List.take_append_drop]
    · obtain ⟨j, hj, rfl⟩ := List.mem_iff_getElem.1 hx
      rw [List.length_take] at hj
      have := h4 j (by omega)
      rw [Bool.eq_false_iff] at this
      refine this ((occ1 s 44 j).2 ?_)
      rw [List.getElem_take] at hx2
      rw [List.getElem?_eq_getElem (by omega), hx2]
theorem split_pieces (d : Nat) : ∀ s : List UInt8, s.length ≤ d → Lib.splitK [44] 0 (Lib.count s [44]) s = pieces s := by
  induction d with
  | zero =>
    intro s hs
    obtain rfl : s = [] := List.length_eq_zero_iff.1 (by omega)
    rfl
  | succ d ih =>
    intro s hs
    rcases index_comma s with ⟨h1, h2⟩ | ⟨i, h1, h2, h3, h4⟩
    · rw [Lib.count_miss h1, pieces_none s h2]; rfl
    · rw [Lib.count_hit (by simp) h1, Nat.add_comm]
      unfold Lib.splitK
      rw [if_neg (by rw [h1]; simp), h1]
      simp only [Int.toNat_natCast, List.length_cons, List.length_nil, Nat.zero_add, Nat.add_zero]
      rw [ih _ (by rw [List.length_drop]; omega)]
      conv => rhs; rw [h3]
      rw [pieces_at _ _ h4]
theorem split_size (s : List UInt8) : (Lib.splitK [44] 0 (Lib.count s [44]) s).length = Lib.count s [44] + 1 := by
  suffices H : ∀ d, ∀ s : List UInt8, s.length ≤ d → (Lib.splitK [44] 0 (Lib.count s [44]) s).length = Lib.count s [44] + 1 from H s.length s (Nat.le_refl _)
  intro d
  induction d with
  | zero =>
    intro s hs
    obtain rfl : s = [] := List.length_eq_zero_iff.1 (by omega)
    rfl
  | succ d ih =>
    intro s hs
    rcases index_comma s with ⟨h1, h2⟩ | ⟨i, h1, h2, h3, h4⟩
    · rw [Lib.count_miss h1]; rfl
    · rw [Lib.count_hit (by simp) h1, Nat.add_comm 1]
      unfold Lib.splitK
      rw [if_neg (by rw [h1]; simp), h1]
      simp only [Int.toNat_natCast, List.length_cons, List.length_nil, Nat.zero_add, Nat.add_zero]
      rw [ih _ (by rw [List.length_drop]; omega)]

/-! ### decimal numbers -/
def isDg (c : UInt8) : Bool := decide (48 ≤ c.toNat ∧ c.toNat ≤ 57)
def num (acc : Nat) : List UInt8 → Nat
  | [] => acc
  | c :: r => num (acc * 10 + (c.toNat - 48)) r
theorem num_le (n : Nat) : ∀ (l : List UInt8) (acc k : Nat), l.length = n → l.all isDg = true → acc < 10 ^ k → num acc l < 10 ^ (k + n) := by
  induction n with
  | zero =>
    intro l acc k hl _ ha
    obtain rfl := List.length_eq_zero_iff.1 hl
    exact ha
  | succ n ih =>
    intro l acc k hl hd ha
    cases l with
    | nil => simp at hl
    | cons c r =>
      simp only [List.all_cons, Bool.and_eq_true, isDg, decide_eq_true_eq] at hd
      have := ih r (acc * 10 + (c.toNat - 48)) (k + 1) (by simpa using hl) (by simpa [isDg] using hd.2) (by rw [Nat.pow_succ]; omega)
      rw [show k + (n + 1) = k + 1 + n by omega]
      exact this
theorem num_mono (l : List UInt8) : ∀ acc, acc ≤ num acc l := by
  induction l with
  | nil => intro acc; exact Nat.le_refl _
  | cons c r ih => intro acc; have := ih (acc * 10 + (c.toNat - 48)); unfold num; omega
theorem parseM (l : List UInt8) : ∀ acc, l.all isDg = true → num acc l < 10 ^ 15 → Lib.parseUintM (2 ^ 64 - 1) acc l = .ok (num acc l) := by
  induction l with
  | nil => intro acc _ _; rfl
  | cons c r ih =>
    intro acc hd hn
    simp only [List.all_cons, Bool.and_eq_true, isDg, decide_eq_true_eq] at hd
    have h2 := num_mono r (acc * 10 + (c.toNat - 48))
    unfold num at hn
    unfold Lib.parseUintM
    rw [if_pos hd.1, if_neg (by omega), if_neg (by omega)]
    exact ih _ (by simpa [isDg] using hd.2) hn
theorem parse_num (l : List UInt8) (h0 : l ≠ []) (h1 : l.length ≤ 15) (hd : l.all isDg = true) : Lib.parseIntB 64 l = .ok (num 0 l : Int) ∧ num 0 l < 10 ^ 15 := by
  have hb : num 0 l < 10 ^ 15 := by
    have := num_le l.length l 0 0 rfl hd (by decide)
    have h2 : 10 ^ (0 + l.length) ≤ 10 ^ 15 := Nat.pow_le_pow_right (by decide) (by omega)
    omega
  refine ⟨?_, hb⟩
  cases l with
  | nil => exact absurd rfl h0
  | cons c r =>
    have hc : 48 ≤ c.toNat ∧ c.toNat ≤ 57 := by
      simp only [List.all_cons, Bool.and_eq_true, isDg, decide_eq_true_eq] at hd
      exact hd.1
    have h45 : ¬ (c.toNat = 43 ∨ c.toNat = 45) := by omega
    simp only [Lib.parseIntB, if_neg h45]
    unfold Lib.parseUintB
    rw [if_neg (by simp), parseM (c :: r) 0 hd hb]
    have hne : ¬ c.toNat = 45 := by omega
    simp only [hne, not_false_eq_true, true_and, false_and, if_false]
    rw [if_neg (by have : (2:Nat) ^ (64 - 1) = 9223372036854775808 := by decide
                   omega)]
end Go.Proofs.YtfpcoanlkfgagaaDoor.Plain
