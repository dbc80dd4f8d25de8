/- The sum of a text, bit by bit and by a table, is the same. (Core Lean alone.) -/
namespace Go.Proofs.YtpihpkphhkcdlaaGreatDoor.Crc
/-- A bit's step. -/
def st (c : Nat) : Nat := (c / 2) ^^^ (if c % 2 = 1 then 3988292384 else 0)
def st8 (c : Nat) : Nat := st (st (st (st (st (st (st (st c)))))))
theorem half_xor (a b : Nat) : (a ^^^ b) / 2 = (a / 2) ^^^ (b / 2) := by
  apply Nat.eq_of_testBit_eq
  intro i
  simp only [Nat.testBit_xor, ← Nat.testBit_succ]
theorem odd_xor (a b : Nat) : (a ^^^ b) % 2 = 1 ↔ ¬ (a % 2 = 1 ↔ b % 2 = 1) := by
  have h : ∀ n : Nat, (n % 2 = 1) ↔ n.testBit 0 = true := fun n => by rw [Nat.testBit_zero]; simp
  rw [h, h, h, Nat.testBit_xor]
  cases a.testBit 0 <;> cases b.testBit 0 <;> simp
theorem st_xor (a b : Nat) : st (a ^^^ b) = st a ^^^ st b := by
  unfold st
  rw [half_xor]
  have h := odd_xor a b
  by_cases h1 : a % 2 = 1 <;> by_cases h2 : b % 2 = 1 <;> simp only [h1, h2, iff_true, iff_false, not_true_eq_false, not_false_eq_true] at h <;> simp only [h, h1, h2, if_true, if_false, Nat.xor_zero]
  · apply Nat.eq_of_testBit_eq
    intro i
    simp only [Nat.testBit_xor]
    cases (a / 2).testBit i <;> cases (b / 2).testBit i <;> cases (3988292384 : Nat).testBit i <;> simp
  · apply Nat.eq_of_testBit_eq
    intro i
    simp only [Nat.testBit_xor]
    cases (a / 2).testBit i <;> cases (b / 2).testBit i <;> cases (3988292384 : Nat).testBit i <;> simp
  · apply Nat.eq_of_testBit_eq
    intro i
    simp only [Nat.testBit_xor]
    cases (a / 2).testBit i <;> cases (b / 2).testBit i <;> cases (3988292384 : Nat).testBit i <;> simp
theorem st_even (m : Nat) : st (2 * m) = m := by
  unfold st
  rw [if_neg (by omega), show 2 * m / 2 = m by omega, Nat.xor_zero]
theorem st8_xor (a b : Nat) : st8 (a ^^^ b) = st8 a ^^^ st8 b := by
  unfold st8
  simp only [st_xor]
theorem st8_high (h : Nat) : st8 (256 * h) = h := by
  have e : 256 * h = 2 * (2 * (2 * (2 * (2 * (2 * (2 * (2 * h))))))) := by omega
  unfold st8
  rw [e]
  simp only [st_even]
theorem split_xor (c : Nat) : c = (c % 256) ^^^ (256 * (c / 256)) := by
  apply Nat.eq_of_testBit_eq
  intro i
  have h1 : (c % 256).testBit i = (decide (i < 8) && c.testBit i) := by rw [show (256 : Nat) = 2 ^ 8 by decide, Nat.testBit_mod_two_pow]
  have h2 : (256 * (c / 256)).testBit i = (decide (8 ≤ i) && c.testBit i) := by
    rw [show (256 : Nat) = 2 ^ 8 by decide, Nat.testBit_two_pow_mul]
    by_cases h8 : 8 ≤ i
    · rw [← Nat.shiftRight_eq_div_pow, Nat.testBit_shiftRight]
      simp [h8, show 8 + (i - 8) = i by omega]
    · simp [h8]
  rw [Nat.testBit_xor, h1, h2]
  by_cases h8 : i < 8
  · simp [h8, show ¬ 8 ≤ i by omega]
  · simp [h8, show 8 ≤ i by omega]
theorem high_xor (c x : Nat) (hx : x < 256) : (c ^^^ x) / 256 = c / 256 := by
  have e : ∀ a b : Nat, (a ^^^ b) / 256 = (a / 256) ^^^ (b / 256) := fun a b => by
    simp only [show (256 : Nat) = 2 ^ 8 by decide, ← Nat.shiftRight_eq_div_pow, Nat.shiftRight_xor_distrib]
  rw [e, show x / 256 = 0 by omega, Nat.xor_zero]
theorem low_xor (c x : Nat) (hx : x < 256) : (c ^^^ x) % 256 = (c % 256) ^^^ x := by
  have e : ∀ a b : Nat, (a ^^^ b) % 256 = (a % 256) ^^^ (b % 256) := fun a b => by
    simp only [show (256 : Nat) = 2 ^ 8 by decide, Nat.xor_mod_two_pow]
  rw [e, show x % 256 = x by omega]
/-- A byte's eight steps, by the table. -/
theorem table_step (c x : Nat) (hx : x < 256) : st8 (c ^^^ x) = st8 ((c % 256) ^^^ x) ^^^ (c / 256) := by
  conv => lhs; rw [split_xor (c ^^^ x), st8_xor, st8_high]
  rw [low_xor c x hx, high_xor c x hx]
/-- The sum of a text. -/
def crc (l : List UInt8) : Nat := (l.foldl (fun c x => st8 (c ^^^ x.toNat)) 4294967295) ^^^ 4294967295
end Go.Proofs.YtpihpkphhkcdlaaGreatDoor.Crc
