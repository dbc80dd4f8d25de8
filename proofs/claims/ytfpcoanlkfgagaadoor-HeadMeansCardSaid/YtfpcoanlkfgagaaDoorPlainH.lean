/- Plain laws of the head seat: what a beginning tells, the whole tells, too. -/
import Derived.Test.YtfpcoanlkfgagaaDoorPlainG
namespace Go.Proofs.YtfpcoanlkfgagaaDoor.Plain
open Go.RowKit Go.Proofs.YtfpcoanlkfgagaaDoor.PA Go.Proofs.YtfpcoanlkfgagaaDoor.Ext Go.Proofs.YtfpcoanlkfgagaaDoorW.PrintWords

theorem lineAt_pre (w x : List UInt8) (a i : Nat) (h : a + i ≤ w.length) : lineAt (w ++ x) a i = lineAt w a i := by
  unfold lineAt
  rw [List.drop_append_of_le_length (by omega), List.take_append_of_le_length (by rw [List.length_drop]; omega)]
theorem hd_pre (w x : List UInt8) : ∀ (k a : Nat) (l : List S75) (r : Option (Option (List S75 × Nat))), hd w k a l = r → r ≠ some none → ∀ k', k ≤ k' → hd (w ++ x) k' a l = r := by
  intro k
  induction k with
  | zero => intro a l r h hr; exact absurd h.symm hr
  | succ k ih =>
    intro a l r h hr k' hk
    obtain ⟨k', rfl⟩ : ∃ q, k' = q + 1 := ⟨k' - 1, by omega⟩
    simp only [hd] at h ⊢
    rcases drop_index w a with hi | ⟨i, hi, hroom⟩
    · rw [if_pos hi] at h; exact absurd h.symm hr
    · have hi2 : Lib.index ((w ++ x).drop a) crlf = i := by
        rw [List.drop_append_of_le_length (by omega)]
        exact index_pre x _ i (by decide) hi
      rw [if_neg (by omega), hi] at h
      rw [if_neg (by omega), hi2]
      by_cases h0 : (i : Int) = 0
      · rw [if_pos h0] at h ⊢; exact h
      · rw [if_neg h0, Int.toNat_natCast] at h ⊢
        rw [lineAt_pre w x a i (by omega)]
        cases hf : fieldOf (lineAt w a i) with
        | none => rw [hf] at h; exact h
        | some f =>
          rw [hf] at h
          simp only at h ⊢
          by_cases h64 : l.length < 64
          · rw [if_pos h64] at h ⊢
            exact ih _ _ r h hr k' (by omega)
          · rw [if_neg h64] at h ⊢; exact h
theorem hd_fuel (w : List UInt8) : ∀ (k a : Nat) (l : List S75) (k' : Nat), w.length - a < k → w.length - a < k' → hd w k a l = hd w k' a l := by
  intro k
  induction k with
  | zero => intro a l k' h; exact absurd h (by omega)
  | succ k ih =>
    intro a l k' h h'
    obtain ⟨k', rfl⟩ : ∃ q, k' = q + 1 := ⟨k' - 1, by omega⟩
    simp only [hd]
    rcases drop_index w a with hi | ⟨i, hi, hroom⟩
    · rw [if_pos hi, if_pos hi]
    · have hn1 : ¬ Lib.index (w.drop a) crlf = -1 := by omega
      rw [if_neg hn1, if_neg hn1, hi]
      by_cases h0 : (i : Int) = 0
      · rw [if_pos h0, if_pos h0]
      · rw [if_neg h0, if_neg h0, Int.toNat_natCast]
        cases hf : fieldOf (lineAt w a i) with
        | none => rfl
        | some f =>
          simp only
          by_cases h64 : l.length < 64
          · rw [if_pos h64, if_pos h64]
            exact ih _ _ k' (by omega) (by omega)
          · rw [if_neg h64, if_neg h64]
/-- What a beginning tells, the whole tells, but where it tells nothing. -/
theorem readS_pre (p x : List UInt8) (h : readS p ≠ (0, none)) : readS (p ++ x) = readS p := by
  by_cases hbig : 8192 ≤ p.length
  · have hw : (p ++ x).take 8192 = p.take 8192 := List.take_append_of_le_length hbig
    have hl : (p.take 8192).length = 8192 := by rw [List.length_take]; omega
    have hb1 : bigE (p ++ x).length = bigE p.length := by
      unfold bigE
      rw [if_pos (by rw [List.length_append]; omega), if_pos hbig]
    have hf : ∀ a, hd (p.take 8192) ((p ++ x).length + 1) a [] = hd (p.take 8192) (p.length + 1) a [] := fun a =>
      hd_fuel _ _ a [] _ (by rw [List.length_append]; omega) (by omega)
    unfold readS
    rw [hw, hb1, hf]
  · have hp : p.take 8192 = p := List.take_of_length_le (by omega)
    have hw : (p ++ x).take 8192 = p ++ x.take (8192 - p.length) := by
      rw [List.take_append, hp]
    have hb0 : bigE p.length = 0 := by unfold bigE; rw [if_neg hbig]
    have hdi := drop_index p 0
    rw [List.drop_zero] at hdi
    rcases hdi with hi | ⟨i, hi, hr⟩
    · exact absurd (by unfold readS; rw [hp, if_pos hi, hb0]) h
    · have hi2 : Lib.index ((p ++ x).take 8192) crlf = i := by rw [hw]; exact index_pre _ _ i (by decide) hi
      have hi1 : Lib.index (p.take 8192) crlf = i := by rw [hp]; exact hi
      rw [readS_at p i hi1] at h ⊢
      rw [readS_at (p ++ x) i hi2, hw, lineAt_pre p _ 0 i (by omega)]
      rw [hp] at h ⊢
      by_cases hs : statusB (lineAt p 0 i) = true
      · rw [if_pos hs] at h ⊢
        rw [if_pos hs]
        cases hh : hd p (p.length + 1) (i + 2) [] with
        | none => rw [hd_pre p _ _ _ _ _ hh (by simp) ((p ++ x).length + 1) (by rw [List.length_append]; omega)]
        | some o =>
          cases o with
          | none => rw [hh] at h; exact absurd (by rw [hb0]) h
          | some q => rw [hd_pre p _ _ _ _ _ hh (by simp) ((p ++ x).length + 1) (by rw [List.length_append]; omega)]
      · rw [if_neg hs]
        rw [if_neg hs]
def parseT (b : List UInt8) : Told := parseS (readS b)
theorem parseW_cases (s : ByteArray) (l : List S75) (m : Nat) : (∃ e, e ≠ 0 ∧ parseW s l m = wrongT e) ∨ (parseW s l m).2.2.2.2.2 = 0 ∧ (parseW s l m).2.2.2.2.1 = (m : Int) := by
  unfold parseW
  split
  · split
    · exact .inl ⟨11, by decide, rfl⟩
    · split
      · exact .inl ⟨12, by decide, rfl⟩
      · split
        · split
          · split
            · exact .inl ⟨12, by decide, rfl⟩
            · exact .inr ⟨rfl, rfl⟩
          · exact .inl ⟨12, by decide, rfl⟩
        · exact .inr ⟨rfl, rfl⟩
  · exact .inl ⟨11, by decide, rfl⟩
theorem parseT_cases (b : List UInt8) : (∃ e, parseT b = wrongT e) ∨ (parseT b).2.2.2.2.2 = 0 ∧ ∃ m : Nat, (parseT b).2.2.2.2.1 = (m : Int) ∧ 0 < m ∧ m ≤ b.length := by
  unfold parseT
  cases hr : readS b with
  | mk e o =>
    cases o with
    | none => exact .inl ⟨e, rfl⟩
    | some p =>
      obtain ⟨s, l, m⟩ := p
      have hw := readS_whole b e s l m hr
      have hle := hw.le
      rw [List.length_take] at hle
      rcases parseW_cases s l m with ⟨e2, _, h⟩ | ⟨h1, h2⟩
      · exact .inl ⟨e2, h⟩
      · exact .inr ⟨h1, m, h2, hw.pos, by omega⟩
theorem parseT_pre (p x : List UInt8) (h : parseT p ≠ wrongT 0) : parseT (p ++ x) = parseT p := by
  unfold parseT at h ⊢
  rw [readS_pre p x (fun e => h (by rw [e]; rfl))]
end Go.Proofs.YtfpcoanlkfgagaaDoor.Plain
