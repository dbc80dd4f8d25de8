/- Plain laws of the head seat: names, texts, trimming, small letters, of the program and of the reference. -/
import Derived.Test.YtfpcoanlkfgagaaDoorPAx2
import Derived.Test.YtfpcoanlkfgagaaDoorRd
import Derived.Test.YtfpcoanlkfgagaaDoorPlainA
namespace Go.Proofs.YtfpcoanlkfgagaaDoor.Plain
open Go.RowKit Go.Proofs.YtfpcoanlkfgagaaDoor.PA Go.Proofs.YtfpcoanlkfgagaaDoor.Ext Go.Proofs.YtfpcoanlkfgagaaDoorW.PrintWords

theorem bt_L (s : ByteArray) (i : Nat) (h : i < s.size) : bt s (i : Int) = (((L s)[i]'(by rw [L_length]; exact h)).toNat : Int) := by
  unfold bt
  rw [dif_pos (by simpa using h)]
  rfl
theorem wrap_up {i n : Nat} (h : i < n) (hn : n ≤ 140737488351232) : wrap64 ((i : Int) + 1) = ((i + 1 : Nat) : Int) := by
  unfold wrap64
  omega
theorem wrap_small (x : Int) (h0 : -9223372036854775808 ≤ x) (h1 : x ≤ 9223372036854775807) : wrap64 x = x := by unfold wrap64; omega
theorem drop_L (s : ByteArray) (i : Nat) (h : i < s.size) : (L s).drop i = (L s)[i]'(by rw [L_length]; exact h) :: (L s).drop (i + 1) := List.drop_eq_getElem_cons (by rw [L_length]; exact h)

def textP (c : Int) : Prop := c = 9 ∨ (32 ≤ c ∧ c ≠ 127)
instance (c : Int) : Decidable (textP c) := by unfold textP; infer_instance
def textB (c : UInt8) : Bool := decide (textP (c.toNat : Int))
def mayText (l : List UInt8) : Bool := l.all textB

theorem text_prog_round (k : Nat) (s : ByteArray) (n i : Int) (h0 : 0 ≤ i) (h1 : i < n) (h2 : i < (s.size : Int)) :
    head_MayText.l0 (k + 1) s n i = if textP (bt s i) then head_MayText.l0 k s n (wrap64 (i + 1)) else some false := by
  simp only [head_MayText.l0]
  rw [if_pos h1, if_pos h0, if_pos h2]
  generalize bt s i = c
  generalize head_MayText.l0 k s n (wrap64 (i + 1)) = X
  by_cases t : textP c
  · rw [if_pos t]
    unfold textP at t
    rcases t with t | t
    · simp (disch := omega) only [if_pos, if_neg]
    · simp (disch := omega) only [if_pos, if_neg]
  · rw [if_neg t]
    unfold textP at t
    by_cases a : c < 32
    · simp (disch := omega) only [if_pos, if_neg]
    · simp (disch := omega) only [if_pos, if_neg]
theorem text_prog_from (s : ByteArray) (hn : s.size ≤ 140737488351232) (d : Nat) : ∀ i : Nat, i ≤ s.size → s.size - i = d →
    Ev (fun k => head_MayText.l0 k s (s.size : Int) (i : Int)) (((L s).drop i).all textB) := by
  induction d with
  | zero =>
    intro i hi hd
    obtain rfl : i = s.size := by omega
    refine Ev.step (f := fun _ => some true) (fun k => ?_) ?_
    · simp only [head_MayText.l0]
      rw [if_neg (by omega)]
    · rw [List.drop_of_length_le (by rw [L_length]; exact Nat.le_refl _)]
      exact Ev.now _
  | succ d ih =>
    intro i hi hd
    have hlt : i < s.size := by omega
    refine Ev.step (f := fun k => if textP (bt s i) then head_MayText.l0 k s (s.size : Int) ((i + 1 : Nat) : Int) else some false) (fun k => ?_) ?_
    · rw [text_prog_round k s _ i (by omega) (by omega) (by omega), wrap_up hlt hn]
    · rw [bt_L s i hlt, drop_L s i hlt, List.all_cons]
      by_cases h : textP (((L s)[i]'(by rw [L_length]; exact hlt)).toNat : Int)
      · simp only [textB, h, decide_true, if_true, Bool.true_and]
        exact ih (i + 1) (by omega) (by omega)
      · simp only [textB, h, decide_false, if_false, Bool.false_and]
        exact Ev.now _
theorem text_prog (s : ByteArray) (hn : s.size ≤ 140737488351232) : Ev (fun k => head_MayText.f k s) (mayText (L s)) := by
  have h := text_prog_from s hn s.size 0 (Nat.zero_le _) (by omega)
  rw [List.drop_zero] at h
  exact h
def signs : List Int := [33, 35, 36, 37, 38, 39, 42, 43, 45, 46, 94, 95, 96, 124, 126]
def alnum (c : Int) : Prop := (97 ≤ c ∧ c ≤ 122) ∨ (65 ≤ c ∧ c ≤ 90) ∨ (48 ≤ c ∧ c ≤ 57)
instance (c : Int) : Decidable (alnum c) := by unfold alnum; infer_instance
def nameI (c : Int) : Bool := decide (alnum c) || signs.contains c
def nameB (c : UInt8) : Bool := nameI (c.toNat : Int)
def mayName (l : List UInt8) : Bool := l.all nameB && !l.isEmpty

theorem letter_nat : ∀ n : Fin 256, head_letter.f 4 ((n.val : Nat) : Int) = some (nameI (n.val : Int)) := by decide +kernel
theorem letter_ev (c : Int) (h0 : 0 ≤ c) (h1 : c < 256) : Ev (fun k => head_letter.f k c) (nameI c) := by
  have h := letter_nat ⟨c.toNat, by omega⟩
  simp only [Int.toNat_of_nonneg h0] at h
  exact Ev.of (fun k => head_letter.mono c k) h
theorem toList_L (s : ByteArray) : s.toList = L s := ByteArray.toList_eq s
theorem name_end (s : ByteArray) : (s.toList != ([] : List UInt8)) = !(L s).isEmpty := by
  rw [toList_L]
  cases L s <;> rfl
theorem name_prog_from (s : ByteArray) (hn : s.size ≤ 140737488351232) (d : Nat) : ∀ i : Nat, i ≤ s.size → s.size - i = d →
    Ev (fun k => head_MayName.l0 k s (s.size : Int) (i : Int)) (((L s).drop i).all nameB && !(L s).isEmpty) := by
  induction d with
  | zero =>
    intro i hi hd
    obtain rfl : i = s.size := by omega
    refine Ev.step (f := fun _ => some (!(L s).isEmpty)) (fun k => ?_) ?_
    · simp only [head_MayName.l0]
      rw [if_neg (by omega), name_end]
    · rw [List.drop_of_length_le (by rw [L_length]; exact Nat.le_refl _)]
      exact Ev.now _
  | succ d ih =>
    intro i hi hd
    have hlt : i < s.size := by omega
    have hb := bt_range s (i : Int)
    refine Ev.step (f := fun k => (head_letter.f k (bt s i)).bind fun t => if t = true then head_MayName.l0 k s (s.size : Int) ((i + 1 : Nat) : Int) else some false) (fun k => ?_) ?_
    · simp only [head_MayName.l0]
      rw [if_pos (by omega), if_pos (by omega), if_pos (by omega), wrap_up hlt hn]
    · refine Ev.bind (letter_ev _ hb.1 (by omega)) ?_
      rw [bt_L s i hlt, drop_L s i hlt, List.all_cons]
      by_cases h : nameI (((L s)[i]'(by rw [L_length]; exact hlt)).toNat : Int) = true
      · simp only [nameB, h, if_true, Bool.true_and]
        exact ih (i + 1) (by omega) (by omega)
      · simp only [nameB, h, Bool.false_and]
        exact Ev.now _
theorem name_prog (s : ByteArray) (hn : s.size ≤ 140737488351232) : Ev (fun k => head_MayName.f k s) (mayName (L s)) := by
  have h := name_prog_from s hn s.size 0 (Nat.zero_le _) (by omega)
  rw [List.drop_zero] at h
  exact h

def blank (c : UInt8) : Bool := ([32, 9] : List UInt8).contains c
def trim (l : List UInt8) : List UInt8 := rdrop blank (l.dropWhile blank)
def trimB (s : ByteArray) : ByteArray := ⟨(trim (L s)).toArray⟩
theorem trim_prog (s : ByteArray) (hn : s.size ≤ 140737488351232) : head_trimmed.f s = some (trimB s) := by
  unfold head_trimmed.f strings_Trim.f
  rw [if_pos ⟨by omega, by decide, by decide⟩]
  simp only [Option.bind_some]
  unfold trimB trim
  show some (⟨(Lib.trimS (L s) [32, 9]).toArray⟩ : ByteArray) = _
  rw [trimS_eq]
  rfl
def smallS (s : ByteArray) : ByteArray := strOfNums ((bytesOf s).map smallB)
theorem small_prog (s : ByteArray) (hn : s.size ≤ 140737488351232) : head_small.f s = some (smallS s) := by unfold head_small.f; rw [if_pos (by omega)]; rfl
end Go.Proofs.YtfpcoanlkfgagaaDoor.Plain
