/- Plain laws of the head seat, of the reference (B2). -/
import Derived.Test.YtfpcoanlkfgagaaDoorPAx3
import Derived.Test.YtfpcoanlkfgagaaDoorPAx4
import Derived.Test.YtfpcoanlkfgagaaDoorPlainB
namespace Go.Proofs.YtfpcoanlkfgagaaDoor.Plain
open Go.RowKit Go.Proofs.YtfpcoanlkfgagaaDoor.PA Go.Proofs.YtfpcoanlkfgagaaDoor.Ext Go.Proofs.YtfpcoanlkfgagaaDoorW.PrintWords
theorem text_ref_round (k : Nat) (s : ByteArray) (i : Int) (h0 : 0 ≤ i) (h2 : i < (s.size : Int)) :
    odometerref06_MayText.l0 (k + 1) s i = if textP (bt s i) then odometerref06_MayText.l0 k s (wrap64 (i + 1)) else some false := by
  simp only [odometerref06_MayText.l0]
  rw [if_pos h2, if_pos h0]
  have hb := bt_range s i
  generalize bt s i = c at hb
  generalize odometerref06_MayText.l0 k s (wrap64 (i + 1)) = X
  by_cases t : textP c
  · rw [if_pos t]
    unfold textP at t
    rcases t with t | t
    · simp (disch := omega) only [if_pos, if_neg]
    · by_cases a : c ≤ 126
      · by_cases d : c = 9 <;> simp (disch := omega) only [if_pos, if_neg]
      · simp (disch := omega) only [if_pos, if_neg]
  · rw [if_neg t]
    unfold textP at t
    by_cases a : c < 32
    · simp (disch := omega) only [if_pos, if_neg]
    · simp (disch := omega) only [if_pos, if_neg]
theorem text_ref_from (s : ByteArray) (hn : s.size ≤ 140737488351232) (d : Nat) : ∀ i : Nat, i ≤ s.size → s.size - i = d →
    Ev (fun k => odometerref06_MayText.l0 k s (i : Int)) (((L s).drop i).all textB) := by
  induction d with
  | zero =>
    intro i hi hd
    obtain rfl : i = s.size := by omega
    refine Ev.step (f := fun _ => some true) (fun k => ?_) ?_
    · simp only [odometerref06_MayText.l0]
      rw [if_neg (by omega)]
    · rw [List.drop_of_length_le (by rw [L_length]; exact Nat.le_refl _)]
      exact Ev.now _
  | succ d ih =>
    intro i hi hd
    have hlt : i < s.size := by omega
    refine Ev.step (f := fun k => if textP (bt s i) then odometerref06_MayText.l0 k s ((i + 1 : Nat) : Int) else some false) (fun k => ?_) ?_
    · rw [text_ref_round k s i (by omega) (by omega), wrap_up hlt hn]
    · rw [bt_L s i hlt, drop_L s i hlt, List.all_cons]
      by_cases h : textP (((L s)[i]'(by rw [L_length]; exact hlt)).toNat : Int)
      · simp only [textB, h, decide_true, if_true, Bool.true_and]
        exact ih (i + 1) (by omega) (by omega)
      · simp only [textB, h, decide_false, if_false, Bool.false_and]
        exact Ev.now _
theorem text_ref (s : ByteArray) (hn : s.size ≤ 140737488351232) : Ev (fun k => odometerref06_MayText.f k s) (mayText (L s)) := by
  have h := text_ref_from s hn s.size 0 (Nat.zero_le _) (by omega)
  rw [List.drop_zero] at h
  exact h

abbrev sgn : ByteArray := ⟨#[33, 35, 36, 37, 38, 39, 42, 43, 45, 46, 94, 95, 96, 124, 126]⟩
theorem sgn_bt : ∀ q : Fin 15, bt sgn ((q.val : Nat) : Int) = signs.getD q.val 0 := by decide +kernel
theorem name_inner (s : ByteArray) (i c : Int) (r : Bool) (h : Ev (fun k => odometerref06_MayName.l0 k s sgn (wrap64 (i + 1))) r) (d : Nat) : ∀ (q : Nat) (ok : Bool), q ≤ 15 → 15 - q = d →
    Ev (fun k => odometerref06_MayName.l1 k s sgn i c ok (q : Int)) (if ok || (signs.drop q).contains c then r else false) := by
  induction d with
  | zero =>
    intro q ok hq hd
    obtain rfl : q = 15 := by omega
    have e : (signs.drop 15) = [] := rfl
    rw [e]
    cases ok with
    | true =>
      refine Ev.step (f := fun k => odometerref06_MayName.l0 k s sgn (wrap64 (i + 1))) (fun k => ?_) h
      simp only [odometerref06_MayName.l1]
      rw [if_neg (by decide), if_pos trivial]
    | false =>
      refine Ev.step (f := fun _ => some false) (fun k => ?_) (Ev.now _)
      simp only [odometerref06_MayName.l1]
      rw [if_neg (by decide), if_neg (by decide)]
  | succ d ih =>
    intro q ok hq hd
    have hlt : q < 15 := by omega
    have hs : signs.drop q = signs.getD q 0 :: signs.drop (q + 1) := by
      rw [List.drop_eq_getElem_cons (by simpa [signs] using hlt), List.getD_eq_getElem?_getD, List.getElem?_eq_getElem (by simpa [signs] using hlt)]; rfl
    have hw : wrap64 ((q : Int) + 1) = ((q + 1 : Nat) : Int) := wrap_up hlt (by decide)
    have hsz : ((sgn.size : Nat) : Int) = 15 := rfl
    cases ok with
    | true =>
      refine Ev.step (f := fun k => odometerref06_MayName.l1 k s sgn i c true ((q + 1 : Nat) : Int)) (fun k => ?_) ?_
      · simp only [odometerref06_MayName.l1]
        rw [if_pos (by rw [hsz]; omega), if_pos trivial, hw]
      · have := ih (q + 1) true (by omega) (by omega)
        simpa using this
    | false =>
      refine Ev.step (f := fun k => odometerref06_MayName.l1 k s sgn i c (bt sgn (q : Int) == c) ((q + 1 : Nat) : Int)) (fun k => ?_) ?_
      · simp only [odometerref06_MayName.l1]
        rw [if_pos (by rw [hsz]; omega), if_neg (by decide), if_pos (by omega), hw]
      · have h2 := ih (q + 1) (bt sgn (q : Int) == c) (by omega) (by omega)
        rw [hs, List.contains_cons, Bool.false_or]
        have hb := sgn_bt ⟨q, hlt⟩
        simp only at hb
        rw [hb] at h2 ⊢
        have e : (signs.getD q 0 == c) = (c == signs.getD q 0) := by rw [Bool.eq_iff_iff, beq_iff_eq, beq_iff_eq]; exact eq_comm
        rw [e] at h2 ⊢
        exact h2
theorem name_ref_round (k : Nat) (s x3 : ByteArray) (i : Int) (h0 : 0 ≤ i) (h2 : i < (s.size : Int)) :
    odometerref06_MayName.l0 (k + 1) s x3 i = odometerref06_MayName.j1 k s x3 i (bt s i) (decide (alnum (bt s i))) := by
  simp only [odometerref06_MayName.l0]
  rw [if_pos h2, if_pos h0]
  generalize hc : bt s i = c
  clear hc
  by_cases t : alnum c
  · rw [decide_eq_true t]
    unfold alnum at t
    rcases t with t | t | t
    · simp (disch := omega) only [if_pos, if_neg]
    · simp (disch := omega) only [if_pos, if_neg]
    · simp (disch := omega) only [if_pos, if_neg, decide_eq_true]
  · rw [decide_eq_false t]
    unfold alnum at t
    by_cases a : c ≥ 97
    · simp (disch := omega) only [if_pos, if_neg, decide_eq_false]
    · by_cases b : c ≥ 65
      · simp (disch := omega) only [if_pos, if_neg, decide_eq_false]
      · by_cases e : c ≥ 48
        · simp (disch := omega) only [if_pos, if_neg, decide_eq_false]
        · simp (disch := omega) only [if_pos, if_neg]
theorem name_ref_from (s : ByteArray) (hn : s.size ≤ 140737488351232) (d : Nat) : ∀ i : Nat, i ≤ s.size → s.size - i = d →
    Ev (fun k => odometerref06_MayName.l0 k s sgn (i : Int)) (((L s).drop i).all nameB && !(L s).isEmpty) := by
  induction d with
  | zero =>
    intro i hi hd
    obtain rfl : i = s.size := by omega
    refine Ev.step (f := fun _ => some (!(L s).isEmpty)) (fun k => ?_) ?_
    · simp only [odometerref06_MayName.l0]
      rw [if_neg (by omega)]
      congr 1
      cases hl : L s with
      | nil => have := L_length s; rw [hl] at this; simp at this; simp [← this]
      | cons c t => have := L_length s; rw [hl] at this; simp at this; simp; omega
    · rw [List.drop_of_length_le (by rw [L_length]; exact Nat.le_refl _)]
      exact Ev.now _
  | succ d ih =>
    intro i hi hd
    have hlt : i < s.size := by omega
    refine Ev.step (f := fun k => odometerref06_MayName.j1 k s sgn i (bt s i) (decide (alnum (bt s i)))) (fun k => ?_) ?_
    · exact name_ref_round k s sgn i (by omega) (by omega)
    · refine Ev.step (f := fun k => odometerref06_MayName.l1 k s sgn i (bt s i) (decide (alnum (bt s i))) ((0 : Nat) : Int)) (fun k => rfl) ?_
      have hi2 := ih (i + 1) (by omega) (by omega)
      rw [← wrap_up hlt hn] at hi2
      have h := name_inner s i (bt s i) _ hi2 15 0 (decide (alnum (bt s i))) (by omega) rfl
      rw [List.drop_zero] at h
      rw [drop_L s i hlt, List.all_cons]
      have e : (decide (alnum (bt s i)) || signs.contains (bt s i)) = nameB ((L s)[i]'(by rw [L_length]; exact hlt)) := by
        rw [bt_L s i hlt]; rfl
      rw [e] at h
      cases hb : nameB ((L s)[i]'(by rw [L_length]; exact hlt)) with
      | true => rw [hb] at h; simpa using h
      | false => rw [hb] at h; simpa using h
theorem name_ref (s : ByteArray) (hn : s.size ≤ 140737488351232) : Ev (fun k => odometerref06_MayName.f k s) (mayName (L s)) := by
  have h := name_ref_from s hn s.size 0 (Nat.zero_le _) (by omega)
  rw [List.drop_zero] at h
  exact h

end Go.Proofs.YtfpcoanlkfgagaaDoor.Plain
