/- Plain laws of the head seat, of the reference (B2). -/
import Derived.Test.YtfpcoanlkfgagaaDoorPAx3
import Derived.Test.YtfpcoanlkfgagaaDoorPAx4
import Derived.Test.YtfpcoanlkfgagaaDoorPlainH
import Derived.Test.YtfpcoanlkfgagaaDoorPAx5
import Derived.Test.YtfpcoanlkfgagaaDoorPAx6
import Derived.Test.YtfpcoanlkfgagaaDoorPAx7
namespace Go.Proofs.YtfpcoanlkfgagaaDoor.Plain
open Go.RowKit Go.Proofs.YtfpcoanlkfgagaaDoor.PA Go.Proofs.YtfpcoanlkfgagaaDoor.Ext Go.Proofs.YtfpcoanlkfgagaaDoorW.PrintWords
theorem text_ref_round (k : Nat) (s : ByteArray) (i : Int) (h0 : 0 ≤ i) (h2 : i < (s.size : Int)) :
  odometerref06_MayText.l0 (k + 1) s i = if textP (bt s i) then odometerref06_MayText.l0 k s (wrap64 (i + 1)) else some false := by
 simp only [odometerref06_MayText.l0]
 rw [if_pos h2, if_pos h0]
 have hb := bt_range s i
 generalize bt s i = c at hb
 generalize odometerref06_MayText.l0 k s (wrap64 (i + 1)) = X
 by_cases t : textP c
 ·rw [if_pos t]
  unfold textP at t
  rcases t with t | t
  ·simp (disch := omega) only [if_pos]
  ·by_cases a : c ≤ 126
   ·by_cases d : c = 9 <;> simp (disch := omega) only [if_pos, if_neg]
   ·simp (disch := omega) only [if_pos, if_neg]
 ·rw [if_neg t]
  unfold textP at t
  by_cases a : c < 32
  ·simp (disch := omega) only [if_pos, if_neg]
  ·simp (disch := omega) only [if_pos, if_neg]
theorem text_ref_from (s : ByteArray) (hn : s.size ≤ 140737488351232) (d : Nat) : ∀ i : Nat, i ≤ s.size → s.size - i = d →
  Ev (fun k => odometerref06_MayText.l0 k s (i : Int)) (((L s).drop i).all textB) := by
 induction d with
 | zero =>
  intro i hi hd
  obtain rfl : i = s.size := by omega
  refine Ev.step (f := fun _ => some true) (fun k => ?_) ?_
  ·simp only [odometerref06_MayText.l0]
   rw [if_neg (by omega)]
  ·rw [List.drop_of_length_le (by rw [L_length]; exact Nat.le_refl _)]
   exact Ev.now _
 | succ d ih =>
  intro i hi hd
  have hlt : i < s.size := by omega
  refine Ev.step (f := fun k => if textP (bt s i) then odometerref06_MayText.l0 k s ((i + 1 : Nat) : Int) else some false) (fun k => ?_) ?_
  ·rw [text_ref_round k s i (by omega) (by omega), wrap_up hlt hn]
  ·rw [bt_L s i hlt, drop_L s i hlt, List.all_cons]
   by_cases h : textP (((L s)[i]'(by rw [L_length]; exact hlt)).toNat : Int)
   ·simp only [textB, h, decide_true, if_true, Bool.true_and]
    exact ih (i + 1) (by omega) (by omega)
   ·simp only [textB, h, decide_false, if_false, Bool.false_and]
    exact Ev.now _
theorem text_ref (s : ByteArray) (hn : s.size ≤ 140737488351232) : Ev (fun k => odometerref06_MayText.f k s) (mayText (L s)) := by
 have h := text_ref_from s hn s.size 0 (Nat.zero_le _) (by omega)
 rw [List.drop_zero] at h
 exact h

abbrev sgn : ByteArray := ⟨#[33, 35, 36, 37, 38, 39, 42, 43, 45, 46, 94, 95, 96, 124, 126]⟩
theorem sgn_bt : ∀ q : Fin 15, bt sgn ((q.val : Nat) : Int) = signs.getD q.val 0 := by decide +kernel
theorem name_inner (s : ByteArray) (i c : Int) (r : Bool) (h : Ev (fun k => odometerref06_MayName.l0 k s sgn (wrap64 (i + 1))) r) (d : Nat) : ∀ (q : Nat) (ok : Bool), q ≤ 15 → 15 - q = d →
  Ev (fun k => odometerref06_MayName.l1 k s sgn i c ok (q : Int)) (if ok || (signs.drop q).contains c then r else false) := by
 induction d with
 | zero =>
  intro q ok hq hd
  obtain rfl : q = 15 := by omega
  have e : (signs.drop 15) = [] := rfl
  rw [e]
  cases ok with
  | true =>
   refine Ev.step (f := fun k => odometerref06_MayName.l0 k s sgn (wrap64 (i + 1))) (fun k => ?_) h
   simp only [odometerref06_MayName.l1]
   rw [if_neg (by decide), if_pos trivial]
  | false =>
   refine Ev.step (f := fun _ => some false) (fun k => ?_) (Ev.now _)
   simp only [odometerref06_MayName.l1]
   rw [if_neg (by decide), if_neg (by decide)]
 | succ d ih =>
  intro q ok hq hd
  have hlt : q < 15 := by omega
  have hs : signs.drop q = signs.getD q 0 :: signs.drop (q + 1) := by
   rw [List.drop_eq_getElem_cons (by simpa [signs] using hlt), List.getD_eq_getElem?_getD, List.getElem?_eq_getElem (by simpa [signs] using hlt)]; rfl
  have hw : wrap64 ((q : Int) + 1) = ((q + 1 : Nat) : Int) := wrap_up hlt (by decide)
  have hsz : ((sgn.size : Nat) : Int) = 15 := rfl
  cases ok with
  | true =>
   refine Ev.step (f := fun k => odometerref06_MayName.l1 k s sgn i c true ((q + 1 : Nat) : Int)) (fun k => ?_) ?_
   ·simp only [odometerref06_MayName.l1]
    rw [if_pos (by rw [hsz]; omega), if_pos trivial, hw]
   ·have := ih (q + 1) true (by omega) (by omega)
    simpa using this
  | false =>
   refine Ev.step (f := fun k => odometerref06_MayName.l1 k s sgn i c (bt sgn (q : Int) == c) ((q + 1 : Nat) : Int)) (fun k => ?_) ?_
   ·simp only [odometerref06_MayName.l1]
    rw [if_pos (by rw [hsz]; omega), if_neg (by decide), if_pos (by omega), hw]
   ·have h2 := ih (q + 1) (bt sgn (q : Int) == c) (by omega) (by omega)
    rw [hs, List.contains_cons, Bool.false_or]
    have hb := sgn_bt ⟨q, hlt⟩
    simp only at hb
    rw [hb] at h2 ⊢
    have e : (signs.getD q 0 == c) = (c == signs.getD q 0) := by rw [Bool.eq_iff_iff, beq_iff_eq, beq_iff_eq]; exact eq_comm
    rw [e] at h2 ⊢
    exact h2
theorem name_ref_round (k : Nat) (s x3 : ByteArray) (i : Int) (h0 : 0 ≤ i) (h2 : i < (s.size : Int)) :
  odometerref06_MayName.l0 (k + 1) s x3 i = odometerref06_MayName.j1 k s x3 i (bt s i) (decide (alnum (bt s i))) := by
 simp only [odometerref06_MayName.l0]
 rw [if_pos h2, if_pos h0]
 generalize hc : bt s i = c
 clear hc
 by_cases t : alnum c
 ·rw [decide_eq_true t]
  unfold alnum at t
  rcases t with t | t | t
  ·simp (disch := omega) only [if_pos]
  ·simp (disch := omega) only [if_pos, if_neg]
  ·simp (disch := omega) only [if_pos, if_neg, decide_eq_true]
 ·rw [decide_eq_false t]
  unfold alnum at t
  by_cases a : c ≥ 97
  ·simp (disch := omega) only [if_pos, if_neg, decide_eq_false]
  ·by_cases b : c ≥ 65
   ·simp (disch := omega) only [if_pos, if_neg, decide_eq_false]
   ·by_cases e : c ≥ 48
    ·simp (disch := omega) only [if_pos, if_neg, decide_eq_false]
    ·simp (disch := omega) only [if_pos, if_neg]
theorem name_ref_from (s : ByteArray) (hn : s.size ≤ 140737488351232) (d : Nat) : ∀ i : Nat, i ≤ s.size → s.size - i = d →
  Ev (fun k => odometerref06_MayName.l0 k s sgn (i : Int)) (((L s).drop i).all nameB && !(L s).isEmpty) := by
 induction d with
 | zero =>
  intro i hi hd
  obtain rfl : i = s.size := by omega
  refine Ev.step (f := fun _ => some (!(L s).isEmpty)) (fun k => ?_) ?_
  ·simp only [odometerref06_MayName.l0]
   rw [if_neg (by omega)]
   congr 1
   cases hl : L s with
   | nil => have := L_length s; rw [hl] at this; simp at this; simp [← this]
   | cons c t => have := L_length s; rw [hl] at this; simp at this; simp; omega
  ·rw [List.drop_of_length_le (by rw [L_length]; exact Nat.le_refl _)]
   exact Ev.now _
 | succ d ih =>
  intro i hi hd
  have hlt : i < s.size := by omega
  refine Ev.step (f := fun k => odometerref06_MayName.j1 k s sgn i (bt s i) (decide (alnum (bt s i)))) (fun k => ?_) ?_
  ·exact name_ref_round k s sgn i (by omega) (by omega)
  ·refine Ev.step (f := fun k => odometerref06_MayName.l1 k s sgn i (bt s i) (decide (alnum (bt s i))) ((0 : Nat) : Int)) (fun k => rfl) ?_
   have hi2 := ih (i + 1) (by omega) (by omega)
   rw [← wrap_up hlt hn] at hi2
   have h := name_inner s i (bt s i) _ hi2 15 0 (decide (alnum (bt s i))) (by omega) rfl
   rw [List.drop_zero] at h
   rw [drop_L s i hlt, List.all_cons]
   have e : (decide (alnum (bt s i)) || signs.contains (bt s i)) = nameB ((L s)[i]'(by rw [L_length]; exact hlt)) := by
    rw [bt_L s i hlt]; rfl
   rw [e] at h
   cases hb : nameB ((L s)[i]'(by rw [L_length]; exact hlt)) with
   | true => rw [hb] at h; simpa using h
   | false => rw [hb] at h; simpa using h
theorem name_ref (s : ByteArray) (hn : s.size ≤ 140737488351232) : Ev (fun k => odometerref06_MayName.f k s) (mayName (L s)) := by
 have h := name_ref_from s hn s.size 0 (Nat.zero_le _) (by omega)
 rw [List.drop_zero] at h
 exact h

end Go.Proofs.YtfpcoanlkfgagaaDoor.Plain
namespace Go.Proofs.YtfpcoanlkfgagaaDoor.Plain
open Go.RowKit Go.Proofs.YtfpcoanlkfgagaaDoor.PA Go.Proofs.YtfpcoanlkfgagaaDoor.Ext Go.Proofs.YtfpcoanlkfgagaaDoorW.PrintWords
theorem rdrop_snoc (p : UInt8 → Bool) (l : List UInt8) (c : UInt8) : rdrop p (l ++ [c]) = if p c = true then rdrop p l else l ++ [c] := by
 unfold rdrop
 rw [List.reverse_append, List.reverse_singleton, List.singleton_append]
 by_cases h : p c = true
 ·rw [List.dropWhile_cons_of_pos h, if_pos h]
 ·rw [List.dropWhile_cons_of_neg h, if_neg h]; simp
theorem blank_int (c : UInt8) : blank c = true ↔ ((c.toNat : Int) = 32 ∨ (c.toNat : Int) = 9) := by
 have h : ∀ c : Fin 256, blank (UInt8.ofNat c.val) = true ↔ ((UInt8.ofNat c.val).toNat = 32 ∨ (UInt8.ofNat c.val).toNat = 9) := by decide +kernel
 have := h ⟨c.toNat, c.toNat_lt⟩
 simp only [UInt8.ofNat_toNat] at this
 rw [this]
 omega
theorem trim_l1 (n : Nat) : ∀ s : ByteArray, s.size = n → n ≤ 140737488351232 → Ev (fun k => odometerref06_Trim.l1 k s) (⟨(rdrop blank (L s)).toArray⟩ : ByteArray) := by
 induction n with
 | zero =>
  intro s hs _
  refine Ev.step (f := fun _ => some s) (fun k => ?_) ?_
  ·simp only [odometerref06_Trim.l1]
   rw [if_neg (by omega)]
  ·have : L s = [] := List.length_eq_zero_iff.1 (by rw [L_length, hs])
   rw [this]
   have e : (⟨(rdrop blank []).toArray⟩ : ByteArray) = s := by apply L_inj; rw [this]; rfl
   rw [e]
   exact Ev.now _
 | succ n ih =>
  intro s hs hn
  have hsp : L s = L (s.extract 0 n) ++ [(L s)[n]'(by rw [L_length]; omega)] := by
   rw [L_extract_zero]
   have hlen : n < (L s).length := by rw [L_length]; omega
   rw [List.take_append_getElem hlen, List.take_of_length_le (by rw [L_length]; omega)]
  have hw : wrap64 ((s.size : Int) - 1) = (n : Int) := by rw [hs]; unfold wrap64; omega
  have hx : (s.extract 0 n).size = n := by rw [← L_length, L_extract_zero, List.length_take, L_length]; omega
  refine Ev.step (f := fun k => if blank ((L s)[n]'(by rw [L_length]; omega)) = true then odometerref06_Trim.l1 k (s.extract 0 n) else some s) (fun k => ?_) ?_
  ·simp only [odometerref06_Trim.l1]
   rw [if_pos (by omega), hw, if_pos (by omega), if_pos (by omega), bt_L s n (by omega)]
   have hb := blank_int ((L s)[n]'(by rw [L_length]; omega))
   by_cases h1 : (((L s)[n]'(by rw [L_length]; omega)).toNat : Int) = 32
   ·rw [if_pos h1, if_pos (by omega), if_pos (hb.2 (.inl h1))]; rfl
   ·rw [if_neg h1]
    by_cases h2 : (((L s)[n]'(by rw [L_length]; omega)).toNat : Int) = 9
    ·rw [if_pos h2, if_pos (by omega), if_pos (hb.2 (.inr h2))]; rfl
    ·rw [if_neg h2, if_neg (fun h => by rcases hb.1 h with h | h; exact h1 h; exact h2 h)]
  ·by_cases hb : blank ((L s)[n]'(by rw [L_length]; omega)) = true
   ·have e : rdrop blank (L s) = rdrop blank (L (s.extract 0 n)) := by rw [hsp, rdrop_snoc, if_pos hb]
    rw [e]
    simp only [hb, if_true]
    exact ih _ hx (by omega)
   ·have e : rdrop blank (L s) = L s := by
     conv => lhs; rw [hsp]
     rw [rdrop_snoc, if_neg hb, ← hsp]
    rw [e, mk_L]
    simp only [hb]
    exact Ev.now _
theorem trim_l0 (n : Nat) : ∀ s : ByteArray, s.size = n → n ≤ 140737488351232 → Ev (fun k => odometerref06_Trim.l0 k s) (trimB s) := by
 induction n with
 | zero =>
  intro s hs hn
  have hl := trim_l1 0 s hs (by omega)
  have e : trimB s = ⟨(rdrop blank (L s)).toArray⟩ := by
   have : L s = [] := List.length_eq_zero_iff.1 (by rw [L_length, hs])
   unfold trimB trim; rw [this]; rfl
  rw [e]
  refine Ev.step (f := fun k => odometerref06_Trim.j1 k s) (fun k => ?_) (Ev.step (f := fun k => odometerref06_Trim.l1 k s) (fun k => rfl) hl)
  simp only [odometerref06_Trim.l0]
  rw [if_neg (by omega)]
 | succ n ih =>
  intro s hs hn
  have h0 : 0 < s.size := by omega
  have hd := drop_L s 0 h0
  rw [List.drop_zero] at hd
  have hx : L (s.extract 1 s.size) = (L s).drop 1 := L_extract_end s 1
  have hxs : (s.extract 1 s.size).size = n := by rw [← L_length, hx, List.length_drop, L_length]; omega
  refine Ev.step (f := fun k => if blank ((L s)[0]'(by rw [L_length]; omega)) = true then odometerref06_Trim.l0 k (s.extract 1 s.size) else odometerref06_Trim.j1 k s) (fun k => ?_) ?_
  ·simp only [odometerref06_Trim.l0]
   rw [if_pos (by omega), if_pos (by omega), show bt s 0 = bt s ((0 : Nat) : Int) from rfl, bt_L s 0 (by omega)]
   have hb := blank_int ((L s)[0]'(by rw [L_length]; omega))
   by_cases h1 : (((L s)[0]'(by rw [L_length]; omega)).toNat : Int) = 32
   ·rw [if_pos h1, if_pos (by omega), if_pos (hb.2 (.inl h1))]
   ·rw [if_neg h1]
    by_cases h2 : (((L s)[0]'(by rw [L_length]; omega)).toNat : Int) = 9
    ·rw [if_pos h2, if_pos (by omega), if_pos (hb.2 (.inr h2))]
    ·rw [if_neg h2, if_neg (fun h => by rcases hb.1 h with h | h; exact h1 h; exact h2 h)]
  ·by_cases hb : blank ((L s)[0]'(by rw [L_length]; omega)) = true
   ·have e : trimB s = trimB (s.extract 1 s.size) := by
     unfold trimB trim
     rw [hx]
     conv => lhs; rw [hd, List.dropWhile_cons_of_pos hb]
    rw [e]
    simp only [hb, if_true]
    exact ih _ hxs (by omega)
   ·have e : trimB s = ⟨(rdrop blank (L s)).toArray⟩ := by
     unfold trimB trim
     conv => lhs; rw [hd, List.dropWhile_cons_of_neg hb, ← List.drop_zero (l := (L s)[0]'(by rw [L_length]; omega) :: (L s).drop (0 + 1)), List.drop_zero, ← hd]
    rw [e]
    simp only [hb]
    exact Ev.step (f := fun k => odometerref06_Trim.l1 k s) (fun k => rfl) (trim_l1 (n + 1) s hs hn)
theorem trim_ref (s : ByteArray) (hn : s.size ≤ 140737488351232) : Ev (fun k => odometerref06_Trim.f k s) (trimB s) := trim_l0 s.size s rfl hn

theorem small_ref (s : ByteArray) (hn : s.size ≤ 140737488351232) : odometerref06_Small.f s = some (smallS s) := by unfold odometerref06_Small.f; rw [if_pos (by omega)]; rfl
end Go.Proofs.YtfpcoanlkfgagaaDoor.Plain
namespace Go.Proofs.YtfpcoanlkfgagaaDoor.Plain
open Go.RowKit Go.Proofs.YtfpcoanlkfgagaaDoor.PA Go.Proofs.YtfpcoanlkfgagaaDoor.Ext Go.Proofs.YtfpcoanlkfgagaaDoorW.PrintWords
/-- What the reference's Line answers. -/
def lineOf (b : List UInt8) : ByteArray × Int := if Lib.index b crlf = -1 then (⟨#[]⟩, 0) else (⟨(b.take (Lib.index b crlf).toNat).toArray⟩, Lib.index b crlf + 2)
theorem occ_crlf (b : List UInt8) (i : Nat) : Lib.occAt b crlf i = true ↔ b[i]? = some 13 ∧ b[i + 1]? = some 10 := occ2 b 13 10 i
theorem line_ref_from (b : List UInt8) (hn : b.length ≤ 100000000) (d : Nat) : ∀ i : Nat, i ≤ b.length → b.length - i = d → (∀ j, j < i → Lib.occAt b crlf j = false) →
  Ev (fun k => odometerref06_Line.l0 k (numsL b) (i : Int)) (lineOf b) := by
 induction d with
 | zero =>
  intro i hi hd hj
  obtain rfl : i = b.length := by omega
  refine Ev.step (f := fun _ => some (lineOf b)) (fun k => ?_) (Ev.now _)
  simp only [odometerref06_Line.l0]
  rw [numsL_length, wrap_small _ (by omega) (by omega), if_neg (by omega)]
  have hx : Lib.index b crlf = -1 := Lib.index_none fun j hj2 => by
   rcases Nat.lt_or_ge j b.length with h | h
   ·exact hj j h
   ·rw [Bool.eq_false_iff]
    intro ho
    have := (occ_crlf b j).1 ho
    rw [List.getElem?_eq_none (by omega)] at this
    exact absurd this.1 (by simp)
  unfold lineOf
  rw [if_pos hx]
 | succ d ih =>
  intro i hi hd hj
  have hlt : i < b.length := by omega
  by_cases h1 : i + 1 < b.length
  ·by_cases ho : b[i]'hlt = 13 ∧ b[i + 1]'h1 = 10
   ·have hx : Lib.index b crlf = i := Lib.index_first (by omega) ((occ_crlf b i).2 ⟨by rw [List.getElem?_eq_getElem hlt, ho.1], by rw [List.getElem?_eq_getElem h1, ho.2]⟩) hj
    refine Ev.step (f := fun _ => some (lineOf b)) (fun k => ?_) (Ev.now _)
    simp only [odometerref06_Line.l0]
    rw [numsL_length, wrap_small _ (by omega) (by omega), show (i : Int) + 1 = ((i + 1 : Nat) : Int) from rfl, if_pos (by omega), if_pos (by omega), if_pos (by omega), rd_numsL b i hlt, rd_numsL b (i + 1) h1, ho.1, ho.2]
    rw [if_pos (by rfl), if_pos (by omega), if_pos (by rfl), if_pos (by omega), wrap_small _ (by omega) (by omega)]
    unfold lineOf
    rw [hx, if_neg (by omega), Int.toNat_natCast, numsL_take, strOf_L]
   ·refine Ev.step (f := fun k => odometerref06_Line.l0 k (numsL b) ((i + 1 : Nat) : Int)) (fun k => ?_) (ih (i + 1) (by omega) (by omega) fun j hj2 => ?_)
    ·simp only [odometerref06_Line.l0]
     rw [numsL_length, wrap_small ((i : Int) + 1) (by omega) (by omega), show (i : Int) + 1 = ((i + 1 : Nat) : Int) from rfl, if_pos (by omega), if_pos (by omega), if_pos (by omega), rd_numsL b i hlt, rd_numsL b (i + 1) h1]
     by_cases ha : ((b[i]'hlt).toNat : Int) = 13
     ·have hb : ¬ (((b[i + 1]'h1).toNat : Int) = 10) := fun hb => ho ⟨(byte_eq _ 13 (by decide)).1 ha, (byte_eq _ 10 (by decide)).1 hb⟩
      rw [if_pos ha, if_pos (by omega), if_neg hb]
     ·rw [if_neg ha]
    ·rcases Nat.lt_or_ge j i with h | h
     ·exact hj j h
     ·obtain rfl : j = i := by omega
      rw [Bool.eq_false_iff]
      intro hoc
      have := (occ_crlf b j).1 hoc
      rw [List.getElem?_eq_getElem hlt, List.getElem?_eq_getElem h1] at this
      exact ho ⟨by simpa using this.1, by simpa using this.2⟩
  ·refine Ev.step (f := fun _ => some (lineOf b)) (fun k => ?_) (Ev.now _)
   simp only [odometerref06_Line.l0]
   rw [numsL_length, wrap_small _ (by omega) (by omega), if_neg (by omega)]
   have hx : Lib.index b crlf = -1 := Lib.index_none fun j hj2 => by
    rcases Nat.lt_or_ge j i with h | h
    ·exact hj j h
    ·rw [Bool.eq_false_iff]
     intro ho
     have := (occ_crlf b j).1 ho
     rw [List.getElem?_eq_none (l := b) (i := j + 1) (by omega)] at this
     exact absurd this.2 (by simp)
   unfold lineOf
   rw [if_pos hx]
theorem line_ref (b : List UInt8) (hn : b.length ≤ 100000000) : Ev (fun k => odometerref06_Line.f k (numsL b)) (lineOf b) :=
 line_ref_from b hn b.length 0 (Nat.zero_le _) (by omega) (fun j hj => absurd hj (by omega))
/-- What the reference's Field answers. -/
def FieldR (s : ByteArray) (r : ByteArray × ByteArray × Bool) : Prop := (fieldOf s = none ∧ r.2.2 = false) ∨ fieldOf s = some ⟨r.1, r.2.1⟩ ∧ r.2.2 = true
theorem field_ref_from (s : ByteArray) (hs : s.size ≤ 100000000) (d : Nat) : ∀ i : Nat, i ≤ s.size → s.size - i = d → (∀ j, j < i → Lib.occAt (L s) [58] j = false) →
  ∃ r, FieldR s r ∧ Ev (fun k => odometerref06_Field.l0 k s (i : Int)) r := by
 induction d with
 | zero =>
  intro i hi hd hj
  obtain rfl : i = s.size := by omega
  have hx : Lib.index (L s) [58] = -1 := Lib.index_none fun j hj2 => by
   rcases Nat.lt_or_ge j s.size with h | h
   ·exact hj j h
   ·rw [Bool.eq_false_iff]
    intro ho
    have := (occ1 (L s) 58 j).1 ho
    rw [List.getElem?_eq_none (by rw [L_length]; omega)] at this
    exact absurd this (by simp)
  refine ⟨(⟨#[]⟩, ⟨#[]⟩, false), .inl ⟨by unfold fieldOf; rw [if_pos hx], rfl⟩, Ev.step (f := fun _ => some (⟨#[]⟩, ⟨#[]⟩, false)) (fun k => ?_) (Ev.now _)⟩
  simp only [odometerref06_Field.l0]
  rw [if_neg (by omega)]
 | succ d ih =>
  intro i hi hd hj
  have hlt : i < s.size := by omega
  have hltL : i < (L s).length := by rw [L_length]; exact hlt
  by_cases ho : (L s)[i]'hltL = 58
  ·have hx : Lib.index (L s) [58] = i := Lib.index_first (by omega) ((occ1 (L s) 58 i).2 (by rw [List.getElem?_eq_getElem hltL, ho])) hj
   have hsz0 : (s.extract 0 i).size ≤ s.size := size_extract_le _ _ _
   have hsz1 : (s.extract (i + 1) s.size).size ≤ s.size := size_extract_le _ _ _
   have hn0 := name_ref (s.extract 0 i) (by omega)
   have ht0 := text_ref (s.extract (i + 1) s.size) (by omega)
   have hr0 := trim_ref (s.extract (i + 1) s.size) (by omega)
   rw [L_extract_zero] at hn0
   rw [L_extract_end] at ht0
   have ef : fieldOf s = if mayName ((L s).take i) && mayText ((L s).drop (i + 1)) then some ⟨smallS (s.extract 0 i), trimB (s.extract (i + 1) s.size)⟩ else none := by
    unfold fieldOf
    rw [if_neg (by omega), hx, Int.toNat_natCast]
   refine ⟨(smallS (s.extract 0 i), trimB (s.extract (i + 1) s.size), mayName ((L s).take i) && mayText ((L s).drop (i + 1))), ?_, ?_⟩
   ·unfold FieldR
    rw [ef]
    cases hb : (mayName ((L s).take i) && mayText ((L s).drop (i + 1))) with
    | true => exact .inr ⟨rfl, rfl⟩
    | false => exact .inl ⟨rfl, rfl⟩
   ·refine Ev.step (f := fun k => (odometerref06_Trim.f k (s.extract (i + 1) s.size)).bind fun t168 => ((odometerref06_MayName.f k (s.extract 0 i)).bind fun t169 => (if t169 = true then ((odometerref06_MayText.f k (s.extract (i + 1) s.size)).bind fun t170 => (some (smallS (s.extract 0 i), t168, t170))) else (some (smallS (s.extract 0 i), t168, false))))) (fun k => ?_) ?_
    ·simp only [odometerref06_Field.l0]
     rw [if_pos (by omega), if_pos (by omega), bt_L s i hlt, ho, if_pos (by rfl), if_pos (by omega), wrap_up hlt (by omega), Int.toNat_natCast, Int.toNat_natCast, small_ref _ (by omega)]
     simp only [Option.bind_some]
     rw [if_pos (by omega), if_pos (by omega)]
    ·refine Ev.bind hr0 (Ev.bind hn0 ?_)
     cases h1 : mayName ((L s).take i) with
     | false => simp only [Bool.false_and, Bool.false_eq_true, if_false]; exact Ev.now _
     | true =>
      simp only [Bool.true_and, if_true]
      exact Ev.bind ht0 (Ev.now _)
  ·obtain ⟨r, hr, he⟩ := ih (i + 1) (by omega) (by omega) fun j hj2 => by
    rcases Nat.lt_or_ge j i with h | h
    ·exact hj j h
    ·obtain rfl : j = i := by omega
     rw [Bool.eq_false_iff]
     intro hoc
     have := (occ1 (L s) 58 j).1 hoc
     rw [List.getElem?_eq_getElem hltL] at this
     exact ho (by simpa using this)
   refine ⟨r, hr, Ev.step (f := fun k => odometerref06_Field.l0 k s ((i + 1 : Nat) : Int)) (fun k => ?_) he⟩
   have h58 : ¬ ((((L s)[i]'hltL).toNat : Int) = 58) := fun h => ho ((byte_eq _ 58 (by decide)).1 h)
   simp only [odometerref06_Field.l0]
   rw [if_pos (by omega), if_pos (by omega), bt_L s i hlt, if_neg h58, wrap_up hlt (by omega)]
theorem field_ref (s : ByteArray) (hs : s.size ≤ 100000000) : ∃ r, FieldR s r ∧ Ev (fun k => odometerref06_Field.f k s) r :=
 field_ref_from s hs s.size 0 (Nat.zero_le _) (by omega) (fun j hj => absurd hj (by omega))
end Go.Proofs.YtfpcoanlkfgagaaDoor.Plain
namespace Go.Proofs.YtfpcoanlkfgagaaDoor.Plain
open Go.RowKit Go.Proofs.YtfpcoanlkfgagaaDoor.PA Go.Proofs.YtfpcoanlkfgagaaDoor.Ext Go.Proofs.YtfpcoanlkfgagaaDoorW.PrintWords
theorem digit_f (c : Int) : odometerref06_digit.f c = some (decide (dg c)) := by
 unfold odometerref06_digit.f
 by_cases h : c ≥ 48
 ·rw [if_pos h]
  congr 1
  rw [decide_eq_decide]
  unfold dg
  omega
 ·rw [if_neg h, decide_eq_false (by unfold dg; omega)]
theorem status_j0 (s : ByteArray) (x : Bool) (hs : s.size ≤ 100000000) (h13 : 13 ≤ s.size) :
  Ev (fun k => odometerref06_status.j0 k s x) (!x && (decide (dg (bt s 9) ∧ dg (bt s 10) ∧ dg (bt s 11)) && mayText ((L s).drop 13))) := by
 cases x with
 | true => exact Ev.step (f := fun _ => some false) (fun k => by simp only [odometerref06_status.j0]; rw [if_pos trivial]) (Ev.now _)
 | false =>
  have ht := text_ref (s.extract 13 s.size) (by have := size_extract_le s 13 s.size; omega)
  rw [L_extract_end] at ht
  refine Ev.step (f := fun k => if dg (bt s 9) then (if dg (bt s 10) then (if dg (bt s 11) then (odometerref06_MayText.f k (s.extract 13 s.size)).bind fun t165 => (some t165) else some false) else some false) else some false) (fun k => ?_) ?_
  ·simp only [odometerref06_status.j0, digit_f, Option.bind_some, decide_eq_true_iff]
   rw [if_neg (by decide), if_pos (show (9 : Int) < (s.size : Int) by omega), if_pos (show (10 : Int) < (s.size : Int) by omega), if_pos (show (11 : Int) < (s.size : Int) by omega), if_pos (show (13 : Int) ≤ (s.size : Int) by omega)]
  ·by_cases a : dg (bt s 9)
   ·by_cases b : dg (bt s 10)
    ·by_cases c : dg (bt s 11)
     ·simp only [a, b, c, if_true, and_self, decide_true, Bool.true_and, Bool.not_false]
      exact Ev.bind ht (Ev.now _)
     ·simp only [a, b, c, if_true, if_false, and_false, decide_false, Bool.false_and, Bool.and_false]
      exact Ev.now _
    ·simp only [a, b, if_true, if_false, and_false, false_and, decide_false, Bool.false_and, Bool.and_false]
     exact Ev.now _
   ·simp only [a, if_false, false_and, decide_false, Bool.false_and, Bool.and_false]
    exact Ev.now _
theorem take9 (s : ByteArray) (h13 : 13 ≤ s.size) (l : List UInt8) (hl : l.length = 8) : (L s).take 9 = l ++ [32] ↔ (L s).take 8 = l ∧ bt s 8 = 32 := by
 have h8 : 8 < (L s).length := by rw [L_length]; omega
 have e : (L s).take 9 = (L s).take 8 ++ [(L s)[8]'h8] := (List.take_append_getElem h8).symm
 have hb : bt s 8 = (((L s)[8]'h8).toNat : Int) := bt_L s 8 (by omega)
 rw [e, hb]
 constructor
 ·intro h
  have h2 := List.append_inj h (by rw [List.length_take, hl]; omega)
  refine ⟨h2.1, ?_⟩
  have : (L s)[8]'h8 = 32 := by simpa using h2.2
  rw [this]; rfl
 ·rintro ⟨h1, h2⟩
  rw [h1, (byte_eq _ 32 (by decide)).1 h2]; rfl
theorem status_ref (s : ByteArray) (hs : s.size ≤ 100000000) : Ev (fun k => odometerref06_status.f k s) (statusB s) := by
 by_cases h13 : 13 ≤ s.size
 ·have hold : oldB s = decide ((L s).take 8 = [72, 84, 84, 80, 47, 49, 46, 48] ∧ bt s 8 = 32) := by
   unfold oldB
   rw [decide_eq_decide]
   exact take9 s h13 [72, 84, 84, 80, 47, 49, 46, 48] rfl
  have hnew : newB s = decide ((L s).take 8 = [72, 84, 84, 80, 47, 49, 46, 49] ∧ bt s 8 = 32) := by
   unfold newB
   rw [decide_eq_decide]
   exact take9 s h13 [72, 84, 84, 80, 47, 49, 46, 49] rfl
  have hrest : restB s = (decide (bt s 12 = 32) && (decide (dg (bt s 9) ∧ dg (bt s 10) ∧ dg (bt s 11)) && mayText ((L s).drop 13))) := by
   unfold restB
   rw [← Bool.and_assoc, ← Bool.decide_and]
   congr 1
   rw [decide_eq_decide]
   exact ⟨fun h => h.2, fun h => ⟨h13, h⟩⟩
  have hx : (!(bt s 12 != 32)) = decide (bt s 12 = 32) := by
   rw [Bool.eq_iff_iff]; simp
  have e8 : (s.extract 0 8).toList = (L s).take 8 := by rw [toList_L, L_extract_zero]
  unfold statusB
  rw [hold, hnew, hrest]
  by_cases h1 : (L s).take 8 = [72, 84, 84, 80, 47, 49, 46, 49]
  ·by_cases h8 : bt s 8 = 32
   ·refine Ev.congr (f := fun k => odometerref06_status.j0 k s (bt s 12 != 32)) (fun k => ?_) ?_
    ·unfold odometerref06_status.f
     rw [if_neg (by omega), if_pos (by decide), if_pos (by omega), e8, if_pos h1, if_pos (by omega), if_pos h8, if_pos (by omega)]
    ·have := status_j0 s (bt s 12 != 32) hs h13
     rw [hx] at this
     rw [decide_eq_true (show (L s).take 8 = [72, 84, 84, 80, 47, 49, 46, 49] ∧ bt s 8 = 32 from ⟨h1, h8⟩), Bool.or_true, Bool.true_and]
     exact this
   ·refine Ev.congr (f := fun k => odometerref06_status.j0 k s true) (fun k => ?_) ?_
    ·unfold odometerref06_status.f
     rw [if_neg (by omega), if_pos (by decide), if_pos (by omega), e8, if_pos h1, if_pos (by omega), if_neg h8]
    ·have := status_j0 s true hs h13
     rw [decide_eq_false (fun h => h8 h.2), decide_eq_false (fun h => h8 h.2)]
     simpa using this
  ·by_cases h2 : (L s).take 8 = [72, 84, 84, 80, 47, 49, 46, 48]
   ·by_cases h8 : bt s 8 = 32
    ·refine Ev.congr (f := fun k => odometerref06_status.j0 k s (bt s 12 != 32)) (fun k => ?_) ?_
     ·unfold odometerref06_status.f
      rw [if_neg (by omega), if_pos (by decide), if_pos (by omega), e8, if_neg h1, if_pos h2, if_pos (by omega), if_pos h8, if_pos (by omega)]
     ·have := status_j0 s (bt s 12 != 32) hs h13
      rw [hx] at this
      rw [decide_eq_true (show (L s).take 8 = [72, 84, 84, 80, 47, 49, 46, 48] ∧ bt s 8 = 32 from ⟨h2, h8⟩), Bool.true_or, Bool.true_and]
      exact this
    ·refine Ev.congr (f := fun k => odometerref06_status.j0 k s true) (fun k => ?_) ?_
     ·unfold odometerref06_status.f
      rw [if_neg (by omega), if_pos (by decide), if_pos (by omega), e8, if_neg h1, if_pos h2, if_pos (by omega), if_neg h8]
     ·have := status_j0 s true hs h13
      rw [decide_eq_false (fun h => h8 h.2), decide_eq_false (fun h => h8 h.2)]
      simpa using this
   ·refine Ev.congr (f := fun k => odometerref06_status.j0 k s true) (fun k => ?_) ?_
    ·unfold odometerref06_status.f
     rw [if_neg (by omega), if_pos (by decide), if_pos (by omega), e8, if_neg h1, if_neg h2]
    ·have := status_j0 s true hs h13
     rw [decide_eq_false (fun h => h2 h.1), decide_eq_false (fun h => h1 h.1)]
     simpa using this
 ·have hr : restB s = false := by
   unfold restB
   rw [decide_eq_false (fun h => h13 h.1), Bool.false_and]
  unfold statusB
  rw [hr, Bool.and_false]
  refine Ev.congr (f := fun k => odometerref06_status.j0 k s true) (fun k => ?_) (Ev.step (f := fun _ => some false) (fun k => by simp only [odometerref06_status.j0]; rw [if_pos trivial]) (Ev.now _))
  unfold odometerref06_status.f
  rw [if_pos (by omega)]

def outR (n : Nat) (s : ByteArray) : Option (Option (List S75 × Nat)) → ByteArray × List S75 × Int × Int
 | none => (⟨#[]⟩, [], 0, 10)
 | some none => (⟨#[]⟩, [], 0, bigE n)
 | some (some (l, m)) => (s, l, (m : Int), 0)
theorem big_if (n : Nat) : (if (n : Int) ≥ 8192 then some ((⟨#[]⟩ : ByteArray), ([] : List S75), (0 : Int), (13 : Int)) else some ((⟨#[]⟩ : ByteArray), ([] : List S75), (0 : Int), (0 : Int))) = some (⟨#[]⟩, [], 0, bigE n) := by
 unfold bigE
 by_cases h : 8192 ≤ n
 ·rw [if_pos h, if_pos (by omega)]
 ·rw [if_neg h, if_neg (by omega)]
theorem hd_ref (w : List UInt8) (n : Nat) (s : ByteArray) (hw : w.length ≤ 100000000) : ∀ (k a : Nat) (l : List S75), 0 < a → a ≤ w.length → w.length - a < k → l.length ≤ 64 →
  Ev (fun q => odometerref06_Read.l0 q (numsL w) (n : Int) s (a : Int) l) (outR n s (hd w k a l)) := by
 intro k
 induction k with
 | zero => intro a l _ _ h; exact absurd h (by omega)
 | succ k ih =>
  intro a l h0 ha hk hl
  have hln := line_ref (w.drop a) (by rw [List.length_drop]; omega)
  refine Ev.step (f := fun q => (odometerref06_Line.f q (numsL (w.drop a))).bind fun bt184 => (if bt184.2 = 0 then some (⟨#[]⟩, [], 0, bigE n) else (if bt184.1.toList = ([] : List UInt8) then (some (s, l, wrap64 ((a : Int) + bt184.2), 0)) else ((odometerref06_Field.f q bt184.1).bind fun bt186 => (if bt186.2.2 = true then (if (l.length : Int) = 64 then (some ((⟨#[]⟩ : ByteArray), ([] : List (S75)), 0, 10)) else (if l.length < 4398046511104 then (odometerref06_Read.l0 q (numsL w) (n : Int) s (wrap64 ((a : Int) + bt184.2)) (l ++ [(⟨bt186.1, bt186.2.1⟩ : S75)])) else (none))) else (some ((⟨#[]⟩ : ByteArray), ([] : List (S75)), 0, 10))))))) (fun q => ?_) ?_
  ·simp only [odometerref06_Read.l0]
   rw [if_pos (by omega), if_pos (by omega), if_pos (by rw [numsL_length]; omega), big_if, Int.toNat_natCast, numsL_drop]
  ·refine Ev.bind hln ?_
   rcases drop_index w a with hi | ⟨i, hi, hr⟩
   ·have e1 : lineOf (w.drop a) = (⟨#[]⟩, 0) := by unfold lineOf; rw [if_pos hi]
    rw [e1]
    simp only [if_true, hd, if_pos hi, outR]
    exact Ev.now _
   ·have e1 : lineOf (w.drop a) = (lineAt w a i, (i : Int) + 2) := by unfold lineOf; rw [if_neg (by omega), hi, Int.toNat_natCast]; rfl
    rw [e1]
    have hne : ¬ ((i : Int) + 2 = 0) := by omega
    have hwr : wrap64 ((a : Int) + ((i : Int) + 2)) = ((a + i + 2 : Nat) : Int) := by rw [wrap_small _ (by omega) (by omega)]; omega
    simp only [if_neg hne, hwr]
    by_cases h0i : i = 0
    ·have el : (lineAt w a i).toList = [] := by rw [toList_L, lineAt, L_mk, h0i]; rfl
     simp only [if_pos el]
     have hu : hd w (k + 1) a l = some (some (l, a + 2)) := by
      simp only [hd]
      rw [if_neg (by omega), if_pos (by omega)]
     rw [hu, h0i]
     exact Ev.now _
    ·have el : ¬ (lineAt w a i).toList = [] := by
      rw [toList_L, lineAt, L_mk]
      intro h
      have := congrArg List.length h
      rw [List.length_take, List.length_drop, List.length_nil] at this
      omega
     simp only [if_neg el]
     obtain ⟨r, hrr, hf⟩ := field_ref (lineAt w a i) (by have := lineAt_size w a i; omega)
     refine Ev.bind hf ?_
     have hu : hd w (k + 1) a l = match fieldOf (lineAt w a i) with
       | none => none
       | some f => if l.length < 64 then hd w k (a + i + 2) (l ++ [f]) else none := by
      simp only [hd]
      rw [if_neg (by omega), if_neg (by omega), hi, Int.toNat_natCast]
      rfl
     rw [hu]
     rcases hrr with ⟨h1, h2⟩ | ⟨h1, h2⟩
     ·rw [h1]
      simp only [h2, Bool.false_eq_true, if_false]
      exact Ev.now _
     ·rw [h1]
      simp only [h2, if_true]
      by_cases h64 : l.length < 64
      ·have hn64 : ¬ (l.length : Int) = 64 := by omega
       have hbig : l.length < 4398046511104 := by omega
       simp only [if_pos h64, if_neg hn64, if_pos hbig]
       exact ih (a + i + 2) (l ++ [⟨r.1, r.2.1⟩]) (by omega) (by omega) (by omega) (by rw [List.length_append]; simp; omega)
      ·have hn64 : (l.length : Int) = 64 := by omega
       simp only [if_neg h64, if_pos hn64]
       exact Ev.now _
def readR : Int × Option (ByteArray × List S75 × Nat) → ByteArray × List S75 × Int × Int
 | (e, none) => (⟨#[]⟩, [], 0, e)
 | (_, some (s, l, m)) => (s, l, (m : Int), 0)
theorem read_ref (b : List UInt8) (hb : b.length ≤ 100000000) : Ev (fun k => odometerref06_Read.f k (numsL b)) (readR (readS b)) := by
 have hw : (b.take 8192).length ≤ b.length := by rw [List.length_take]; omega
 refine Ev.congr (f := fun k => odometerref06_Read.j0 k (numsL (b.take 8192)) (b.length : Int)) (fun k => ?_) ?_
 ·unfold odometerref06_Read.f
  rw [numsL_length]
  by_cases h : (b.length : Int) > 8192
  ·rw [if_pos h, if_pos (by omega), numsL_take]
  ·rw [if_neg h, List.take_of_length_le (by omega)]
 have hln := line_ref (b.take 8192) (by omega)
 refine Ev.step (f := fun q => (odometerref06_Line.f q (numsL (b.take 8192))).bind fun bt176 => (if bt176.2 > 0 then ((odometerref06_status.f q bt176.1).bind fun t178 => (odometerref06_Read.j1 q (numsL (b.take 8192)) (b.length : Int) bt176.1 bt176.2 (!t178))) else (odometerref06_Read.j1 q (numsL (b.take 8192)) (b.length : Int) bt176.1 bt176.2 false))) (fun q => rfl) ?_
 refine Ev.bind hln ?_
 have hdi := drop_index (b.take 8192) 0
 rw [List.drop_zero] at hdi
 rcases hdi with hi | ⟨i, hi, hr⟩
 ·have e1 : lineOf (b.take 8192) = (⟨#[]⟩, 0) := by unfold lineOf; rw [if_pos hi]
  rw [e1]
  have hg : ¬ ((0 : Int) > 0) := by omega
  simp only [if_neg hg]
  unfold readS
  rw [if_pos hi]
  refine Ev.step (f := fun q => odometerref06_Read.l0 q (numsL (b.take 8192)) (b.length : Int) ⟨#[]⟩ 0 []) (fun q => by simp only [odometerref06_Read.j1]; rw [if_neg (by decide)]) ?_
  refine Ev.step (f := fun _ => some (⟨#[]⟩, [], 0, bigE b.length)) (fun q => ?_) (Ev.now _)
  simp only [odometerref06_Read.l0]
  rw [if_neg (by omega), big_if]
 ·have e1 : lineOf (b.take 8192) = (lineAt (b.take 8192) 0 i, (i : Int) + 2) := by unfold lineOf; rw [if_neg (by omega), hi, Int.toNat_natCast]; rfl
  rw [e1]
  have hg : ((i : Int) + 2 > 0) := by omega
  simp only [if_pos hg]
  refine Ev.bind (status_ref (lineAt (b.take 8192) 0 i) (by have := lineAt_size (b.take 8192) 0 i; omega)) ?_
  rw [readS_at b i hi]
  by_cases hs : statusB (lineAt (b.take 8192) 0 i) = true
  ·rw [hs, if_pos rfl]
   refine Ev.step (f := fun q => odometerref06_Read.l0 q (numsL (b.take 8192)) (b.length : Int) (lineAt (b.take 8192) 0 i) ((i + 2 : Nat) : Int) []) (fun q => by simp only [odometerref06_Read.j1]; rw [if_neg (by decide)]; rfl) ?_
   have := hd_ref (b.take 8192) b.length (lineAt (b.take 8192) 0 i) (by omega) (b.length + 1) (i + 2) [] (by omega) (by omega) (by omega) (by simp)
   cases hh : hd (b.take 8192) (b.length + 1) (i + 2) [] with
   | none => rw [hh] at this; exact this
   | some o =>
    cases o with
    | none => rw [hh] at this; exact this
    | some p => rw [hh] at this; exact this
  ·rw [Bool.eq_false_iff.2 hs, if_neg (by decide)]
   exact Ev.step (f := fun _ => some (⟨#[]⟩, [], 0, 9)) (fun q => by simp only [odometerref06_Read.j1]; rw [if_pos (by decide)]) (Ev.now _)
end Go.Proofs.YtfpcoanlkfgagaaDoor.Plain
