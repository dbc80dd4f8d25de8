/- Plain laws of the head seat, of the reference (E2). -/
import Derived.Test.YtfpcoanlkfgagaaDoorPAx8
import Derived.Test.YtfpcoanlkfgagaaDoorPlainD2
import Derived.Test.YtfpcoanlkfgagaaDoorPlainH
import Derived.Test.YtfpcoanlkfgagaaDoorPAx9
import Derived.Test.YtfpcoanlkfgagaaDoorPAxD
namespace Go.Proofs.YtfpcoanlkfgagaaDoor.Plain
open Go.RowKit Go.Proofs.YtfpcoanlkfgagaaDoor.PA Go.Proofs.YtfpcoanlkfgagaaDoor.Ext Go.Proofs.YtfpcoanlkfgagaaDoorW.PrintWords
theorem values_ref_from (l : List S75) (name : ByteArray) (hl : l.length ≤ 100000000) (d : Nat) : ∀ (i : Nat) (acc : List ByteArray), i ≤ l.length → l.length - i = d → acc.length ≤ i →
  Ev (fun k => odometerref06_Values.l0 k l name acc (i : Int)) (acc ++ vals (l.drop i) name) := by
 induction d with
 | zero =>
  intro i acc hi hd ha
  obtain rfl : i = l.length := by omega
  refine Ev.step (f := fun _ => some acc) (fun k => ?_) ?_
  ·simp only [odometerref06_Values.l0]
   rw [if_neg (by omega)]
  ·rw [List.drop_length]
   simp only [vals, List.filter_nil, List.map_nil, List.append_nil]
   exact Ev.now _
 | succ d ih =>
  intro i acc hi hd ha
  have hlt : i < l.length := by omega
  have hdr : l.drop i = l[i]'hlt :: l.drop (i + 1) := List.drop_eq_getElem_cons hlt
  refine Ev.step (f := fun k => if (l[i]'hlt).f0 = name then odometerref06_Values.l0 k l name (acc ++ [(l[i]'hlt).f1]) ((i + 1 : Nat) : Int) else odometerref06_Values.l0 k l name acc ((i + 1 : Nat) : Int)) (fun k => ?_) ?_
  ·simp only [odometerref06_Values.l0]
   rw [if_pos (by omega), if_pos (by omega), rd75_at l i hlt, wrap_up hlt (by omega)]
   simp only [same_iff]
   rw [if_pos (show acc.length < 8796093022208 by omega)]
  ·rw [hdr]
   by_cases h : (l[i]'hlt).f0 = name
   ·simp only [if_pos h]
    have := ih (i + 1) (acc ++ [(l[i]'hlt).f1]) (by omega) (by omega) (by rw [List.length_append]; simp; omega)
    have e : acc ++ vals (l[i]'hlt :: l.drop (i + 1)) name = (acc ++ [(l[i]'hlt).f1]) ++ vals (l.drop (i + 1)) name := by
     unfold vals
     rw [List.filter_cons_of_pos (by simp [hasName, h])]
     simp
    rw [e]
    exact this
   ·simp only [if_neg h]
    have := ih (i + 1) acc (by omega) (by omega) (by omega)
    have e : vals (l[i]'hlt :: l.drop (i + 1)) name = vals (l.drop (i + 1)) name := by
     unfold vals
     rw [List.filter_cons_of_neg (by simp [hasName, h])]
    rw [e]
    exact this
theorem values_ref (l : List S75) (name : ByteArray) (hl : l.length ≤ 100000000) : Ev (fun k => odometerref06_Values.f k l name) (vals l name) := by
 have := values_ref_from l name hl l.length 0 [] (by omega) (by omega) (by simp)
 rw [List.drop_zero, List.nil_append] at this
 exact this

theorem num_snoc (l : List UInt8) (c : UInt8) : ∀ acc : Nat, num acc (l ++ [c]) = num acc l * 10 + (c.toNat - 48) := by
 induction l with
 | nil => intro acc; rfl
 | cons d r ih => intro acc; exact ih _
theorem num_take (l : List UInt8) (acc i : Nat) (h : i < l.length) : num acc (l.take (i + 1)) = num acc (l.take i) * 10 + ((l[i]'h).toNat - 48) := by
 rw [← List.take_append_getElem h, num_snoc]
theorem len_ref_digits (v0 : ByteArray) (t : List ByteArray) (h15 : v0.size ≤ 15) (d : Nat) : ∀ i : Nat, i ≤ v0.size → v0.size - i = d → ((L v0).take i).all isDg = true →
  Ev (fun k => odometerref06_Length.l1 k (v0 :: t) (num 0 ((L v0).take i) : Int) (i : Int)) (if (L v0).all isDg = true then ((num 0 (L v0) : Int), true) else (0, false)) := by
 have hr0 : rdOf ByteArray.empty (v0 :: t) 0 = v0 := rfl
 have hpos : (0 : Int) < ((v0 :: t).length : Int) := by simp
 induction d with
 | zero =>
  intro i hi hd hall
  obtain rfl : i = v0.size := by omega
  rw [List.take_of_length_le (by rw [L_length]; exact Nat.le_refl _)] at hall ⊢
  rw [if_pos hall]
  refine Ev.step (f := fun _ => some ((num 0 (L v0) : Int), true)) (fun k => ?_) (Ev.now _)
  simp only [odometerref06_Length.l1]
  rw [if_pos hpos, hr0, if_neg (by omega)]
 | succ d ih =>
  intro i hi hd hall
  have hlt : i < v0.size := by omega
  have hltL : i < (L v0).length := by rw [L_length]; exact hlt
  have hb : bt v0 (i : Int) = (((L v0)[i]'hltL).toNat : Int) := bt_L v0 i hlt
  have hbd : num 0 ((L v0).take i) < 10 ^ (0 + i) := num_le i _ 0 0 (by rw [List.length_take]; omega) hall (by decide)
  have hbd2 : 10 ^ (0 + i) ≤ 10 ^ 15 := Nat.pow_le_pow_right (by decide) (by omega)
  by_cases hdg : isDg ((L v0)[i]'hltL) = true
  ·have hdg2 : 48 ≤ ((L v0)[i]'hltL).toNat ∧ ((L v0)[i]'hltL).toNat ≤ 57 := of_decide_eq_true hdg
   have hall2 : ((L v0).take (i + 1)).all isDg = true := by
    rw [← List.take_append_getElem hltL, List.all_append, hall, List.all_cons, List.all_nil, hdg]
    rfl
   refine Ev.step (f := fun k => odometerref06_Length.l1 k (v0 :: t) (num 0 ((L v0).take (i + 1)) : Int) ((i + 1 : Nat) : Int)) (fun k => ?_) (ih (i + 1) (by omega) (by omega) hall2)
   simp only [odometerref06_Length.l1]
   rw [if_pos hpos, hr0, if_pos (by omega), if_pos (by omega), digit_f, hb]
   simp only [Option.bind_some]
   rw [if_pos (decide_eq_true (show dg _ from ⟨by omega, by omega⟩)), wrap_up hlt (by omega), num_take (L v0) 0 i hltL]
   congr 1
   rw [wrap_small (10 * _) (by omega) (by omega), wrap_small _ (by omega) (by omega)]
   omega
  ·have hnd : ¬ (L v0).all isDg = true := fun h => hdg (List.all_eq_true.1 h _ (List.getElem_mem hltL))
   rw [if_neg hnd]
   refine Ev.step (f := fun _ => some (0, false)) (fun k => ?_) (Ev.now _)
   simp only [odometerref06_Length.l1]
   rw [if_pos hpos, hr0, if_pos (by omega), if_pos (by omega), digit_f, hb]
   simp only [Option.bind_some]
   have hdd : ¬ dg (((L v0)[i]'hltL).toNat : Int) := fun h => hdg (by unfold isDg; unfold dg at h; rw [decide_eq_true]; omega)
   rw [if_neg (by rw [decide_eq_false hdd]; decide)]
theorem len_ref_from (v0 : ByteArray) (t : List ByteArray) (hv : (v0 :: t).length ≤ 100000000) (d : Nat) : ∀ i : Nat, i ≤ (v0 :: t).length → (v0 :: t).length - i = d → (∀ s ∈ (v0 :: t).take i, s = v0) →
  Ev (fun k => odometerref06_Length.l0 k (v0 :: t) 0 (i : Int)) (if (v0 :: t).all (elemOK v0) = true then ((num 0 (L v0) : Int), true) else (0, false)) := by
 have hr0 : rdOf ByteArray.empty (v0 :: t) 0 = v0 := rfl
 have hpos : (0 : Int) < ((v0 :: t).length : Int) := by simp
 induction d with
 | zero =>
  intro i hi hd hall
  obtain rfl : i = (v0 :: t).length := by omega
  rw [List.take_length] at hall
  have hE : (v0 :: t).all (elemOK v0) = (decide (1 ≤ v0.size) && (decide (v0.size ≤ 15) && (L v0).all isDg)) := by
   rw [Bool.eq_iff_iff, List.all_eq_true]
   constructor
   ·intro h
    have := h v0 (by simp)
    unfold elemOK at this
    rw [decide_eq_true rfl, Bool.true_and] at this
    exact this
   ·intro h s hs
    rw [hall s hs]
    unfold elemOK
    rw [decide_eq_true rfl, Bool.true_and]
    exact h
  rw [hE]
  by_cases h0 : v0.size = 0
  ·rw [decide_eq_false (by omega), Bool.false_and, if_neg (by decide)]
   refine Ev.step (f := fun k => odometerref06_Length.j1 k (v0 :: t) 0 true) (fun k => ?_) (Ev.step (f := fun _ => some (0, false)) (fun k => by simp only [odometerref06_Length.j1]; rw [if_pos trivial]) (Ev.now _))
   simp only [odometerref06_Length.l0]
   rw [if_neg (by omega), if_pos hpos, hr0, if_pos (by omega)]
  ·rw [decide_eq_true (show 1 ≤ v0.size by omega), Bool.true_and]
   refine Ev.step (f := fun k => odometerref06_Length.j1 k (v0 :: t) 0 (decide ((v0.size : Int) > 15))) (fun k => ?_) ?_
   ·simp only [odometerref06_Length.l0]
    rw [if_neg (by omega), if_pos hpos, hr0, if_neg (by omega)]
   ·by_cases h15 : v0.size ≤ 15
    ·rw [decide_eq_true h15, Bool.true_and, decide_eq_false (by omega)]
     have := len_ref_digits v0 t h15 _ 0 (by omega) rfl rfl
     exact Ev.step (f := fun k => odometerref06_Length.l1 k (v0 :: t) 0 0) (fun k => by simp only [odometerref06_Length.j1]; rw [if_neg (by decide)]) this
    ·rw [decide_eq_false h15, Bool.false_and, if_neg (by decide), decide_eq_true (by omega)]
     exact Ev.step (f := fun _ => some (0, false)) (fun k => by simp only [odometerref06_Length.j1]; rw [if_pos trivial]) (Ev.now _)
 | succ d ih =>
  intro i hi hd hall
  have hlt : i < (v0 :: t).length := by omega
  by_cases he : (v0 :: t)[i]'hlt = v0
  ·refine Ev.step (f := fun k => odometerref06_Length.l0 k (v0 :: t) 0 ((i + 1 : Nat) : Int)) (fun k => ?_) (ih (i + 1) (by omega) (by omega) fun s hs => ?_)
   ·simp only [odometerref06_Length.l0]
    rw [if_pos (by omega), if_pos (by omega), if_pos hpos, hr0, rdOf_at _ i hlt, if_pos ((same_iff _ _).2 he), wrap_up hlt (by omega)]
   ·rw [← List.take_append_getElem hlt, List.mem_append] at hs
    rcases hs with h | h
    ·exact hall s h
    ·rw [List.mem_singleton] at h; rw [h, he]
  ·have hne : ¬ (v0 :: t).all (elemOK v0) = true := fun h => he (by
    have := List.all_eq_true.1 h _ (List.getElem_mem hlt)
    unfold elemOK at this
    simp only [Bool.and_eq_true, decide_eq_true_eq] at this
    exact this.1)
   rw [if_neg hne]
   refine Ev.step (f := fun _ => some (0, false)) (fun k => ?_) (Ev.now _)
   simp only [odometerref06_Length.l0]
   rw [if_pos (by omega), if_pos (by omega), if_pos hpos, hr0, rdOf_at _ i hlt, if_neg (fun h => he ((same_iff _ _).1 h))]
theorem length_ref (v : List ByteArray) (hv : v.length ≤ 100000000) : Ev (fun k => odometerref06_Length.f k v) (lenS v) := by
 cases v with
 | nil => exact Ev.congr (f := fun _ => some _) (fun k => by unfold odometerref06_Length.f; rw [if_pos (by rfl)]; rfl) (Ev.now _)
 | cons v0 t =>
  have := len_ref_from v0 t hv _ 0 (by omega) rfl (by simp)
  refine Ev.congr (f := fun k => odometerref06_Length.l0 k (v0 :: t) 0 0) (fun k => ?_) this
  unfold odometerref06_Length.f
  rw [if_neg (by simp; omega)]
end Go.Proofs.YtfpcoanlkfgagaaDoor.Plain
namespace Go.Proofs.YtfpcoanlkfgagaaDoor.Plain
open Go.RowKit Go.Proofs.YtfpcoanlkfgagaaDoor.PA Go.Proofs.YtfpcoanlkfgagaaDoor.Ext Go.Proofs.YtfpcoanlkfgagaaDoorW.PrintWords
theorem first_piece (s : List UInt8) (f q : Nat) (hfq : f ≤ q) (hq : q < s.length) (hc : s[q]'hq = 44) (hn : ∀ x ∈ (s.drop f).take (q - f), x ≠ 44) : pieces (s.drop f) = (s.drop f).take (q - f) :: pieces (s.drop (q + 1)) := by
 have e : s.drop f = (s.drop f).take (q - f) ++ 44 :: s.drop (q + 1) := by
  have h1 : (s.drop f).drop (q - f) = s.drop q := by rw [List.drop_drop]; congr 1; omega
  have h2 : s.drop q = 44 :: s.drop (q + 1) := by rw [List.drop_eq_getElem_cons hq, hc]
  conv => lhs; rw [← List.take_append_drop (q - f) (s.drop f), h1, h2]
 conv => lhs; rw [e]
 exact pieces_at _ _ hn
theorem says_ref_inner (word : ByteArray) (vs : List ByteArray) (i : Nat) (hi : i < vs.length) (hz : (vs[i]'hi).size ≤ 100000000) (r : Bool) (hnext : Ev (fun k => odometerref06_Says.l0 k vs word (wrap64 ((i : Int) + 1))) r) (d : Nat) :
  ∀ f q : Nat, f ≤ q → q ≤ (vs[i]'hi).size → (vs[i]'hi).size - q = d → (∀ x ∈ ((L (vs[i]'hi)).drop f).take (q - f), x ≠ 44) →
  Ev (fun k => odometerref06_Says.l1 k vs word (i : Int) (f : Int) (q : Int)) ((pieces ((L (vs[i]'hi)).drop f)).any (hitL word) || r) := by
 obtain ⟨v, hv⟩ : ∃ v, v = vs[i]'hi := ⟨_, rfl⟩
 have hr0 : rdOf ByteArray.empty vs (i : Int) = v := by rw [rdOf_at vs i hi, hv]
 rw [← hv] at hz ⊢
 have hpiece : ∀ f q : Nat, f ≤ q → q ≤ v.size → (v.extract f q) = ⟨(((L v).drop f).take (q - f)).toArray⟩ := fun f q _ _ => L_inj (by rw [L_extract, L_mk])
 have hjump : ∀ (f q : Nat) (x : Bool), f ≤ q → q ≤ v.size → Ev (fun k => odometerref06_Says.l1 k vs word (i : Int) ((q + 1 : Nat) : Int) ((q + 1 : Nat) : Int)) x →
   Ev (fun k => odometerref06_Says.j2 k vs word (i : Int) (f : Int) (q : Int) true) (hitL word (((L v).drop f).take (q - f)) || x) := by
  intro f q x hf hq hx
  have hsz := size_extract_le v f q
  have htr := trim_ref (v.extract f q) (by omega)
  have hts := trimB_size (v.extract f q)
  refine Ev.step (f := fun k => (odometerref06_Trim.f k (v.extract f q)).bind fun t210 => ((odometerref06_Small.f t210).bind fun t211 => (if t211.toList = word.toList then (some true) else (odometerref06_Says.l1 k vs word (i : Int) ((q + 1 : Nat) : Int) ((q + 1 : Nat) : Int))))) (fun k => ?_) ?_
  ·simp only [odometerref06_Says.j2]
   rw [if_pos trivial, if_pos (by omega), if_pos (by omega), if_pos (by omega), if_pos (by omega), hr0, if_pos (by omega), Int.toNat_natCast, Int.toNat_natCast, wrap_small ((q : Int) + 1) (by omega) (by omega)]
   rfl
  ·refine Ev.bind htr ?_
   rw [small_ref _ (by omega)]
   simp only [Option.bind_some, same_iff]
   by_cases hw : smallS (trimB (v.extract f q)) = word
   ·have e : hitL word (((L v).drop f).take (q - f)) = true := by
     unfold hitL hit
     rw [← hpiece f q hf hq, decide_eq_true hw]
    simp only [hw, if_true]
    rw [e, Bool.true_or]
    exact Ev.now _
   ·have e : hitL word (((L v).drop f).take (q - f)) = false := by
     unfold hitL hit
     rw [← hpiece f q hf hq, decide_eq_false hw]
    simp only [hw, if_false]
    rw [e, Bool.false_or]
    exact hx
 have hover : Ev (fun k => odometerref06_Says.l1 k vs word (i : Int) ((v.size + 1 : Nat) : Int) ((v.size + 1 : Nat) : Int)) r := by
  refine Ev.step (f := fun k => odometerref06_Says.l0 k vs word (wrap64 ((i : Int) + 1))) (fun k => ?_) hnext
  simp only [odometerref06_Says.l1]
  rw [if_pos (by omega), if_pos (by omega), hr0, if_neg (by omega)]
 induction d with
 | zero =>
  intro f q hf hq hd hn
  obtain rfl : q = v.size := by omega
  have hp : pieces ((L v).drop f) = [((L v).drop f).take (v.size - f)] := by
   rw [List.take_of_length_le (by rw [List.length_drop, L_length]; exact Nat.le_refl _)] at hn ⊢
   exact pieces_none _ hn
  rw [hp]
  refine Ev.step (f := fun k => odometerref06_Says.j2 k vs word (i : Int) (f : Int) (v.size : Int) true) (fun k => ?_) (by simpa using hjump f v.size r hf (Nat.le_refl _) hover)
  simp only [odometerref06_Says.l1]
  rw [if_pos (by omega), if_pos (by omega), hr0, if_pos (by omega), if_pos rfl]
 | succ d ih =>
  intro f q hf hq hd hn
  have hlt : q < v.size := by omega
  have hltL : q < (L v).length := by rw [L_length]; exact hlt
  have hb : bt v (q : Int) = (((L v)[q]'hltL).toNat : Int) := bt_L v q hlt
  have hl1 : ∀ k, odometerref06_Says.l1 (k + 1) vs word (i : Int) (f : Int) (q : Int) = odometerref06_Says.j2 k vs word (i : Int) (f : Int) (q : Int) (bt v (q : Int) == 44) := fun k => by
   simp only [odometerref06_Says.l1]
   rw [if_pos (by omega), if_pos (by omega), hr0, if_pos (by omega), if_neg (by omega), if_pos (by omega), if_pos (by omega)]
  refine Ev.step (f := fun k => odometerref06_Says.j2 k vs word (i : Int) (f : Int) (q : Int) (bt v (q : Int) == 44)) hl1 ?_
  by_cases hc : (L v)[q]'hltL = 44
  ·have hbq : (bt v (q : Int) == 44) = true := by rw [hb, hc]; rfl
   rw [hbq, first_piece (L v) f q hf hltL hc hn, List.any_cons, Bool.or_assoc]
   refine hjump f q _ hf (by omega) ?_
   exact ih (q + 1) (q + 1) (Nat.le_refl _) (by omega) (by omega) (by simp)
  ·have hbq : (bt v (q : Int) == 44) = false := by
    rw [beq_eq_false_iff_ne, hb]
    exact fun h => hc ((byte_eq _ 44 (by decide)).1 h)
   rw [hbq]
   refine Ev.step (f := fun k => odometerref06_Says.l1 k vs word (i : Int) (f : Int) ((q + 1 : Nat) : Int)) (fun k => ?_) (ih f (q + 1) (by omega) (by omega) (by omega) fun x hx => ?_)
   ·simp only [odometerref06_Says.j2]
    rw [if_neg (by decide), wrap_small ((q : Int) + 1) (by omega) (by omega)]
    rfl
   ·have hqf : q - f < ((L v).drop f).length := by rw [List.length_drop]; omega
    rw [show q + 1 - f = (q - f) + 1 by omega, ← List.take_append_getElem hqf, List.mem_append] at hx
    rcases hx with h | h
    ·exact hn x h
    ·rw [List.mem_singleton, List.getElem_drop] at h
     rw [h]
     have : f + (q - f) = q := by omega
     simp only [this]
     exact hc
theorem says_ref_from (word : ByteArray) (vs : List ByteArray) (hv : vs.length ≤ 100000000) (hz : ∀ s ∈ vs, s.size ≤ 100000000) (d : Nat) : ∀ i : Nat, i ≤ vs.length → vs.length - i = d →
  Ev (fun k => odometerref06_Says.l0 k vs word (i : Int)) ((vs.drop i).any (saysOne word)) := by
 induction d with
 | zero =>
  intro i hi hd
  obtain rfl : i = vs.length := by omega
  rw [List.drop_length]
  refine Ev.step (f := fun _ => some false) (fun k => ?_) (Ev.now _)
  simp only [odometerref06_Says.l0]
  rw [if_neg (by omega)]
 | succ d ih =>
  intro i hi hd
  have hlt : i < vs.length := by omega
  have hdr : vs.drop i = vs[i]'hlt :: vs.drop (i + 1) := List.drop_eq_getElem_cons hlt
  have hn := ih (i + 1) (by omega) (by omega)
  rw [← wrap_up hlt (by omega)] at hn
  have hin := says_ref_inner word vs i hlt (hz _ (List.getElem_mem hlt)) _ hn _ 0 0 (Nat.le_refl _) (Nat.zero_le _) rfl (by simp)
  rw [List.drop_zero] at hin
  rw [hdr, List.any_cons]
  refine Ev.step (f := fun k => odometerref06_Says.l1 k vs word (i : Int) ((0 : Nat) : Int) ((0 : Nat) : Int)) (fun k => ?_) hin
  simp only [odometerref06_Says.l0]
  rw [if_pos (by omega)]
  rfl
theorem says_ref (vs : List ByteArray) (word : ByteArray) (hv : vs.length ≤ 100000000) (hz : ∀ s ∈ vs, s.size ≤ 100000000) : Ev (fun k => odometerref06_Says.f k vs word) (saysS vs word) := by
 have := says_ref_from word vs hv hz _ 0 (by omega) rfl
 rw [List.drop_zero] at this
 exact this
end Go.Proofs.YtfpcoanlkfgagaaDoor.Plain
namespace Go.Proofs.YtfpcoanlkfgagaaDoor.Plain
open Go.RowKit Go.Proofs.YtfpcoanlkfgagaaDoor.PA Go.Proofs.YtfpcoanlkfgagaaDoor.Ext Go.Proofs.YtfpcoanlkfgagaaDoorW.PrintWords
theorem old_ref (s : ByteArray) (h : statusB s = true) : (bt s 7 == 48) = oldB s := by
 have hr : restB s = true := by unfold statusB at h; rw [Bool.and_eq_true] at h; exact h.2
 have h13 : 13 ≤ s.size := by
  unfold restB at hr
  rw [Bool.and_eq_true] at hr
  exact (of_decide_eq_true hr.1).1
 have h7 : 7 < (L s).length := by rw [L_length]; omega
 have hb : bt s 7 = (((L s)[7]'h7).toNat : Int) := bt_L s 7 (by omega)
 have hx : ∀ p : List UInt8, (L s).take 9 = p → p[7]? = some ((L s)[7]'h7) := fun p hp => by
  rw [← hp, List.getElem?_take_of_lt (by decide), List.getElem?_eq_getElem h7]
 unfold statusB at h
 rw [Bool.and_eq_true, Bool.or_eq_true] at h
 rcases h.1 with ho | hn
 ·have := hx _ (of_decide_eq_true ho)
  rw [ho, hb, ← Option.some.inj this]; rfl
 ·have := hx _ (of_decide_eq_true hn)
  have ho : oldB s = false := by
   unfold oldB
   rw [decide_eq_false]
   intro h2
   have h3 := of_decide_eq_true hn
   rw [h2] at h3
   exact absurd h3 (by decide)
  rw [ho, hb, ← Option.some.inj this]; rfl
theorem stat_ref (s : ByteArray) (h : statusB s = true) : (13 ≤ s.size) ∧ ((100 * (((bt s 9) - 48) % 256)) + (10 * (((bt s 10) - 48) % 256))) + (((bt s 11) - 48) % 256) = stv s 3 := by
 have hr : restB s = true := by unfold statusB at h; rw [Bool.and_eq_true] at h; exact h.2
 unfold restB at hr
 rw [Bool.and_eq_true] at hr
 obtain ⟨h1, h2, h3, h4, h5⟩ := of_decide_eq_true hr.1
 refine ⟨h1, ?_⟩
 have e : stv s 3 = 10 * (10 * (10 * 0 + (bt s 9 - 48)) + (bt s 10 - 48)) + (bt s 11 - 48) := rfl
 rw [e]
 unfold dg at h3 h4 h5
 omega
theorem gt_dec (n : Nat) : decide ((n : Int) > 0) = decide (0 < n) := by rw [decide_eq_decide]; omega
theorem parse_j2 (s : ByteArray) (l : List S75) (m : Nat) (n : Int) (ch : Bool) (hs : statusB s = true) (hl : l.length ≤ 64) (hz : ∀ f ∈ l, f.f1.size ≤ 8192) :
  Ev (fun k => odometerref06_Parse.j2 k s l (m : Int) (oldB s) n ch false 0 0 false false) (stv s 3, n, ch, closeS l n ch (oldB s), (m : Int), 0) := by
 obtain ⟨h13, he⟩ := stat_ref s hs
 have hz2 : ∀ s ∈ vals l cconn, s.size ≤ 100000000 := fun s hs => Nat.le_trans (vals_size hz s hs) (by decide)
 have hv := vals_le l cconn
 refine Ev.step (f := fun k => (odometerref06_Values.f k l cconn).bind fun t231 => ((odometerref06_Says.f k t231 clos).bind fun t234 => (if t234 = true then (some (stv s 3, n, ch, true, (m : Int), 0)) else (if n < 0 then (if ch = true then (if oldB s = true then ((odometerref06_Says.f k t231 kali).bind fun t235 => (some (stv s 3, n, ch, !t235, (m : Int), 0))) else (some (stv s 3, n, ch, false, (m : Int), 0))) else (some (stv s 3, n, ch, true, (m : Int), 0))) else (if oldB s = true then ((odometerref06_Says.f k t231 kali).bind fun t236 => (some (stv s 3, n, ch, !t236, (m : Int), 0))) else (some (stv s 3, n, ch, false, (m : Int), 0))))))) (fun k => ?_) ?_
 ·simp only [odometerref06_Parse.j2]
  rw [if_neg (by decide), if_pos (show (9 : Int) < (s.size : Int) by omega), if_pos (show (10 : Int) < (s.size : Int) by omega), if_pos (show (11 : Int) < (s.size : Int) by omega), he]
 ·refine Ev.bind (values_ref l cconn (by omega)) (Ev.bind (says_ref _ clos (by omega) hz2) ?_)
  unfold closeS
  by_cases h1 : saysS (vals l cconn) clos = true
  ·simp only [h1, if_true, Bool.true_or]; exact Ev.now _
  ·simp only [Bool.eq_false_iff.2 h1, Bool.false_eq_true, if_false, Bool.false_or]
   by_cases hn : n < 0
   ·cases ch with
    | false =>
     simp only [hn, if_true, decide_true, Bool.not_false, Bool.and_self, Bool.true_or, Bool.false_eq_true, if_false]
     exact Ev.now _
    | true =>
     simp only [hn, if_true, decide_true, Bool.not_true, Bool.and_false, Bool.false_or]
     cases ho : oldB s with
     | false => simp only [Bool.false_eq_true, if_false, Bool.false_and]; exact Ev.now _
     | true => simp only [if_true, Bool.true_and]; exact Ev.bind (says_ref _ kali (by omega) hz2) (Ev.now _)
   ·simp only [hn, if_false, decide_false, Bool.false_and, Bool.false_or]
    cases ho : oldB s with
    | false => simp only [Bool.false_eq_true, if_false, Bool.false_and]; exact Ev.now _
    | true => simp only [if_true, Bool.true_and]; exact Ev.bind (says_ref _ kali (by omega) hz2) (Ev.now _)
theorem parse_j2t (s : ByteArray) (l : List S75) (m : Nat) (o ch : Bool) (n : Int) : Ev (fun k => odometerref06_Parse.j2 k s l (m : Int) o n ch true 0 0 false false) (wrongT 12) :=
 Ev.step (f := fun _ => some (wrongT 12)) (fun k => by simp only [odometerref06_Parse.j2]; rw [if_pos trivial]; rfl) (Ev.now _)
theorem parse_j1t (s : ByteArray) (l : List S75) (m : Nat) (o : Bool) (n : Int) (cd : List ByteArray) : Ev (fun k => odometerref06_Parse.j1 k s l (m : Int) o n cd true 0 0 false false) (wrongT 11) :=
 Ev.step (f := fun _ => some (wrongT 11)) (fun k => by simp only [odometerref06_Parse.j1]; rw [if_pos trivial]; rfl) (Ev.now _)
theorem parse_ref (b : List UInt8) (hb : b.length ≤ 100000000) : Ev (fun k => odometerref06_Parse.f k (numsL b)) (parseS (readS b)) := by
 unfold odometerref06_Parse.f
 refine Ev.bind (read_ref b hb) ?_
 cases hr : readS b with
 | mk e o =>
  cases o with
  | none =>
   simp only [readR, parseS]
   have hz : Ev (fun k => odometerref06_Parse.j0 k ⟨#[]⟩ [] 0 e true 0 0 false false) (wrongT e) :=
    Ev.step (f := fun _ => some (wrongT e)) (fun k => by simp only [odometerref06_Parse.j0]; rw [if_pos trivial]; rfl) (Ev.now _)
   have h0 : ((0 : Int) == 0) = true := rfl
   simp only [h0, ite_self]
   exact hz
  | some p =>
   obtain ⟨s, l, m⟩ := p
   have hw := readS_whole b e s l m hr
   obtain ⟨h13, he⟩ := stat_ref s hw.st
   have hlen := hw.few
   have hpos := hw.pos
   have hz3 : ∀ s ∈ vals l tenc, s.size ≤ 8192 := vals_size hw.small
   have hm0 : ((m : Int) == 0) = false := by rw [beq_eq_false_iff_ne]; omega
   simp only [readR, parseS, if_true, hm0]
   refine Ev.step (f := fun k => (odometerref06_Values.f k l clen).bind fun t220 => ((odometerref06_Length.f k t220).bind fun bt223 => ((odometerref06_Values.f k l tenc).bind fun t225 => (if bt223.2 = true then (if bt223.1 ≥ 0 then (odometerref06_Parse.j1 k s l (m : Int) (oldB s) bt223.1 t225 (decide (0 < t225.length)) 0 0 false false) else (odometerref06_Parse.j1 k s l (m : Int) (oldB s) bt223.1 t225 false 0 0 false false)) else (odometerref06_Parse.j1 k s l (m : Int) (oldB s) bt223.1 t225 true 0 0 false false))))) (fun k => ?_) ?_
   ·simp only [odometerref06_Parse.j0]
    rw [if_neg (by decide), if_pos (show (7 : Int) < (s.size : Int) by omega), old_ref s hw.st]
    simp only [gt_dec]
   ·have hv1 := vals_le l clen
    refine Ev.bind (values_ref l clen (by omega)) (Ev.bind (length_ref _ (by omega)) (Ev.bind (values_ref l tenc (by omega)) ?_))
    unfold parseW
    by_cases h1 : (lenS (vals l clen)).2 = true
    ·simp only [h1, if_true]
     have hj : ∀ n : Int, ¬ (n ≥ 0 ∧ 0 < (vals l tenc).length) → Ev (fun k => odometerref06_Parse.j1 k s l (m : Int) (oldB s) n (vals l tenc) false 0 0 false false) (if 1 < (vals l tenc).length then wrongT 12
       else if (vals l tenc).length = 1 then (if smallS (rdOf ByteArray.empty (vals l tenc) 0) = chunkd then (if oldB s = true then wrongT 12 else (stv s 3, n, true, closeS l n true (oldB s), (m : Int), 0)) else wrongT 12)
       else (stv s 3, n, false, closeS l n false (oldB s), (m : Int), 0)) := fun n hn => by
      by_cases h3 : 1 < (vals l tenc).length
      ·rw [if_pos h3]
       refine Ev.step (f := fun k => odometerref06_Parse.j2 k s l (m : Int) (oldB s) n (decide (((vals l tenc).length : Int) > 0)) true 0 0 false false) (fun k => ?_) (parse_j2t _ _ _ _ _ _)
       simp only [odometerref06_Parse.j1]
       rw [if_neg (by decide), if_pos (by omega), if_pos (by omega)]
      ·rw [if_neg h3]
       by_cases h4 : (vals l tenc).length = 1
       ·rw [if_pos h4]
        have hx : (rdOf ByteArray.empty (vals l tenc) 0).size ≤ 8192 := by
         have := rdOf_at (vals l tenc) 0 (by omega)
         rw [show ((0 : Nat) : Int) = 0 from rfl] at this
         rw [this]
         exact hz3 _ (List.getElem_mem _)
        have hd1 : decide (((vals l tenc).length : Int) > 0) = true := decide_eq_true (by omega)
        refine Ev.step (f := fun k => if smallS (rdOf ByteArray.empty (vals l tenc) 0) = chunkd then odometerref06_Parse.j2 k s l (m : Int) (oldB s) n true (oldB s) 0 0 false false else odometerref06_Parse.j2 k s l (m : Int) (oldB s) n true true 0 0 false false) (fun k => ?_) ?_
        ·simp only [odometerref06_Parse.j1]
         rw [if_neg (by decide), if_pos (by omega), if_neg (by omega), if_pos (by omega), small_ref _ (Nat.le_trans hx (by decide)), hd1]
         simp only [Option.bind_some, chunk_iff]
        ·by_cases h5 : smallS (rdOf ByteArray.empty (vals l tenc) 0) = chunkd
         ·simp only [if_pos h5]
          cases ho : oldB s with
          | true => simp only [if_true]; exact parse_j2t _ _ _ _ _ _
          | false =>
           simp only [Bool.false_eq_true, if_false]
           have := parse_j2 s l m n true hw.st hw.few hw.small
           rw [ho] at this
           exact this
         ·simp only [if_neg h5]
          exact parse_j2t _ _ _ _ _ _
       ·rw [if_neg h4]
        have hd0 : decide (((vals l tenc).length : Int) > 0) = false := decide_eq_false (by omega)
        refine Ev.step (f := fun k => odometerref06_Parse.j2 k s l (m : Int) (oldB s) n false false 0 0 false false) (fun k => ?_) (parse_j2 s l m n false hw.st hw.few hw.small)
        simp only [odometerref06_Parse.j1]
        rw [if_neg (by decide), if_neg (by omega), hd0]
     by_cases h2 : (lenS (vals l clen)).1 ≥ 0
     ·simp only [if_pos h2]
      by_cases h3 : 0 < (vals l tenc).length
      ·rw [decide_eq_true h3, if_pos ⟨h2, h3⟩]
       exact parse_j1t _ _ _ _ _ _
      ·rw [decide_eq_false h3, if_neg (fun h => h3 h.2)]
       exact hj _ (fun h => h3 h.2)
     ·simp only [if_neg h2]
      rw [if_neg (fun h => h2 h.1)]
      exact hj _ (fun h => h2 h.1)
    ·simp only [Bool.eq_false_iff.2 h1, Bool.false_eq_true, if_false]
     exact parse_j1t _ _ _ _ _ _
end Go.Proofs.YtfpcoanlkfgagaaDoor.Plain
