/- Totals in plain words. -/
import Derived.Test.YtpihpkphhkcdlaaGreatDoorAd
namespace Go.Proofs.YtpihpkphhkcdlaaGreatDoor.Pl
open Go.RowKit Go.Proofs.YtpihpkphhkcdlaaGreatDoor.Pd Go.Proofs.YtpihpkphhkcdlaaGreatDoor.Sk Go.Proofs.YtpihpkphhkcdlaaGreatDoor.Ad
set_option linter.unusedVariables false
set_option linter.unusedSimpArgs false
abbrev MX : Int := 9223372036854775807
/-- A sum that saturates, and whether anything was over. -/
def sat (S : Int) (f : Bool) : Int × Bool := (if MX < S then MX else S, f || decide (MX < S))
def incR (name : ByteArray) (r : Rec) : Int := if r.name = name then r.inc else 0
def ovR (name : ByteArray) (r : Rec) : Bool := decide (r.name = name) && r.over
theorem totR_sat (name : ByteArray) (S : Int) (f : Bool) (r : Rec) (hS : 0 ≤ S) (hr : 0 ≤ r.inc ∧ r.inc ≤ MX) : totR name (sat S f) r = sat (S + incR name r) (f || ovR name r) := by
  unfold totR incR ovR
  by_cases h : r.name = name
  · simp only [h, if_true, decide_true, Bool.true_and]
    unfold sat addP
    by_cases h1 : MX < S
    · have h2 : MX < S + r.inc := by omega
      simp only [h1, h2, if_true, decide_true, Bool.or_true, Bool.true_or]
      split
      · rfl
      · rename_i hz
        have h0 : r.inc = 0 := by
          have h5 : ¬ ((9223372036854775807 : Int) < 9223372036854775807 + r.inc) := hz
          omega
        rw [h0]
        rfl
    · simp only [h1, if_false, decide_false, Bool.or_false]
      by_cases h2 : MX < S + r.inc
      · simp only [h2, if_true, decide_true, Bool.or_true, Bool.true_or]
      · simp only [h2, if_false, decide_false, Bool.or_false]
  · simp only [h, if_false, decide_false, Bool.false_and, Bool.or_false, Int.add_zero]
def sumR (name : ByteArray) (rs : List Rec) : Int := (rs.map (incR name)).sum
def anyR (name : ByteArray) (rs : List Rec) : Bool := rs.any (ovR name)
theorem incR_nn (name : ByteArray) (r : Rec) (h : 0 ≤ r.inc) : 0 ≤ incR name r := by unfold incR; split <;> omega
theorem foldR_sat (name : ByteArray) : ∀ (rs : List Rec) (S : Int) (f : Bool), 0 ≤ S → (∀ r ∈ rs, 0 ≤ r.inc ∧ r.inc ≤ MX) → rs.foldl (totR name) (sat S f) = sat (S + sumR name rs) (f || anyR name rs) ∧ 0 ≤ S + sumR name rs
  | [], S, f, hS, _ => by simp [sumR, anyR]; exact hS
  | r :: rs, S, f, hS, h => by
    have h1 := h r (by simp)
    have h2 := incR_nn name r h1.1
    rw [List.foldl_cons, totR_sat name S f r hS h1]
    have h3 := foldR_sat name rs (S + incR name r) (f || ovR name r) (by omega) (fun q hq => h q (by simp [hq]))
    have e1 : sumR name (r :: rs) = incR name r + sumR name rs := by simp [sumR]
    have e2 : anyR name (r :: rs) = (ovR name r || anyR name rs) := by simp [anyR]
    rw [h3.1, e1, e2, Bool.or_assoc]
    exact ⟨by rw [Int.add_assoc], by have := h3.2; omega⟩
def sumW (k : K) (name : ByteArray) (fr tt : Int) (q : Int) : Int := if q < fr ∨ tt < q then 0 else sumR name (ofWin k q)
def anyW (k : K) (name : ByteArray) (fr tt : Int) (q : Int) : Bool := if q < fr ∨ tt < q then false else anyR name (ofWin k q)
def sumP (k : K) (name : ByteArray) (fr tt : Int) (ws : List Int) : Int := (ws.map (sumW k name fr tt)).sum
def anyP (k : K) (name : ByteArray) (fr tt : Int) (ws : List Int) : Bool := ws.any (anyW k name fr tt)
theorem ofWin_incs {k : K} (hI : Incs k) (q : Int) : ∀ r ∈ ofWin k q, 0 ≤ r.inc ∧ r.inc ≤ MX := by
  intro r hr
  unfold ofWin at hr
  split at hr
  · rename_i e he
    exact hI e (List.mem_of_find?_eq_some he) r hr
  · simp at hr
theorem foldW_sat (k : K) (hI : Incs k) (name : ByteArray) (fr tt : Int) : ∀ (ws : List Int) (S : Int) (f : Bool), 0 ≤ S → ws.foldl (totW k name fr tt) (sat S f) = sat (S + sumP k name fr tt ws) (f || anyP k name fr tt ws) ∧ 0 ≤ S + sumP k name fr tt ws
  | [], S, f, hS => by simp [sumP, anyP]; exact hS
  | q :: ws, S, f, hS => by
    have e1 : sumP k name fr tt (q :: ws) = sumW k name fr tt q + sumP k name fr tt ws := by simp [sumP]
    have e2 : anyP k name fr tt (q :: ws) = (anyW k name fr tt q || anyP k name fr tt ws) := by simp [anyP]
    have h0 : totW k name fr tt (sat S f) q = sat (S + sumW k name fr tt q) (f || anyW k name fr tt q) ∧ 0 ≤ S + sumW k name fr tt q := by
      unfold totW sumW anyW
      split
      · simp; exact hS
      · exact foldR_sat name _ S f hS (ofWin_incs hI q)
    rw [List.foldl_cons, h0.1]
    have h3 := foldW_sat k hI name fr tt ws (S + sumW k name fr tt q) (f || anyW k name fr tt q) h0.2
    rw [h3.1, e1, e2, Bool.or_assoc]
    exact ⟨by rw [Int.add_assoc], by have := h3.2; omega⟩
theorem totP_sat (k : K) (hI : Incs k) (name : ByteArray) (fr tt : Int) (ws : List Int) : totP k name fr tt ws = sat (sumP k name fr tt ws) (anyP k name fr tt ws) ∧ 0 ≤ sumP k name fr tt ws := by
  have h := foldW_sat k hI name fr tt ws 0 false (by decide)
  rw [Int.zero_add, Bool.false_or] at h
  exact h
theorem sum_perm {l l' : List Int} (h : l.Perm l') : l.sum = l'.sum := by
  induction h with
  | nil => rfl
  | cons x _ ih => simp [ih]
  | swap x y l => simp; omega
  | trans _ _ a b => exact a.trans b
theorem any_perm {l l' : List Int} (p : Int → Bool) (h : l.Perm l') : l.any p = l'.any p := by
  rw [Bool.eq_iff_iff, List.any_eq_true, List.any_eq_true]
  exact ⟨fun ⟨x, hx, hp⟩ => ⟨x, h.mem_iff.1 hx, hp⟩, fun ⟨x, hx, hp⟩ => ⟨x, h.mem_iff.2 hx, hp⟩⟩
theorem sumP_perm (k : K) (name : ByteArray) (fr tt : Int) {ws ws' : List Int} (h : ws.Perm ws') : sumP k name fr tt ws = sumP k name fr tt ws' := sum_perm (h.map _)
theorem anyP_perm (k : K) (name : ByteArray) (fr tt : Int) {ws ws' : List Int} (h : ws.Perm ws') : anyP k name fr tt ws = anyP k name fr tt ws' := any_perm _ h
theorem sumP_split (k : K) (name : ByteArray) (fr mid tt : Int) (h1 : fr ≤ mid) (h2 : mid < tt) : ∀ ws : List Int, sumP k name fr mid ws + sumP k name (mid + 1) tt ws = sumP k name fr tt ws
  | [] => rfl
  | q :: ws => by
    have ih := sumP_split k name fr mid tt h1 h2 ws
    have e : ∀ a b, sumP k name a b (q :: ws) = sumW k name a b q + sumP k name a b ws := fun a b => by simp [sumP]
    rw [e, e, e, ← ih]
    have e2 : sumW k name fr mid q + sumW k name (mid + 1) tt q = sumW k name fr tt q := by
      unfold sumW
      by_cases c1 : q < fr
      · rw [if_pos (.inl c1), if_pos (.inl (by omega)), if_pos (.inl c1)]; rfl
      · by_cases c2 : tt < q
        · rw [if_pos (.inr (by omega)), if_pos (.inr c2), if_pos (.inr c2)]; rfl
        · by_cases c3 : mid < q
          · rw [if_pos (.inr c3), if_neg (by omega), if_neg (by omega)]; omega
          · rw [if_neg (by omega), if_pos (.inl (by omega)), if_neg (by omega)]; omega
    omega
theorem anyP_split (k : K) (name : ByteArray) (fr mid tt : Int) (h1 : fr ≤ mid) (h2 : mid < tt) : ∀ ws : List Int, (anyP k name fr mid ws || anyP k name (mid + 1) tt ws) = anyP k name fr tt ws
  | [] => rfl
  | q :: ws => by
    have ih := anyP_split k name fr mid tt h1 h2 ws
    have e : ∀ a b, anyP k name a b (q :: ws) = (anyW k name a b q || anyP k name a b ws) := fun a b => by simp [anyP]
    have e2 : (anyW k name fr mid q || anyW k name (mid + 1) tt q) = anyW k name fr tt q := by
      unfold anyW
      by_cases c1 : q < fr
      · rw [if_pos (.inl c1), if_pos (.inl (by omega)), if_pos (.inl c1)]; rfl
      · by_cases c2 : tt < q
        · rw [if_pos (.inr (by omega)), if_pos (.inr c2), if_pos (.inr c2)]; rfl
        · by_cases c3 : mid < q
          · rw [if_pos (.inr c3), if_neg (by omega), if_neg (by omega)]; simp
          · rw [if_neg (by omega), if_pos (.inl (by omega)), if_neg (by omega)]; simp
    rw [e, e, e, ← ih, ← e2]
    cases anyW k name fr mid q <;> cases anyW k name (mid + 1) tt q <;> cases anyP k name fr mid ws <;> cases anyP k name (mid + 1) tt ws <;> rfl
theorem wrap_lt (x : Int) (h0 : 0 ≤ x) (h1 : x ≤ 18446744073709551614) : wrap64 x = if 9223372036854775807 < x then x - 18446744073709551616 else x := by
  unfold wrap64
  split <;> omega
/-- Totals of ranges that follow one another. -/
theorem ranges (S1 S2 : Int) (f1 f2 : Bool) (h1 : 0 ≤ S1) (h2 : 0 ≤ S2) :
    if ((sat S1 f1).2 || (sat S2 f2).2 || (sat (S1 + S2) (f1 || f2)).2) = true then (decide (wrap64 ((sat S1 f1).1 + (sat S2 f2).1) < 0) || (sat S1 f1).2 || (sat S2 f2).2) = (sat (S1 + S2) (f1 || f2)).2 else wrap64 ((sat S1 f1).1 + (sat S2 f2).1) = (sat (S1 + S2) (f1 || f2)).1 := by
  unfold sat
  dsimp only
  by_cases c1 : (9223372036854775807 : Int) < S1
  · have c3 : (9223372036854775807 : Int) < S1 + S2 := by omega
    simp [c1, c3]
  · by_cases c2 : (9223372036854775807 : Int) < S2
    · have c3 : (9223372036854775807 : Int) < S1 + S2 := by omega
      simp [c2, c3]
    · have hw := wrap_lt (S1 + S2) (by omega) (by omega)
      by_cases c3 : (9223372036854775807 : Int) < S1 + S2
      · have hn : S1 + S2 - 18446744073709551616 < 0 := by omega
        rw [if_pos c3] at hw
        simp [c1, c2, c3, hw, hn]
      · have hn : ¬ (S1 + S2 < 0) := by omega
        rw [if_neg c3] at hw
        cases f1 <;> cases f2 <;> simp [c1, c2, c3, hw, hn]
end Go.Proofs.YtpihpkphhkcdlaaGreatDoor.Pl
namespace Go.Proofs.YtpihpkphhkcdlaaGreatDoor.Ic
open Go.RowKit Go.Proofs.YtpihpkphhkcdlaaGreatDoor.Pd Go.Proofs.YtpihpkphhkcdlaaGreatDoor.Sk Go.Proofs.YtpihpkphhkcdlaaGreatDoor.Lk Go.Proofs.YtpihpkphhkcdlaaGreatDoor.Ad Go.Proofs.YtpihpkphhkcdlaaGreatDoor.Pl
set_option linter.unusedVariables false
theorem mayR_inc (win : Int) : ∀ (p : Option ByteArray) (rs : List Rec), mayR win p rs = true → ∀ r ∈ rs, 0 ≤ r.inc
  | _, [], _ => by simp
  | p, r :: t, h => by
    rw [May.mayR_cons] at h
    simp only [Bool.and_eq_true, decide_eq_true_eq] at h
    intro q hq
    rcases List.mem_cons.1 hq with rfl | hq
    · exact h.1.1.1.2
    · exact mayR_inc win _ t h.2 q hq
theorem wrap_le (x : Int) : wrap64 x ≤ 9223372036854775807 := by unfold wrap64; omega
theorem recP_le (s : S) : (recP s).1.inc ≤ 9223372036854775807 := wrap_le _
theorem recsP_le : ∀ (k : Nat) (s : S), ∀ r ∈ (recsP k s).1, r.inc ≤ 9223372036854775807
  | 0, s => by simp [recsP]
  | k + 1, s => by
    unfold recsP
    split
    · simp
    · intro r hr
      rcases List.mem_cons.1 hr with rfl | hr
      · exact recP_le s
      · exact recsP_le k _ r hr
theorem decP_incs (b : List UInt8) (h : (decP b).2 = 0) : ∀ r ∈ (decP b).1.recs, 0 ≤ r.inc ∧ r.inc ≤ MX := by
  unfold decP at h ⊢
  split at h
  · simp at h
  · rename_i c1
    rw [if_neg c1]
    split at h
    · simp at h
    · rename_i c2
      rw [if_neg c2]
      split at h
      · simp at h
      · rename_i c3
        rw [if_neg c3]
        dsimp only at h ⊢
        split at h
        · simp at h
        · rename_i c4
          rw [if_neg c4]
          split at h
          · simp at h
          · rename_i c5
            rw [if_neg c5]
            intro r hr
            have hm : mayP (frmP ((b.take (b.length - 4)).drop 4)).1 = true := by
              cases hq : mayP (frmP ((b.take (b.length - 4)).drop 4)).1 with
              | true => rfl
              | false => exact absurd (.inr hq) c5
            unfold mayP at hm
            simp only [Bool.and_eq_true] at hm
            exact ⟨mayR_inc _ _ _ hm.2 r hr, recsP_le _ _ r hr⟩
theorem tookP_incs (k : K) (bs : List UInt8) (h : Incs k) : Incs (tookP k bs).2 := by
  unfold tookP
  split
  · exact h
  · rename_i h0
    split
    · exact h
    · split
      · exact h
      · split
        · exact h
        · intro e he r hr
          rcases List.mem_cons.1 he with rfl | he
          · exact decP_incs bs (by simpa using h0) r hr
          · exact h e he r hr
theorem tookP_len (k : K) (bs : List UInt8) : (tookP k bs).2.length ≤ k.length + 1 := by
  unfold tookP
  split
  · simp
  · split
    · simp
    · split
      · simp
      · split <;> simp
end Go.Proofs.YtpihpkphhkcdlaaGreatDoor.Ic
