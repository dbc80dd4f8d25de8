/- Plain laws of the request seat: which bytes may stand in hosts and paths. -/
import Derived.Test.YthjpkmaeopdedaaDoorPRx3
import Derived.Test.YthjpkmaeopdedaaDoorPRx5
namespace Go.Proofs.YthjpkmaeopdedaaDoor.Plain
open Go.RowKit Go.Proofs.YthjpkmaeopdedaaDoor.PR Go.Proofs.YthjpkmaeopdedaaDoor.Ext Go.Proofs.YthjpkmaeopdedaaDoorW.PrintWords

abbrev L (s : ByteArray) : List UInt8 := s.data.toList
theorem L_length (s : ByteArray) : (L s).length = s.size := data_length s

theorem bt_L (s : ByteArray) (i : Nat) (h : i < s.size) : bt s (i : Int) = (((L s)[i]'(by rw [L_length]; exact h)).toNat : Int) := by
  unfold bt
  rw [dif_pos (by simpa using h)]
  rfl

/-- May a byte stand in a host? -/
def hostP (c : Int) : Prop := (97 ≤ c ∧ c ≤ 122) ∨ (65 ≤ c ∧ c ≤ 90) ∨ (48 ≤ c ∧ c ≤ 57) ∨ c = 45 ∨ c = 46 ∨ c = 58 ∨ c = 91 ∨ c = 93
instance (c : Int) : Decidable (hostP c) := by unfold hostP; infer_instance
def hostB (c : UInt8) : Bool := decide (hostP (c.toNat : Int))

theorem hostByte_nat : ∀ n : Fin 256, request_hostByte.f 3 ((n.val : Nat) : Int) = some (decide (hostP (n.val : Int))) := by decide +kernel
theorem hostByte_ev (c : Int) (h0 : 0 ≤ c) (h1 : c < 256) : Ev (fun k => request_hostByte.f k c) (decide (hostP c)) := by
  have h := hostByte_nat ⟨c.toNat, by omega⟩
  simp only [Int.toNat_of_nonneg h0] at h
  exact Ev.of (fun k => request_hostByte.mono c k) h

def mayHost (s : List UInt8) : Bool := s.all hostB && decide (1 ≤ s.length) && decide (s.length ≤ 255)

theorem wrap_up {i n : Nat} (h : i < n) (hn : n ≤ 140737488351232) : wrap64 ((i : Int) + 1) = ((i + 1 : Nat) : Int) := by
  unfold wrap64
  omega

theorem mayHost_prog_from (s : ByteArray) (hn : s.size ≤ 140737488351232) (d : Nat) : ∀ i : Nat, i ≤ s.size → s.size - i = d →
    Ev (fun k => request_MayHost.l0 k s (s.size : Int) (i : Int)) (((L s).drop i).all hostB && decide (1 ≤ s.size) && decide (s.size ≤ 255)) := by
  induction d with
  | zero =>
    intro i hi hd
    obtain rfl : i = s.size := by omega
    refine Ev.step (f := fun _ => some _) (fun k => ?_) (Ev.now _)
    simp only [request_MayHost.l0]
    rw [if_neg (by omega)]
    rw [List.drop_of_length_le (by rw [L_length]; exact Nat.le_refl _)]
    by_cases h : (s.size : Int) ≥ 1
    · have h1 : 1 ≤ s.size := by omega
      rw [if_pos h]
      have e : decide ((s.size : Int) ≤ 255) = decide (s.size ≤ 255) := by rw [decide_eq_decide]; omega
      simp [h1, e]
    · have h1 : ¬ 1 ≤ s.size := by omega
      rw [if_neg h]
      simp [h1]
  | succ d ih =>
    intro i hi hd
    have hlt : i < s.size := by omega
    have hb := bt_range s (i : Int)
    have hdrop : (L s).drop i = (L s)[i]'(by rw [L_length]; exact hlt) :: (L s).drop (i + 1) := List.drop_eq_getElem_cons (by rw [L_length]; exact hlt)
    refine Ev.step (f := fun k => (request_hostByte.f k (bt s i)).bind fun t => if t = true then request_MayHost.l0 k s (s.size : Int) ((i + 1 : Nat) : Int) else some false) (fun k => ?_) ?_
    · simp only [request_MayHost.l0]
      rw [if_pos (by omega), if_pos (by omega), if_pos (by omega), wrap_up hlt hn]
    · refine Ev.bind (hostByte_ev _ hb.1 (by omega)) ?_
      rw [bt_L s i hlt, hdrop, List.all_cons]
      by_cases h : hostP (((L s)[i]'(by rw [L_length]; exact hlt)).toNat : Int)
      · simp only [hostB, h, decide_true, if_true, Bool.true_and]
        exact ih (i + 1) (by omega) (by omega)
      · simp only [hostB, h, decide_false, Bool.false_and]
        exact Ev.now _

theorem mayHost_prog (s : ByteArray) (hn : s.size ≤ 140737488351232) : Ev (fun k => request_MayHost.f k s) (mayHost (L s)) := by
  have h := mayHost_prog_from s hn s.size 0 (Nat.zero_le _) (by omega)
  rw [List.drop_zero] at h
  unfold mayHost
  rw [L_length]
  exact h

set_option maxHeartbeats 4000000 in
theorem mayHost_ref_round (k : Nat) (s : ByteArray) (i : Int) (h0 : 0 ≤ i) (hlt : i < (s.size : Int)) :
    odometerref05_MayHost.l0 (k + 1) s i = if hostP (bt s i) then odometerref05_MayHost.l0 k s (wrap64 (i + 1)) else some false := by
  simp only [odometerref05_MayHost.l0]
  rw [if_pos hlt, if_pos h0]
  generalize bt s i = c
  generalize odometerref05_MayHost.l0 k s (wrap64 (i + 1)) = X
  by_cases h : hostP c
  · rw [if_pos h]
    unfold hostP at h
    rcases h with h | h | h | h | h | h | h | h <;> simp (disch := omega) only [if_pos, if_neg]
  · rw [if_neg h]
    unfold hostP at h
    by_cases h1 : c ≥ 97
    · simp (disch := omega) only [if_pos, if_neg]
    · by_cases h2 : c ≥ 65
      · simp (disch := omega) only [if_pos, if_neg]
      · by_cases h3 : c ≥ 48 <;> simp (disch := omega) only [if_pos, if_neg]

theorem mayHost_ref_from (s : ByteArray) (hn : s.size ≤ 140737488351232) (d : Nat) : ∀ i : Nat, i ≤ s.size → s.size - i = d →
    Ev (fun k => odometerref05_MayHost.l0 k s (i : Int)) (((L s).drop i).all hostB && decide (1 ≤ s.size) && decide (s.size ≤ 255)) := by
  induction d with
  | zero =>
    intro i hi hd
    obtain rfl : i = s.size := by omega
    refine Ev.step (f := fun _ => some _) (fun k => ?_) (Ev.now _)
    simp only [odometerref05_MayHost.l0]
    rw [if_neg (by omega)]
    rw [List.drop_of_length_le (by rw [L_length]; exact Nat.le_refl _)]
    by_cases h : (s.size : Int) > 0
    · have h1 : 1 ≤ s.size := by omega
      rw [if_pos h]
      have e : decide ((s.size : Int) < 256) = decide (s.size ≤ 255) := by rw [decide_eq_decide]; omega
      simp [h1, e]
    · have h1 : ¬ 1 ≤ s.size := by omega
      rw [if_neg h]
      simp [h1]
  | succ d ih =>
    intro i hi hd
    have hlt : i < s.size := by omega
    have hdrop : (L s).drop i = (L s)[i]'(by rw [L_length]; exact hlt) :: (L s).drop (i + 1) := List.drop_eq_getElem_cons (by rw [L_length]; exact hlt)
    refine Ev.step (f := fun k => if hostP (bt s i) then odometerref05_MayHost.l0 k s ((i + 1 : Nat) : Int) else some false) (fun k => ?_) ?_
    · rw [mayHost_ref_round k s i (by omega) (by omega), wrap_up hlt hn]
    · rw [bt_L s i hlt, hdrop, List.all_cons]
      by_cases h : hostP (((L s)[i]'(by rw [L_length]; exact hlt)).toNat : Int)
      · simp only [hostB, h, decide_true, if_true, Bool.true_and]
        exact ih (i + 1) (by omega) (by omega)
      · simp only [hostB, h, decide_false, Bool.false_and, if_false]
        exact Ev.now _

theorem mayHost_ref (s : ByteArray) (hn : s.size ≤ 140737488351232) : Ev (fun k => odometerref05_MayHost.f k s) (mayHost (L s)) := by
  have h := mayHost_ref_from s hn s.size 0 (Nat.zero_le _) (by omega)
  rw [List.drop_zero] at h
  unfold mayHost
  rw [L_length]
  exact h

/-! ### paths -/
def pathP (c : Int) : Prop := 33 ≤ c ∧ c ≤ 126 ∧ c ≠ 35
instance (c : Int) : Decidable (pathP c) := by unfold pathP; infer_instance
def pathB (c : UInt8) : Bool := decide (pathP (c.toNat : Int))
def mayPath (s : List UInt8) : Bool := s.all pathB && decide (s.head? = some 47) && decide (s.length ≤ 1024)

theorem hasPrefix_slash (s : ByteArray) : strings_HasPrefix.f s (⟨#[47]⟩ : ByteArray) = some (decide ((L s).head? = some 47)) := by
  unfold strings_HasPrefix.f stringslite_HasPrefix.f
  have h1 : ((⟨#[47]⟩ : ByteArray).size : Int) = 1 := rfl
  rw [h1]
  by_cases h : (s.size : Int) ≥ 1
  · rw [if_pos h, if_pos (by omega), if_pos (by omega)]
    simp only [Option.bind_some, Option.some.injEq]
    have hs : 0 < (L s).length := by rw [L_length]; omega
    have e1 : (s.extract 0 (Int.toNat 1)).toList = [(L s)[0]] := by
      rw [ByteArray.toList_eq, ByteArray.data_extract, Array.toList_extract]
      simp only [Int.reduceToNat, List.extract_eq_take_drop, List.drop_zero, Nat.sub_zero]
      rw [List.take_one]
      simp [List.head?_eq_getElem?, List.getElem?_eq_getElem hs]
    rw [e1]
    have e2 : (⟨#[47]⟩ : ByteArray).toList = [47] := by rw [ByteArray.toList_eq]
    rw [e2, List.head?_eq_getElem?, List.getElem?_eq_getElem hs]
    simp [Bool.beq_eq_decide_eq]
  · rw [if_neg h]
    have : (L s) = [] := List.length_eq_zero_iff.1 (by rw [L_length]; omega)
    simp [this]

theorem mayPath_prog_from (s : ByteArray) (hn : s.size ≤ 140737488351232) (d : Nat) : ∀ i : Nat, i ≤ s.size → s.size - i = d →
    Ev (fun k => request_MayPath.l0 k s (s.size : Int) (i : Int)) (((L s).drop i).all pathB && decide ((L s).head? = some 47) && decide (s.size ≤ 1024)) := by
  induction d with
  | zero =>
    intro i hi hd
    obtain rfl : i = s.size := by omega
    refine Ev.step (f := fun _ => some _) (fun k => ?_) (Ev.now _)
    simp only [request_MayPath.l0]
    rw [if_neg (by omega), hasPrefix_slash]
    rw [List.drop_of_length_le (by rw [L_length]; exact Nat.le_refl _)]
    have e : decide ((s.size : Int) ≤ 1024) = decide (s.size ≤ 1024) := by rw [decide_eq_decide]; omega
    by_cases h : (L s).head? = some 47
    · simp [h, e]
    · simp [h]
  | succ d ih =>
    intro i hi hd
    have hlt : i < s.size := by omega
    have hdrop : (L s).drop i = (L s)[i]'(by rw [L_length]; exact hlt) :: (L s).drop (i + 1) := List.drop_eq_getElem_cons (by rw [L_length]; exact hlt)
    refine Ev.step (f := fun k => if pathP (bt s i) then request_MayPath.l0 k s (s.size : Int) ((i + 1 : Nat) : Int) else some false) (fun k => ?_) ?_
    · simp only [request_MayPath.l0]
      rw [if_pos (by omega), if_pos (by omega), if_pos (by omega), wrap_up hlt hn]
      by_cases h : pathP (bt s i)
      · rw [if_pos h]
        unfold pathP at h
        simp (disch := omega) only [if_neg]
      · rw [if_neg h]
        unfold pathP at h
        by_cases h1 : bt s i < 33
        · rw [if_pos h1]
        · by_cases h2 : bt s i > 126
          · rw [if_neg h1, if_pos h2]
          · rw [if_neg h1, if_neg h2, if_pos (by omega)]
    · rw [bt_L s i hlt, hdrop, List.all_cons]
      by_cases h : pathP (((L s)[i]'(by rw [L_length]; exact hlt)).toNat : Int)
      · simp only [pathB, h, decide_true, if_true, Bool.true_and]
        exact ih (i + 1) (by omega) (by omega)
      · simp only [pathB, h, decide_false, Bool.false_and, if_false]
        exact Ev.now _

theorem mayPath_prog (s : ByteArray) (hn : s.size ≤ 140737488351232) : Ev (fun k => request_MayPath.f k s) (mayPath (L s)) := by
  have h := mayPath_prog_from s hn s.size 0 (Nat.zero_le _) (by omega)
  rw [List.drop_zero] at h
  unfold mayPath
  rw [L_length]
  exact h

theorem mayPath_ref_from (s : ByteArray) (hn : s.size ≤ 140737488351232) (d : Nat) : ∀ i : Nat, i ≤ s.size → s.size - i = d →
    Ev (fun k => odometerref05_MayPath.l0 k s (i : Int)) (((L s).drop i).all pathB) := by
  induction d with
  | zero =>
    intro i hi hd
    obtain rfl : i = s.size := by omega
    refine Ev.step (f := fun _ => some _) (fun k => ?_) (Ev.now _)
    simp only [odometerref05_MayPath.l0]
    rw [if_neg (by omega)]
    rw [List.drop_of_length_le (by rw [L_length]; exact Nat.le_refl _)]
    rfl
  | succ d ih =>
    intro i hi hd
    have hlt : i < s.size := by omega
    have hdrop : (L s).drop i = (L s)[i]'(by rw [L_length]; exact hlt) :: (L s).drop (i + 1) := List.drop_eq_getElem_cons (by rw [L_length]; exact hlt)
    refine Ev.step (f := fun k => if pathP (bt s i) then odometerref05_MayPath.l0 k s ((i + 1 : Nat) : Int) else some false) (fun k => ?_) ?_
    · simp only [odometerref05_MayPath.l0]
      rw [if_pos (by omega), if_pos (by omega), wrap_up hlt hn]
      by_cases h : pathP (bt s i)
      · rw [if_pos h]
        unfold pathP at h
        simp (disch := omega) only [if_neg]
      · rw [if_neg h]
        unfold pathP at h
        by_cases h1 : bt s i ≤ 32
        · rw [if_pos h1]
        · by_cases h2 : bt s i > 126
          · rw [if_neg h1, if_pos h2]
          · rw [if_neg h1, if_neg h2, if_pos (by omega)]
    · rw [bt_L s i hlt, hdrop, List.all_cons]
      by_cases h : pathP (((L s)[i]'(by rw [L_length]; exact hlt)).toNat : Int)
      · simp only [pathB, h, decide_true, if_true, Bool.true_and]
        exact ih (i + 1) (by omega) (by omega)
      · simp only [pathB, h, decide_false, Bool.false_and, if_false]
        exact Ev.now _

theorem mayPath_ref (s : ByteArray) (hn : s.size ≤ 140737488351232) : Ev (fun k => odometerref05_MayPath.f k s) (mayPath (L s)) := by
  have no : ∀ b : Bool, b = false → mayPath (L s) = b → Ev (fun k => odometerref05_MayPath.j0 k s true) (mayPath (L s)) := by
    intro b hb he
    rw [he, hb]
    exact Ev.step (f := fun _ => some false) (fun k => by simp [odometerref05_MayPath.j0]) (Ev.now _)
  unfold odometerref05_MayPath.f
  by_cases h0 : (s.size : Int) = 0
  · simp only [if_pos h0]
    have : (L s) = [] := List.length_eq_zero_iff.1 (by rw [L_length]; omega)
    exact no false rfl (by simp [mayPath, this])
  · simp only [if_neg h0]
    by_cases h1 : (s.size : Int) > 1024
    · simp only [if_pos h1]
      exact no false rfl (by have := L_length s; simp [mayPath]; intros; omega)
    · have hp : 0 < (s.size : Int) := by omega
      simp only [if_neg h1, if_pos hp]
      have hl : 0 < s.size := by omega
      have hb : bt s 0 = (((L s)[0]'(by rw [L_length]; exact hl)).toNat : Int) := bt_L s 0 hl
      have hh : (L s).head? = some ((L s)[0]'(by rw [L_length]; exact hl)) := by rw [List.head?_eq_getElem?, List.getElem?_eq_getElem]
      by_cases h2 : (L s)[0]'(by rw [L_length]; exact hl) = 47
      · have e : (bt s 0 != 47) = false := by
          rw [hb, h2]; rfl
        rw [e]
        refine Ev.step (f := fun k => odometerref05_MayPath.l0 k s ((0 : Nat) : Int)) (fun k => by simp [odometerref05_MayPath.j0]) ?_
        have h := mayPath_ref_from s hn s.size 0 (Nat.zero_le _) (by omega)
        rw [List.drop_zero] at h
        have e2 : mayPath (L s) = (L s).all pathB := by
          unfold mayPath
          rw [hh, h2, L_length]
          have : s.size ≤ 1024 := by omega
          simp [this]
        rw [e2]
        exact h
      · have e : (bt s 0 != 47) = true := by
          rw [hb, bne_iff_ne]
          intro hc
          have e47 : (47 : UInt8).toNat = 47 := rfl
          exact h2 (UInt8.toNat_inj.1 (by rw [e47]; omega))
        rw [e]
        have e3 : decide (some ((L s)[0]'(by rw [L_length]; exact hl)) = some (47 : UInt8)) = false := by
          rw [decide_eq_false_iff_not]
          intro hc
          exact h2 (Option.some.inj hc)
        exact no false rfl (by unfold mayPath; rw [hh, e3]; simp)
end Go.Proofs.YthjpkmaeopdedaaDoor.Plain
