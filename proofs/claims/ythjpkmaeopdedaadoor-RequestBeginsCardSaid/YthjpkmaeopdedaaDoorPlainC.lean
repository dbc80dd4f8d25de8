/- Plain laws of the request seat: the reference reads the request that stands ahead of bytes, and there is at most one. -/
import Derived.Test.YthjpkmaeopdedaaDoorPlainB
namespace Go.Proofs.YthjpkmaeopdedaaDoor.Plain
open Go.RowKit Go.Proofs.YthjpkmaeopdedaaDoor.PR Go.Proofs.YthjpkmaeopdedaaDoor.Ext Go.Proofs.YthjpkmaeopdedaaDoorW.PrintWords

/-- A request of a host and a path stands ahead of bytes. -/
structure IsReq (b h p : List UInt8) : Prop where
  host : mayHost h = true
  path : mayPath p = true
  pre : text h p <+: b

theorem noSP_bt (s : ByteArray) (i : Nat) (h : i < s.size) (c : UInt8) : bt s (i : Int) = (c.toNat : Int) ↔ (L s)[i]'(by rw [L_length]; exact h) = c := by
  rw [bt_L s i h]
  constructor
  · intro e; exact UInt8.toNat_inj.1 (by omega)
  · intro e; rw [e]

/-- The scan for a blank: from i on to the first one, or the end. -/
theorem scan_sp (s : ByteArray) (hn : s.size ≤ 100000000) (r : ByteArray × ByteArray × Int) (d : Nat) : ∀ i j : Nat, i ≤ j → j ≤ s.size → j - i = d → (∀ q (hq : q < s.size), i ≤ q → q < j → (L s)[q]'(by rw [L_length]; exact hq) ≠ 32) →
    (∀ hj : j < s.size, (L s)[j]'(by rw [L_length]; exact hj) = 32) → Ev (fun k => odometerref05_First.j2 k s (j : Int)) r → Ev (fun k => odometerref05_First.l0 k s (i : Int)) r := by
  induction d with
  | zero =>
    intro i j hij hj hd _ hat h
    obtain rfl : i = j := by omega
    refine Ev.step (f := fun k => odometerref05_First.j2 k s (i : Int)) (fun k => ?_) h
    simp only [odometerref05_First.l0]
    by_cases hlt : (i : Int) < (s.size : Int)
    · have hb : bt s (i : Int) = 32 := (noSP_bt s i (by omega) 32).2 (hat (by omega))
      rw [if_pos hlt, if_pos (by omega), if_pos hb]
    · rw [if_neg hlt]
  | succ d ih =>
    intro i j hij hj hd hno hat h
    have hlt : i < s.size := by omega
    have hb : ¬ bt s (i : Int) = 32 := fun e => hno i hlt (Nat.le_refl _) (by omega) ((noSP_bt s i hlt 32).1 e)
    refine Ev.step (f := fun k => odometerref05_First.l0 k s ((i + 1 : Nat) : Int)) (fun k => ?_) (ih (i + 1) j (by omega) hj (by omega) (fun q hq h1 h2 => hno q hq (by omega) h2) hat h)
    simp only [odometerref05_First.l0]
    rw [if_pos (by omega), if_pos (by omega), if_neg hb, wrap_up hlt (by omega)]

theorem scan_cr (s x6 : ByteArray) (x7 : Int) (hn : s.size ≤ 100000000) (r : ByteArray × ByteArray × Int) (d : Nat) : ∀ i j : Nat, i ≤ j → j ≤ s.size → j - i = d → (∀ q (hq : q < s.size), i ≤ q → q < j → (L s)[q]'(by rw [L_length]; exact hq) ≠ 13) →
    (∀ hj : j < s.size, (L s)[j]'(by rw [L_length]; exact hj) = 13) → Ev (fun k => odometerref05_First.j4 k s x6 x7 (j : Int)) r → Ev (fun k => odometerref05_First.l1 k s x6 x7 (i : Int)) r := by
  induction d with
  | zero =>
    intro i j hij hj hd _ hat h
    obtain rfl : i = j := by omega
    refine Ev.step (f := fun k => odometerref05_First.j4 k s x6 x7 (i : Int)) (fun k => ?_) h
    simp only [odometerref05_First.l1]
    by_cases hlt : (i : Int) < (s.size : Int)
    · have hb : bt s (i : Int) = 13 := (noSP_bt s i (by omega) 13).2 (hat (by omega))
      rw [if_pos hlt, if_pos (by omega), if_pos hb]
    · rw [if_neg hlt]
  | succ d ih =>
    intro i j hij hj hd hno hat h
    have hlt : i < s.size := by omega
    have hb : ¬ bt s (i : Int) = 13 := fun e => hno i hlt (Nat.le_refl _) (by omega) ((noSP_bt s i hlt 13).1 e)
    refine Ev.step (f := fun k => odometerref05_First.l1 k s x6 x7 ((i + 1 : Nat) : Int)) (fun k => ?_) (ih (i + 1) j (by omega) hj (by omega) (fun q hq h1 h2 => hno q hq (by omega) h2) hat h)
    simp only [odometerref05_First.l1]
    rw [if_pos (by omega), if_pos (by omega), if_neg hb, wrap_up hlt (by omega)]

/-- From a place on: the first place where a byte stands, or the end. -/
theorem first_at (l : List UInt8) (c : UInt8) (i : Nat) (hi : i ≤ l.length) : ∃ j, i ≤ j ∧ j ≤ l.length ∧ (∀ q (hq : q < l.length), i ≤ q → q < j → l[q] ≠ c) ∧ (∀ hj : j < l.length, l[j] = c) := by
  have key : ∀ d i, i ≤ l.length → l.length - i = d → ∃ j, i ≤ j ∧ j ≤ l.length ∧ (∀ q (hq : q < l.length), i ≤ q → q < j → l[q] ≠ c) ∧ (∀ hj : j < l.length, l[j] = c) := by
    intro d
    induction d with
    | zero =>
      intro i hi hd
      exact ⟨i, Nat.le_refl _, hi, fun q hq h1 h2 => by omega, fun hj => by omega⟩
    | succ d ih =>
      intro i hi hd
      have hlt : i < l.length := by omega
      by_cases h : l[i] = c
      · exact ⟨i, Nat.le_refl _, hi, fun q hq h1 h2 => by omega, fun _ => h⟩
      · obtain ⟨j, h1, h2, h3, h4⟩ := ih (i + 1) (by omega) (by omega)
        refine ⟨j, by omega, h2, fun q hq hq1 hq2 => ?_, h4⟩
        by_cases e : q = i
        · subst e; exact h
        · exact h3 q hq (by omega) hq2
  exact key _ i hi rfl

def noReq : ByteArray × ByteArray × Int := (⟨#[]⟩, ⟨#[]⟩, 0)
/-- What the reference answers, told by the places of its two scans. -/
def refAt (s : ByteArray) (j e : Nat) : ByteArray × ByteArray × Int :=
  if j + 17 ≤ s.size then
    if mayHost ((L s).drop (j + 17) |>.take (e - (j + 17))) ∧ mayPath ((L s).drop 4 |>.take (j - 4)) ∧ text ((L s).drop (j + 17) |>.take (e - (j + 17))) ((L s).drop 4 |>.take (j - 4)) <+: L s
    then (s.extract (j + 17) e, s.extract 4 j, ((text ((L s).drop (j + 17) |>.take (e - (j + 17))) ((L s).drop 4 |>.take (j - 4))).length : Int)) else noReq
  else noReq

theorem L_extract (s : ByteArray) (a b : Nat) : L (s.extract a b) = ((L s).drop a).take (b - a) := by
  simp only [L, ByteArray.data_extract, Array.toList_extract, List.extract_eq_take_drop]
theorem size_extract_le (s : ByteArray) (a b : Nat) : (s.extract a b).size ≤ s.size := by
  rw [← L_length, L_extract, List.length_take, List.length_drop, L_length]
  omega
theorem mk_L (s : ByteArray) : (⟨(L s).toArray⟩ : ByteArray) = s := L_inj (L_mk _)

theorem j5_yes (s p h : ByteArray) : Ev (fun k => odometerref05_First.j5 k s p h true) noReq :=
  Ev.step (f := fun _ => some noReq) (fun k => by simp [odometerref05_First.j5, noReq]) (Ev.now _)
theorem prefix_iff (a b : List UInt8) : a <+: b ↔ a.length ≤ b.length ∧ b.take a.length = a := by
  constructor
  · rintro ⟨t, rfl⟩
    simp
  · rintro ⟨_, h⟩
    exact ⟨b.drop a.length, by conv => lhs; rw [← h, List.length_take, Nat.min_eq_left ‹_›]; rw [List.take_append_drop]⟩
theorem j5_no (s p h : ByteArray) (hn : s.size ≤ 100000000) (hh : h.size ≤ 1000000) (hp : p.size ≤ 1000000) :
    Ev (fun k => odometerref05_First.j5 k s p h false) (if text (L h) (L p) <+: L s then (h, p, ((text (L h) (L p)).length : Int)) else noReq) := by
  refine Ev.step (f := fun _ => some _) (fun k => ?_) (Ev.now _)
  simp only [odometerref05_First.j5, odometerref05_Text.f]
  rw [if_neg (by simp), if_pos ⟨hh, hp⟩, Option.bind_some]
  have hs : (reqHead ++ p ++ reqMid ++ h ++ reqTail).size = (text (L h) (L p)).length := by rw [← L_length, text_ref]
  rw [hs]
  by_cases h1 : (s.size : Int) < ((text (L h) (L p)).length : Int)
  · rw [if_pos h1, if_neg (fun hc => by have := ((prefix_iff _ _).1 hc).1; rw [L_length] at this; omega)]
    rfl
  · rw [if_neg h1, if_pos (by omega), if_pos (by omega)]
    have e1 : (s.extract 0 (((text (L h) (L p)).length : Int)).toNat).toList = (L s).take (text (L h) (L p)).length := by
      rw [ByteArray.toList_eq]
      simp
    rw [e1, ByteArray.toList_eq, show (reqHead ++ p ++ reqMid ++ h ++ reqTail).data.toList = _ from text_ref h p]
    by_cases h2 : text (L h) (L p) <+: L s
    · rw [if_pos h2, if_pos ((prefix_iff _ _).1 h2).2]
    · rw [if_neg h2, if_neg (fun hc => h2 ((prefix_iff _ _).2 ⟨by rw [L_length]; omega, hc⟩))]
      rfl

theorem j4_ev (s x6 : ByteArray) (f e : Nat) (hn : s.size ≤ 100000000) (hf : f ≤ e) (he : e ≤ s.size) (hp : x6.size ≤ s.size) :
    Ev (fun k => odometerref05_First.j4 k s x6 (f : Int) (e : Int)) (if mayHost (L (s.extract f e)) ∧ mayPath (L x6) ∧ text (L (s.extract f e)) (L x6) <+: L s then (s.extract f e, x6, ((text (L (s.extract f e)) (L x6)).length : Int)) else noReq) := by
  have hx := size_extract_le s f e
  refine Ev.step (f := fun k => (odometerref05_MayHost.f k (s.extract f e)).bind fun t => if t = true then (odometerref05_MayPath.f k x6).bind fun t' => odometerref05_First.j5 k s x6 (s.extract f e) (!t') else odometerref05_First.j5 k s x6 (s.extract f e) true) (fun k => ?_) ?_
  · simp only [odometerref05_First.j4]
    rw [if_pos (by omega), if_pos (by omega), if_pos (by omega)]
    simp only [Int.toNat_natCast]
  · refine Ev.bind (mayHost_ref _ (by omega)) ?_
    by_cases h1 : mayHost (L (s.extract f e)) = true
    · simp only [h1, if_true]
      refine Ev.bind (mayPath_ref _ (by omega)) ?_
      by_cases h2 : mayPath (L x6) = true
      · simp only [h2, Bool.not_true, true_and]
        have l1 := (host_len h1).2
        have l2 := path_len h2
        rw [L_length] at l1 l2
        exact j5_no s x6 _ hn (by omega) (by omega)
      · have h2' : mayPath (L x6) = false := by simpa using h2
        simp only [h2', Bool.not_false]
        simpa using j5_yes s x6 (s.extract f e)
    · have h1' : mayHost (L (s.extract f e)) = false := by simpa using h1
      simp only [h1']
      simpa using j5_yes s x6 (s.extract f e)

theorem wrap_small (x : Int) (h0 : -9223372036854775808 ≤ x) (h1 : x ≤ 9223372036854775807) : wrap64 x = x := by unfold wrap64; omega

/-- What the reference answers. -/
theorem ref_first (s : ByteArray) (hn : s.size ≤ 100000000) (h4 : (L s).take 4 = tG) :
    ∃ j e, 4 ≤ j ∧ j ≤ s.size ∧ (∀ q (hq : q < (L s).length), 4 ≤ q → q < j → (L s)[q] ≠ 32) ∧ (∀ hj : j < (L s).length, (L s)[j] = 32) ∧
      (j + 17 ≤ s.size → j + 17 ≤ e ∧ e ≤ s.size ∧ (∀ q (hq : q < (L s).length), j + 17 ≤ q → q < e → (L s)[q] ≠ 13) ∧ (∀ hj : e < (L s).length, (L s)[e] = 13)) ∧
      Ev (fun k => odometerref05_First.f k s) (refAt s j e) := by
  have hl := L_length s
  have hlen : 4 ≤ s.size := by
    have := congrArg List.length h4
    rw [List.length_take, L_length] at this
    have e : tG.length = 4 := rfl
    omega
  obtain ⟨j, hj1, hj2, hj3, hj4⟩ := first_at (L s) 32 4 (by omega)
  have hstart : ∀ r, Ev (fun k => odometerref05_First.l0 k s ((4 : Nat) : Int)) r → Ev (fun k => odometerref05_First.f k s) r := by
    intro r hr
    unfold odometerref05_First.f
    have e : ((s.extract 0 4).toList != ([71, 69, 84, 32] : List UInt8)) = false := by
      rw [ByteArray.toList_eq, show (s.extract 0 4).data.toList = L (s.extract 0 4) from rfl, L_extract, List.drop_zero, Nat.sub_zero, h4]
      rfl
    have e1 : ¬ (s.size : Int) < 4 := by omega
    have e2 : 4 ≤ (s.size : Int) := by omega
    simp only [if_neg e1, if_pos e2, e]
    try simp only [Int.reduceLE, if_true]
    exact Ev.step (f := fun k => odometerref05_First.l0 k s ((4 : Nat) : Int)) (fun k => by simp [odometerref05_First.j0]) hr
  by_cases h17 : j + 17 ≤ s.size
  · obtain ⟨e, he1, he2, he3, he4⟩ := first_at (L s) 13 (j + 17) (by omega)
    refine ⟨j, e, hj1, by omega, hj3, hj4, fun _ => ⟨he1, by omega, he3, he4⟩, hstart _ (scan_sp s hn _ _ 4 j hj1 (by omega) rfl (fun q hq => hj3 q (by omega)) (fun hj => hj4 (by omega)) ?_)⟩
    have hx4 := size_extract_le s 4 j
    refine Ev.step (f := fun k => odometerref05_First.l1 k s (s.extract 4 j) ((j + 17 : Nat) : Int) ((j + 17 : Nat) : Int)) (fun k => ?_) (scan_cr s (s.extract 4 j) _ hn _ _ (j + 17) e he1 (by omega) rfl (fun q hq => he3 q (by omega)) (fun hj => he4 (by omega)) ?_)
    · simp only [odometerref05_First.j2]
      rw [if_pos (by omega), if_pos (by omega), wrap_small _ (by omega) (by omega), if_neg (by omega)]
      simp only [Int.toNat_natCast, Int.natCast_add, Int.cast_ofNat_Int]
    · have h := j4_ev s (s.extract 4 j) (j + 17) e hn he1 (by omega) hx4
      simp only [L_extract] at h
      unfold refAt
      rw [if_pos h17]
      exact h
  · refine ⟨j, j, hj1, by omega, hj3, hj4, fun h => absurd h h17, hstart _ (scan_sp s hn _ _ 4 j hj1 (by omega) rfl (fun q hq => hj3 q (by omega)) (fun hj => hj4 (by omega)) ?_)⟩
    unfold refAt
    rw [if_neg h17]
    refine Ev.step (f := fun _ => some noReq) (fun k => ?_) (Ev.now _)
    simp only [odometerref05_First.j2]
    rw [if_pos (by omega), if_pos (by omega), wrap_small _ (by omega) (by omega), if_pos (by omega)]
    rfl
end Go.Proofs.YthjpkmaeopdedaaDoor.Plain
