/- Plain laws of the head seat: the values of a name, what content-length tells, of the program and of the reference. -/
import Derived.Test.YtfpcoanlkfgagaaDoorPAx3
import Derived.Test.YtfpcoanlkfgagaaDoorPlainD
namespace Go.Proofs.YtfpcoanlkfgagaaDoor.Plain
open Go.RowKit Go.Proofs.YtfpcoanlkfgagaaDoor.PA Go.Proofs.YtfpcoanlkfgagaaDoor.Ext Go.Proofs.YtfpcoanlkfgagaaDoorW.PrintWords

theorem same_iff (a b : ByteArray) : a.toList = b.toList ↔ a = b := by
  rw [toList_L, toList_L]
  exact ⟨L_inj, fun h => by rw [h]⟩
theorem rdOf_at (l : List ByteArray) (i : Nat) (h : i < l.length) : rdOf ByteArray.empty l (i : Int) = l[i]'h := by
  simp [rdOf, List.getD_eq_getElem?_getD, List.getElem?_eq_getElem h]
theorem rd75_at (l : List S75) (i : Nat) (h : i < l.length) : rd_T75 l (i : Int) = l[i]'h := by
  simp [rd_T75, List.getD_eq_getElem?_getD, List.getElem?_eq_getElem h]

def hasName (name : ByteArray) (f : S75) : Bool := decide (f.f0 = name)
def vals (l : List S75) (name : ByteArray) : List ByteArray := (l.filter (hasName name)).map S75.f1
theorem vals_le (l : List S75) (name : ByteArray) : (vals l name).length ≤ l.length := by
  unfold vals
  rw [List.length_map]
  exact List.length_filter_le _ _
theorem values_prog_from (l : List S75) (name : ByteArray) (st : Int) (old : Bool) (sz : Int) (hl : l.length ≤ 100000000) (d : Nat) : ∀ (i : Nat) (acc : List ByteArray), i ≤ l.length → l.length - i = d → acc.length ≤ i →
    Ev (fun k => head_head_values.l0 k name acc l (l.length : Int) (i : Int) st old l sz) (acc ++ vals (l.drop i) name, st, old, sz) := by
  induction d with
  | zero =>
    intro i acc hi hd ha
    obtain rfl : i = l.length := by omega
    refine Ev.step (f := fun _ => some (acc, st, old, sz)) (fun k => ?_) ?_
    · simp only [head_head_values.l0]
      rw [if_neg (by omega)]
    · rw [List.drop_length]
      simp only [vals, List.filter_nil, List.map_nil, List.append_nil]
      exact Ev.now _
  | succ d ih =>
    intro i acc hi hd ha
    have hlt : i < l.length := by omega
    have hdr : l.drop i = l[i]'hlt :: l.drop (i + 1) := List.drop_eq_getElem_cons hlt
    refine Ev.step (f := fun k => if (l[i]'hlt).f0 = name then head_head_values.l0 k name (acc ++ [(l[i]'hlt).f1]) l (l.length : Int) ((i + 1 : Nat) : Int) st old l sz else head_head_values.l0 k name acc l (l.length : Int) ((i + 1 : Nat) : Int) st old l sz) (fun k => ?_) ?_
    · simp only [head_head_values.l0]
      rw [if_pos (by omega), if_pos (by omega), if_pos (by omega), rd75_at l i hlt, wrap_up hlt (by omega)]
      simp only [same_iff]
      rw [if_pos (show acc.length < 8796093022208 by omega)]
    · rw [hdr]
      by_cases h : (l[i]'hlt).f0 = name
      · simp only [if_pos h]
        have := ih (i + 1) (acc ++ [(l[i]'hlt).f1]) (by omega) (by omega) (by rw [List.length_append]; simp; omega)
        have e : acc ++ vals (l[i]'hlt :: l.drop (i + 1)) name = (acc ++ [(l[i]'hlt).f1]) ++ vals (l.drop (i + 1)) name := by
          unfold vals
          rw [List.filter_cons_of_pos (by simp [hasName, h])]
          simp
        rw [e]
        exact this
      · simp only [if_neg h]
        have := ih (i + 1) acc (by omega) (by omega) (by omega)
        have e : vals (l[i]'hlt :: l.drop (i + 1)) name = vals (l.drop (i + 1)) name := by
          unfold vals
          rw [List.filter_cons_of_neg (by simp [hasName, h])]
        rw [e]
        exact this
theorem values_prog (l : List S75) (name : ByteArray) (st : Int) (old : Bool) (sz : Int) (hl : l.length ≤ 100000000) :
    Ev (fun k => head_head_values.f k st old l sz name) (vals l name, st, old, sz) := by
  have := values_prog_from l name st old sz hl l.length 0 [] (by omega) (by omega) (by simp)
  rw [List.drop_zero, List.nil_append] at this
  exact this
def elemOK (v0 s : ByteArray) : Bool := decide (s = v0) && (decide (1 ≤ s.size) && (decide (s.size ≤ 15) && (L s).all isDg))
def lenS (v : List ByteArray) : Int × Bool :=
  match v with
  | [] => (-1, true)
  | v0 :: t => if (v0 :: t).all (elemOK v0) = true then ((num 0 (L v0) : Int), true) else (0, false)
theorem dg_digits (c : UInt8) : (([48, 49, 50, 51, 52, 53, 54, 55, 56, 57] : List UInt8).contains c) = isDg c := by
  have h : ∀ c : Fin 256, (([48, 49, 50, 51, 52, 53, 54, 55, 56, 57] : List UInt8).contains (UInt8.ofNat c.val)) = isDg (UInt8.ofNat c.val) := by decide +kernel
  have := h ⟨c.toNat, c.toNat_lt⟩
  simpa only [UInt8.ofNat_toNat] using this
theorem trim_digits (s : ByteArray) (hs : s.size ≤ 100000000) : ∃ t, strings_Trim.f s (⟨#[48, 49, 50, 51, 52, 53, 54, 55, 56, 57]⟩ : ByteArray) = some t ∧ (t.toList = [] ↔ (L s).all isDg = true) := by
  refine ⟨⟨(Lib.trimS (L s) [48, 49, 50, 51, 52, 53, 54, 55, 56, 57]).toArray⟩, ?_, ?_⟩
  · unfold strings_Trim.f
    rw [if_pos ⟨by omega, by decide, by decide⟩]
  · rw [toList_L, L_mk, trimS_nil]
    have e : (fun x => ([48, 49, 50, 51, 52, 53, 54, 55, 56, 57] : List UInt8).contains x) = isDg := funext dg_digits
    rw [e]
theorem length_prog_from (v0 : ByteArray) (t : List ByteArray) (st : Int) (old : Bool) (l : List S75) (sz : Int) (hv : (v0 :: t).length ≤ 100000000) (hz : ∀ s ∈ (v0 :: t), s.size ≤ 100000000) (d : Nat) :
    ∀ (i : Nat), i ≤ (v0 :: t).length → (v0 :: t).length - i = d → (i = 0 ∨ elemOK v0 v0 = true) →
    Ev (fun k => head_head_length.l0 k (v0 :: t) (v0 :: t) ((v0 :: t).length : Int) (i : Int) st old l sz) (if ((v0 :: t).drop i).all (elemOK v0) = true then ((num 0 (L v0) : Int), 0, st, old, sz) else (0, 11, st, old, sz)) := by
  have hr0 : rdOf ByteArray.empty (v0 :: t) 0 = v0 := rfl
  have hpos : (0 : Int) < ((v0 :: t).length : Int) := by simp
  induction d with
  | zero =>
    intro i hi hd h0
    obtain rfl : i = (v0 :: t).length := by omega
    have hok : elemOK v0 v0 = true := h0.resolve_left (by simp)
    unfold elemOK at hok
    simp only [Bool.and_eq_true, decide_eq_true_eq] at hok
    have hp := parse_num (L v0) (fun h => by have := L_length v0; rw [h] at this; simp at this; omega) (by rw [L_length]; exact hok.2.2.1) hok.2.2.2
    refine Ev.step (f := fun _ => some ((num 0 (L v0) : Int), 0, st, old, sz)) (fun k => ?_) ?_
    · simp only [head_head_length.l0]
      rw [if_neg (by omega), if_pos hpos, hr0]
      unfold strconv_ParseInt.f
      rw [if_pos ⟨by omega, rfl, rfl⟩, hp.1]
      rfl
    · rw [List.drop_length]
      exact Ev.now _
  | succ d ih =>
    intro i hi hd h0
    have hlt : i < (v0 :: t).length := by omega
    have hdr : (v0 :: t).drop i = (v0 :: t)[i]'hlt :: (v0 :: t).drop (i + 1) := List.drop_eq_getElem_cons hlt
    obtain ⟨x, hx⟩ : ∃ x, x = (v0 :: t)[i]'hlt := ⟨_, rfl⟩
    have hxs : x.size ≤ 100000000 := hz x (by rw [hx]; exact List.getElem_mem hlt)
    obtain ⟨q, hq, hqd⟩ := trim_digits x hxs
    rw [hdr, ← hx, List.all_cons]
    have hstep : ∀ k, head_head_length.l0 (k + 1) (v0 :: t) (v0 :: t) ((v0 :: t).length : Int) (i : Int) st old l sz = if elemOK v0 x = true then head_head_length.l0 k (v0 :: t) (v0 :: t) ((v0 :: t).length : Int) ((i + 1 : Nat) : Int) st old l sz else some (0, 11, st, old, sz) := fun k => by
      simp only [head_head_length.l0]
      rw [if_pos (by omega), if_pos (by omega), if_pos (by omega), if_pos hpos, hr0, rdOf_at _ i hlt, ← hx, wrap_up hlt (by omega), hq]
      simp only [Option.bind_some]
      unfold elemOK
      by_cases a : x = v0
      · rw [if_pos ((same_iff _ _).2 a), decide_eq_true a, Bool.true_and]
        by_cases b : 1 ≤ x.size
        · rw [if_neg (by omega), decide_eq_true b, Bool.true_and]
          by_cases c : x.size ≤ 15
          · rw [if_neg (by omega), decide_eq_true c, Bool.true_and]
            by_cases e : (L x).all isDg = true
            · rw [if_pos (hqd.2 e), if_pos e]
            · rw [if_neg (fun h => e (hqd.1 h)), if_neg e]
          · rw [if_pos (by omega), decide_eq_false c, Bool.false_and, if_neg (by decide)]
        · rw [if_pos (by omega), decide_eq_false b, Bool.false_and, if_neg (by decide)]
      · rw [if_neg (fun h => a ((same_iff _ _).1 h)), decide_eq_false a, Bool.false_and, if_neg (by decide)]
    refine Ev.step (f := fun k => if elemOK v0 x = true then head_head_length.l0 k (v0 :: t) (v0 :: t) ((v0 :: t).length : Int) ((i + 1 : Nat) : Int) st old l sz else some (0, 11, st, old, sz)) hstep ?_
    by_cases hok : elemOK v0 x = true
    · have hxv : x = v0 := by
        unfold elemOK at hok
        simp only [Bool.and_eq_true, decide_eq_true_eq] at hok
        exact hok.1
      simp only [hok, if_true, Bool.true_and]
      exact ih (i + 1) (by omega) (by omega) (.inr (by rw [hxv] at hok; exact hok))
    · simp only [Bool.eq_false_iff.2 hok, Bool.false_and, Bool.false_eq_true, if_false]
      exact Ev.now _
def lenP (st : Int) (old : Bool) (sz : Int) (r : Int × Bool) : Int × Int × Int × Bool × Int := (r.1, if r.2 = true then 0 else 11, st, old, sz)
abbrev clen : ByteArray := ⟨#[99, 111, 110, 116, 101, 110, 116, 45, 108, 101, 110, 103, 116, 104]⟩
theorem length_prog (l : List S75) (st : Int) (old : Bool) (sz : Int) (hl : l.length ≤ 100000000) (hz : ∀ s ∈ vals l clen, s.size ≤ 100000000) :
    Ev (fun k => head_head_length.f k st old l sz) (lenP st old sz (lenS (vals l clen))) := by
  refine Ev.congr (f := fun k => (head_head_values.f k st old l sz clen).bind fun bt130 => (if (bt130.1.length : Int) = 0 then (some ((-1), 0, bt130.2.1, bt130.2.2.1, bt130.2.2.2)) else (head_head_length.l0 k bt130.1 bt130.1 (bt130.1.length : Int) 0 bt130.2.1 bt130.2.2.1 l bt130.2.2.2))) (fun k => rfl) (Ev.bind (values_prog l clen st old sz hl) ?_)
  have hle := vals_le l clen
  cases hv : vals l clen with
  | nil =>
    simp only [List.length_nil]
    exact Ev.congr (f := fun _ => some _) (fun _ => if_pos (by rfl)) (Ev.now _)
  | cons v0 t =>
    rw [hv] at hle hz
    have := length_prog_from v0 t st old l sz (by omega) hz _ 0 (by omega) rfl (.inl rfl)
    have hne : ¬ (((v0 :: t).length : Int) = 0) := by simp; omega
    simp only [if_neg hne]
    unfold lenS
    by_cases h : (v0 :: t).all (elemOK v0) = true
    · simp only [List.drop_zero, if_pos h] at this ⊢
      exact this
    · simp only [List.drop_zero, if_neg h] at this ⊢
      exact this

end Go.Proofs.YtfpcoanlkfgagaaDoor.Plain
