/- Plain laws of the head seat: the status line, and a head as far as it is there, of the program and of the reference. -/
import Derived.Test.YtfpcoanlkfgagaaDoorPlainC
namespace Go.Proofs.YtfpcoanlkfgagaaDoor.Plain
open Go.RowKit Go.Proofs.YtfpcoanlkfgagaaDoor.PA Go.Proofs.YtfpcoanlkfgagaaDoor.Ext Go.Proofs.YtfpcoanlkfgagaaDoorW.PrintWords

theorem prefix9 (s p : ByteArray) (hp : p.size = 9) : strings_HasPrefix.f s p = some (decide ((L s).take 9 = L p)) := by
  unfold strings_HasPrefix.f stringslite_HasPrefix.f
  rw [hp]
  by_cases h : (s.size : Int) ≥ ((9 : Nat) : Int)
  · rw [if_pos h, if_pos (by omega), if_pos (by omega)]
    simp only [Option.bind_some, Int.toNat_natCast]
    rw [toList_L, toList_L, L_extract_zero]
    congr 1
    rw [Bool.eq_iff_iff, beq_iff_eq, decide_eq_true_iff]
  · rw [if_neg h]
    simp only [Option.bind_some]
    rw [decide_eq_false]
    intro e
    have := congrArg List.length e
    rw [List.length_take, L_length, L_length] at this
    omega
def restB (s : ByteArray) : Bool := decide (13 ≤ s.size ∧ bt s 12 = 32 ∧ (dg (bt s 9) ∧ dg (bt s 10) ∧ dg (bt s 11))) && mayText ((L s).drop 13)
def oldB (s : ByteArray) : Bool := decide ((L s).take 9 = L p10)
def newB (s : ByteArray) : Bool := decide ((L s).take 9 = L p11)
def statusB (s : ByteArray) : Bool := (oldB s || newB s) && restB s
theorem first_g (s : ByteArray) (o : Bool) (hs : s.size ≤ 100000000) : Ev (fun k => head_head_first.g k s o) (if restB s = true then (0, stv s 3, o) else (9, 0, false)) := by
  unfold restB
  by_cases h13 : 13 ≤ s.size
  · by_cases h12 : bt s 12 = 32
    · have ht := text_prog (s.extract 13 s.size) (by have := size_extract_le s 13 s.size; omega)
      rw [L_extract_end] at ht
      refine Ev.congr (f := fun k => (head_MayText.f k (s.extract 13 s.size)).bind fun m => (if m = true then (if dg (bt s 9) ∧ dg (bt s 10) ∧ dg (bt s 11) then some (0, stv s 3, o) else some (9, 0, false)) else some (9, 0, false))) (fun k => ?_) ?_
      · unfold head_head_first.g
        rw [if_pos h13, if_pos h12]
      · refine Ev.bind ht ?_
        by_cases hd : dg (bt s 9) ∧ dg (bt s 10) ∧ dg (bt s 11)
        · rw [decide_eq_true ⟨h13, h12, hd⟩]
          cases hm : mayText ((L s).drop 13) with
          | true => simp only [if_true, if_pos hd, Bool.true_and]; exact Ev.now _
          | false => simp only [Bool.false_eq_true, if_false, Bool.and_false]; exact Ev.now _
        · rw [decide_eq_false (fun h => hd h.2.2)]
          cases hm : mayText ((L s).drop 13) with
          | true => simp only [if_true, if_neg hd, Bool.false_and, Bool.false_eq_true, if_false]; exact Ev.now _
          | false => simp only [Bool.false_eq_true, if_false, Bool.and_false]; exact Ev.now _
    · rw [decide_eq_false (fun h => h12 h.2.1)]
      refine Ev.congr (f := fun _ => some (9, 0, false)) (fun k => ?_) (by simp only [Bool.false_and, Bool.false_eq_true, if_false]; exact Ev.now _)
      unfold head_head_first.g
      rw [if_pos h13, if_neg h12]
  · rw [decide_eq_false (fun h => h13 h.1)]
    refine Ev.congr (f := fun _ => some (9, 0, false)) (fun k => ?_) (by simp only [Bool.false_and, Bool.false_eq_true, if_false]; exact Ev.now _)
    unfold head_head_first.g
    rw [if_neg h13]
def firstP (s : ByteArray) : Int × Int × Bool := if statusB s = true then (0, stv s 3, oldB s) else (9, 0, false)
theorem first_prog (s : ByteArray) (hs : s.size ≤ 100000000) : Ev (fun k => head_head_first.f k s) (firstP s) := by
  have e : ∀ k, head_head_first.f k s = if oldB s = true then head_head_first.g k s true else if newB s = true then head_head_first.g k s false else some (9, 0, false) := fun k => by
    unfold head_head_first.f
    rw [prefix9 s p10 rfl, prefix9 s p11 rfl]
    rfl
  refine Ev.congr e ?_
  unfold firstP statusB
  cases ho : oldB s with
  | true =>
    simp only [if_true, Bool.true_or, Bool.true_and]
    exact first_g s true hs
  | false =>
    cases hn : newB s with
    | true =>
      simp only [if_true, Bool.false_eq_true, if_false, Bool.or_true, Bool.true_and]
      exact first_g s false hs
    | false =>
      simp only [Bool.false_eq_true, if_false, Bool.or_false, Bool.false_and]
      exact Ev.now _
def lineAt (w : List UInt8) (at_ i : Nat) : ByteArray := ⟨((w.drop at_).take i).toArray⟩
/-- The fields from a place on: none: a wrong one; some none: not whole; else the fields, and where the head ends. -/
def hd (w : List UInt8) : Nat → Nat → List S75 → Option (Option (List S75 × Nat))
  | 0, _, _ => some none
  | k + 1, a, l => if Lib.index (w.drop a) crlf = -1 then some none else if Lib.index (w.drop a) crlf = 0 then some (some (l, a + 2)) else
      match fieldOf (lineAt w a (Lib.index (w.drop a) crlf).toNat) with
      | none => none
      | some f => if l.length < 64 then hd w k (a + (Lib.index (w.drop a) crlf).toNat + 2) (l ++ [f]) else none
def bigE (n : Nat) : Int := if 8192 ≤ n then 13 else 0
def readS (b : List UInt8) : Int × Option (ByteArray × List S75 × Nat) :=
  if Lib.index (b.take 8192) crlf = -1 then (bigE b.length, none)
  else if statusB (lineAt (b.take 8192) 0 (Lib.index (b.take 8192) crlf).toNat) = true then
    (match hd (b.take 8192) (b.length + 1) ((Lib.index (b.take 8192) crlf).toNat + 2) [] with
     | none => (10, none)
     | some none => (bigE b.length, none)
     | some (some (l, m)) => (0, some (lineAt (b.take 8192) 0 (Lib.index (b.take 8192) crlf).toNat, l, m)))
  else (9, none)

theorem drop_index (w : List UInt8) (a : Nat) : Lib.index (w.drop a) crlf = -1 ∨ ∃ i : Nat, Lib.index (w.drop a) crlf = i ∧ a + i + 2 ≤ w.length := by
  rcases Lib.index_spec (w.drop a) crlf with ⟨h1, _⟩ | ⟨i, h1, h2, h3, _⟩
  · exact .inl h1
  · have := (Lib.occAt_room h3).resolve_right (by decide)
    rw [List.length_drop] at this
    have hl : crlf.length = 2 := rfl
    exact .inr ⟨i, h1, by omega⟩
theorem readS_at (b : List UInt8) (i : Nat) (hi : Lib.index (b.take 8192) crlf = i) : readS b = if statusB (lineAt (b.take 8192) 0 i) = true then
    (match hd (b.take 8192) (b.length + 1) (i + 2) [] with
     | none => (10, none)
     | some none => (bigE b.length, none)
     | some (some (l, m)) => (0, some (lineAt (b.take 8192) 0 i, l, m)))
  else (9, none) := by
  unfold readS
  rw [if_neg (by omega), hi, Int.toNat_natCast]
theorem lineAt_size (w : List UInt8) (a i : Nat) : (lineAt w a i).size ≤ i := by
  rw [← L_length, lineAt, L_mk, List.length_take]
  omega

def outP (n : Nat) (st : Int) (old : Bool) : Option (Option (List S75 × Nat)) → Int × Bool × List S75 × Int × Bool × Int
  | none => (0, false, [], 0, false, 10)
  | some none => (0, false, [], 0, false, bigE n)
  | some (some (l, m)) => (st, old, l, (m : Int), true, 0)
theorem hd_prog (w : List UInt8) (n : Nat) (st : Int) (old : Bool) (hw : w.length ≤ 100000000) : ∀ (k a : Nat) (l : List S75), 0 < a → a ≤ w.length → w.length - a < k →
    Ev (fun q => head_read.l0 q (numsL w) (n : Int) st old l (a : Int)) (outP n st old (hd w k a l)) := by
  intro k
  induction k with
  | zero => intro a l _ _ h; exact absurd h (by omega)
  | succ k ih =>
    intro a l h0 ha hk
    have hix : bytes_Index.f ((numsL w).drop (a : Int).toNat) [13, 10] = some (Lib.index (w.drop a) crlf) := by
      rw [Int.toNat_natCast, numsL_drop]
      exact index_prog _ (by rw [List.length_drop]; omega)
    rcases drop_index w a with hi | ⟨i, hi, hr⟩
    · refine Ev.step (f := fun _ => some (outP n st old (hd w (k + 1) a l))) (fun q => ?_) (Ev.now _)
      simp only [head_read.l0]
      rw [if_pos ⟨by omega, by rw [numsL_length]; omega⟩, hix, hi]
      simp only [Option.bind_some]
      rw [if_pos (by omega)]
      simp only [hd, if_pos hi, outP, bigE]
      congr 6
      by_cases h : 8192 ≤ n
      · rw [if_pos h, if_pos (by omega)]
      · rw [if_neg h, if_neg (by omega)]
    · have hline : strOfNums (((numsL w).take ((a : Int) + (i : Int)).toNat).drop (a : Int).toNat) = lineAt w a i := by
        rw [show ((a : Int) + (i : Int)).toNat = a + i by omega, Int.toNat_natCast, numsL_take, numsL_drop, strOf_L, List.drop_take]
        unfold lineAt
        congr 4
        omega
      by_cases h0i : i = 0
      · refine Ev.step (f := fun _ => some (outP n st old (hd w (k + 1) a l))) (fun q => ?_) (Ev.now _)
        simp only [head_read.l0]
        rw [if_pos ⟨by omega, by rw [numsL_length]; omega⟩, hix, hi]
        simp only [Option.bind_some]
        rw [if_neg (by omega), if_pos (by rw [numsL_length]; omega), if_neg (by omega), hline]
        have el : (lineAt w a i).toList = [] := by rw [toList_L, lineAt, L_mk, h0i]; rfl
        rw [if_pos el]
        simp only [hd]
        rw [if_neg (by omega), if_pos (by omega)]
        simp only [outP]
        rw [h0i]
        rfl
      · have el : ¬ (lineAt w a i).toList = [] := by
          rw [toList_L, lineAt, L_mk]
          intro h
          have := congrArg List.length h
          rw [List.length_take, List.length_drop, List.length_nil] at this
          omega
        have hf := field_prog l.length (lineAt w a i) (by have := lineAt_size w a i; omega)
        refine Ev.step (f := fun q => (head_head_field.f q l.length (lineAt w a i)).bind fun t => (if t.1 = 0 then head_read.l0 q (numsL w) (n : Int) st old (l ++ [⟨t.2.1, t.2.2⟩]) ((a + i + 2 : Nat) : Int) else some (0, false, [], 0, false, t.1))) (fun q => ?_) ?_
        · simp only [head_read.l0]
          rw [if_pos ⟨by omega, by rw [numsL_length]; omega⟩, hix, hi]
          simp only [Option.bind_some]
          rw [if_neg (by omega), if_pos (by rw [numsL_length]; omega), if_neg (by omega), hline, if_neg el]
          rw [show ((a : Int) + ((i : Int) + 2)) = ((a + i + 2 : Nat) : Int) by omega]
        · refine Ev.bind hf ?_
          have hu : hd w (k + 1) a l = match fieldOf (lineAt w a i) with
              | none => none
              | some f => if l.length < 64 then hd w k (a + i + 2) (l ++ [f]) else none := by
            simp only [hd]
            rw [if_neg (by omega), if_neg (by omega), hi, Int.toNat_natCast]
          rw [hu]
          unfold fieldP
          cases hff : fieldOf (lineAt w a i) with
          | none =>
            exact Ev.congr (f := fun _ => some (0, false, [], 0, false, 10)) (fun _ => if_neg (show ¬ ((10 : Int) = 0) by decide)) (Ev.now _)
          | some f =>
            by_cases h64 : l.length < 64
            · simp only [if_pos h64]
              exact ih (a + i + 2) (l ++ [f]) (by omega) (by omega) (by omega)
            · simp only [if_neg h64]
              exact Ev.congr (f := fun _ => some (0, false, [], 0, false, 10)) (fun _ => if_neg (by decide)) (Ev.now _)
def readP : Int × Option (ByteArray × List S75 × Nat) → Int × Bool × List S75 × Int × Bool × Int
  | (e, none) => (0, false, [], 0, false, e)
  | (_, some (s, l, m)) => (stv s 3, oldB s, l, (m : Int), true, 0)
theorem min_take (b : List UInt8) : (numsL b).take (min ((numsL b).length : Int) 8192).toNat = numsL (b.take 8192) := by
  rw [numsL_length, numsL_take]
  congr 1
  by_cases h : b.length ≤ 8192
  · rw [List.take_of_length_le (by omega), List.take_of_length_le h]
  · congr 1; omega
theorem read_prog (b : List UInt8) (hb : b.length ≤ 100000000) : Ev (fun k => head_read.f k (numsL b)) (readP (readS b)) := by
  have hw : (b.take 8192).length ≤ b.length := by rw [List.length_take]; omega
  refine Ev.congr (f := fun k => head_read.l0 k (numsL (b.take 8192)) (b.length : Int) 0 false [] 0) (fun k => by unfold head_read.f; rw [min_take, numsL_length]) ?_
  have hix : bytes_Index.f ((numsL (b.take 8192)).drop (0 : Int).toNat) [13, 10] = some (Lib.index (b.take 8192) crlf) := by
    rw [show (0 : Int).toNat = 0 from rfl, List.drop_zero]
    exact index_prog _ (by omega)
  have hdi := drop_index (b.take 8192) 0
  rw [List.drop_zero] at hdi
  rcases hdi with hi | ⟨i, hi, hr⟩
  · refine Ev.step (f := fun _ => some (readP (readS b))) (fun q => ?_) (Ev.now _)
    simp only [head_read.l0]
    rw [if_pos ⟨by omega, by omega⟩, hix, hi]
    simp only [Option.bind_some]
    rw [if_pos (by omega)]
    unfold readS
    rw [if_pos hi]
    simp only [readP, bigE]
    congr 6
    by_cases h : 8192 ≤ b.length
    · rw [if_pos h, if_pos (by omega)]
    · rw [if_neg h, if_neg (by omega)]
  · have hline : strOfNums (((numsL (b.take 8192)).take ((0 : Int) + (i : Int)).toNat).drop (0 : Int).toNat) = lineAt (b.take 8192) 0 i := by
      rw [show ((0 : Int) + (i : Int)).toNat = i by omega, show (0 : Int).toNat = 0 from rfl, List.drop_zero, numsL_take, strOf_L]
      rfl
    have hf := first_prog (lineAt (b.take 8192) 0 i) (by have := lineAt_size (b.take 8192) 0 i; omega)
    refine Ev.step (f := fun q => (head_head_first.f q (lineAt (b.take 8192) 0 i)).bind fun t => (if t.1 = 0 then head_read.l0 q (numsL (b.take 8192)) (b.length : Int) t.2.1 t.2.2 [] ((i + 2 : Nat) : Int) else some (0, false, [], 0, false, t.1))) (fun q => ?_) ?_
    · simp only [head_read.l0]
      rw [if_pos ⟨by omega, by omega⟩, hix, hi]
      simp only [Option.bind_some]
      rw [if_neg (by omega), if_pos (by rw [numsL_length]; omega), if_pos trivial, if_pos trivial, hline]
      rw [show ((0 : Int) + ((i : Int) + 2)) = ((i + 2 : Nat) : Int) by omega]
    · refine Ev.bind hf ?_
      rw [readS_at b i hi]
      unfold firstP
      by_cases hs : statusB (lineAt (b.take 8192) 0 i) = true
      · simp only [if_pos hs, if_true]
        have := hd_prog (b.take 8192) b.length (stv (lineAt (b.take 8192) 0 i) 3) (oldB (lineAt (b.take 8192) 0 i)) (by omega) (b.length + 1) (i + 2) [] (by omega) (by omega) (by omega)
        cases hh : hd (b.take 8192) (b.length + 1) (i + 2) [] with
        | none => rw [hh] at this; exact this
        | some o =>
          cases o with
          | none => rw [hh] at this; exact this
          | some p => rw [hh] at this; exact this
      · simp only [if_neg hs]
        exact Ev.congr (f := fun _ => some (0, false, [], 0, false, 9)) (fun _ => if_neg (by decide)) (Ev.now _)

end Go.Proofs.YtfpcoanlkfgagaaDoor.Plain
