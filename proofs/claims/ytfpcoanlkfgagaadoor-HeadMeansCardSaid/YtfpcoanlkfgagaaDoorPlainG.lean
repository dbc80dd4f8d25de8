/- Plain laws of the head seat: what a head tells, of the program and of the reference; beginnings. -/
import Derived.Test.YtfpcoanlkfgagaaDoorRg
import Derived.Test.YtfpcoanlkfgagaaDoorPlainF
namespace Go.Proofs.YtfpcoanlkfgagaaDoor.Plain
open Go.RowKit Go.Proofs.YtfpcoanlkfgagaaDoor.PA Go.Proofs.YtfpcoanlkfgagaaDoor.Ext Go.Proofs.YtfpcoanlkfgagaaDoorW.PrintWords

structure Whole (s : ByteArray) (l : List S75) (m n : Nat) : Prop where
  st : statusB s = true
  sz : s.size ≤ 8192
  few : l.length ≤ 64
  small : ∀ f ∈ l, f.f1.size ≤ 8192
  pos : 0 < m
  le : m ≤ n
theorem fieldOf_size (s : ByteArray) (f : S75) (h : fieldOf s = some f) : f.f1.size ≤ s.size := by
  unfold fieldOf at h
  split at h
  · cases h
  · split at h
    · rw [← Option.some.inj h]
      exact Nat.le_trans (trimB_size _) (size_extract_le _ _ _)
    · cases h
theorem hd_whole (w : List UInt8) (hw : w.length ≤ 8192) : ∀ (k a : Nat) (l l' : List S75) (m : Nat), l.length ≤ 64 → (∀ f ∈ l, f.f1.size ≤ 8192) → hd w k a l = some (some (l', m)) → l'.length ≤ 64 ∧ (∀ f ∈ l', f.f1.size ≤ 8192) ∧ 0 < m ∧ m ≤ w.length := by
  intro k
  induction k with
  | zero => intro a l l' m _ _ h; cases h
  | succ k ih =>
    intro a l l' m hl hf h
    simp only [hd] at h
    rcases drop_index w a with hi | ⟨i, hi, hr⟩
    · rw [if_pos hi] at h; cases h
    · rw [if_neg (by omega)] at h
      by_cases h0 : i = 0
      · rw [if_pos (by omega)] at h
        simp only [Option.some.injEq, Prod.mk.injEq] at h
        obtain ⟨rfl, rfl⟩ := h
        exact ⟨hl, hf, by omega, by omega⟩
      · rw [if_neg (by omega), hi, Int.toNat_natCast] at h
        split at h
        · cases h
        · rename_i f hff
          split at h
          · rename_i h64
            have hfs := fieldOf_size _ _ hff
            have hls := lineAt_size w a i
            refine ih (a + i + 2) (l ++ [f]) l' m (by rw [List.length_append]; simp; omega) (fun g hg => ?_) h
            rcases List.mem_append.1 hg with hg | hg
            · exact hf g hg
            · rw [List.mem_singleton] at hg; rw [hg]; omega
          · cases h
theorem readS_whole (b : List UInt8) (e : Int) (s : ByteArray) (l : List S75) (m : Nat) (h : readS b = (e, some (s, l, m))) : Whole s l m (b.take 8192).length := by
  have hw : (b.take 8192).length ≤ 8192 := by rw [List.length_take]; omega
  have hdi := drop_index (b.take 8192) 0
  rw [List.drop_zero] at hdi
  rcases hdi with hi | ⟨i, hi, hr⟩
  · unfold readS at h
    rw [if_pos hi] at h
    cases h
  · rw [readS_at b i hi] at h
    split at h
    · rename_i hst
      split at h
      · cases h
      · cases h
      · rename_i l0 m0 hh
        simp only [Prod.mk.injEq, Option.some.injEq] at h
        obtain ⟨_, rfl, rfl, rfl⟩ := h
        obtain ⟨a1, a2, a3, a4⟩ := hd_whole _ hw _ _ _ _ _ (by simp) (by simp) hh
        have hls := lineAt_size (b.take 8192) 0 i
        exact ⟨hst, by omega, a1, a2, a3, a4⟩
    · cases h
theorem vals_size {l : List S75} {name : ByteArray} {n : Nat} (h : ∀ f ∈ l, f.f1.size ≤ n) : ∀ s ∈ vals l name, s.size ≤ n := by
  intro s hs
  obtain ⟨f, hf, rfl⟩ := List.mem_map.1 hs
  exact h f (List.mem_filter.1 hf).1

def chunkd : ByteArray := ⟨#[99, 104, 117, 110, 107, 101, 100]⟩
theorem chunk_iff (s : ByteArray) : s.toList = ([99, 104, 117, 110, 107, 101, 100] : List UInt8) ↔ s = chunkd := by
  rw [toList_L]
  exact ⟨fun h => L_inj h, fun h => by rw [h]; rfl⟩
def closeS (l : List S75) (n : Int) (ch old : Bool) : Bool := saysS (vals l cconn) clos || ((decide (n < 0) && !ch) || (old && !saysS (vals l cconn) kali))
abbrev Told := Int × Int × Bool × Bool × Int × Int
def wrongT (e : Int) : Told := (0, 0, false, false, 0, e)
def parseW (s : ByteArray) (l : List S75) (m : Nat) : Told :=
  if (lenS (vals l clen)).2 = true then
    (if (lenS (vals l clen)).1 ≥ 0 ∧ 0 < (vals l tenc).length then wrongT 11
     else if 1 < (vals l tenc).length then wrongT 12
     else if (vals l tenc).length = 1 then (if smallS (rdOf ByteArray.empty (vals l tenc) 0) = chunkd then (if oldB s = true then wrongT 12 else (stv s 3, (lenS (vals l clen)).1, true, closeS l (lenS (vals l clen)).1 true (oldB s), (m : Int), 0)) else wrongT 12)
     else (stv s 3, (lenS (vals l clen)).1, false, closeS l (lenS (vals l clen)).1 false (oldB s), (m : Int), 0))
  else wrongT 11
def parseS : Int × Option (ByteArray × List S75 × Nat) → Told
  | (e, none) => wrongT e
  | (_, some (s, l, m)) => parseW s l m
theorem parse_g (l : List S75) (st : Int) (old : Bool) (sz n : Int) (ch : Bool) (hl : l.length ≤ 64) (hz : ∀ f ∈ l, f.f1.size ≤ 8192) :
    Ev (fun k => head_Parse.g k st old l sz n ch) (st, n, ch, closeS l n ch old, sz, 0) := by
  have hz2 : ∀ s ∈ vals l cconn, s.size ≤ 100000000 := fun s hs => Nat.le_trans (vals_size hz s hs) (by decide)
  unfold head_Parse.g
  refine Ev.bind (says_prog l clos st old sz (by omega) hz2) ?_
  unfold closeS
  by_cases h1 : saysS (vals l cconn) clos = true
  · simp only [h1, if_true, Bool.true_or]
    exact Ev.now _
  · simp only [Bool.eq_false_iff.2 h1, Bool.false_eq_true, if_false, Bool.false_or]
    by_cases h2 : n < 0 ∧ ch = false
    · simp only [h2, and_self, if_true, decide_true, Bool.not_false, Bool.true_or, Bool.and_self]
      exact Ev.now _
    · have e2 : (decide (n < 0) && !ch) = false := by
        rw [Bool.eq_false_iff]
        intro h
        rw [Bool.and_eq_true] at h
        exact h2 ⟨of_decide_eq_true h.1, by simpa using h.2⟩
      simp only [if_neg h2, e2, Bool.false_or]
      cases old with
      | false =>
        simp only [Bool.false_eq_true, if_false, Bool.false_and]
        exact Ev.now _
      | true =>
        simp only [if_true, Bool.true_and]
        exact Ev.bind (says_prog l kali st true sz (by omega) hz2) (Ev.now _)
theorem parse_prog (b : List UInt8) (hb : b.length ≤ 100000000) : Ev (fun k => head_Parse.f k (numsL b)) (parseS (readS b)) := by
  unfold head_Parse.f
  refine Ev.bind (read_prog b hb) ?_
  cases hr : readS b with
  | mk e o =>
    cases o with
    | none =>
      simp only [readP, parseS, wrongT, Bool.false_eq_true, if_false, ite_self]
      exact Ev.now _
    | some p =>
      obtain ⟨s, l, m⟩ := p
      have hw := readS_whole b e s l m hr
      have hz2 : ∀ s ∈ vals l clen, s.size ≤ 100000000 := fun s hs => Nat.le_trans (vals_size hw.small s hs) (by decide)
      have hz3 : ∀ s ∈ vals l tenc, s.size ≤ 8192 := vals_size hw.small
      have hlen := hw.few
      simp only [readP, parseS, if_true]
      refine Ev.bind (length_prog l _ _ _ (by omega) hz2) (Ev.bind (values_prog l tenc _ _ _ (by omega)) ?_)
      simp only [lenP]
      unfold parseW
      by_cases h1 : (lenS (vals l clen)).2 = true
      · simp only [h1, if_true, eq_self]
        by_cases h2 : (lenS (vals l clen)).1 ≥ 0 ∧ 0 < (vals l tenc).length
        · simp only [h2, and_self, if_true]; exact Ev.now _
        · simp only [h2, if_false]
          by_cases h3 : 1 < (vals l tenc).length
          · simp only [if_pos h3]; exact Ev.now _
          · simp only [if_neg h3]
            by_cases h4 : (vals l tenc).length = 1
            · have hx : (rdOf ByteArray.empty (vals l tenc) 0).size ≤ 8192 := by
                have := rdOf_at (vals l tenc) 0 (by omega)
                rw [show ((0 : Nat) : Int) = 0 from rfl] at this
                rw [this]
                exact hz3 _ (List.getElem_mem _)
              simp only [if_pos h4, small_prog _ (Nat.le_trans hx (by decide)), Option.bind_some, chunk_iff]
              by_cases h5 : smallS (rdOf ByteArray.empty (vals l tenc) 0) = chunkd
              · simp only [if_pos h5]
                by_cases h6 : oldB s = true
                · simp only [h6, if_true]; exact Ev.now _
                · simp only [Bool.eq_false_iff.2 h6, Bool.false_eq_true, if_false]
                  exact parse_g l _ _ _ _ _ hw.few hw.small
              · simp only [if_neg h5]; exact Ev.now _
            · simp only [if_neg h4]
              exact parse_g l _ _ _ _ _ hw.few hw.small
      · simp only [Bool.eq_false_iff.2 h1, Bool.false_eq_true, if_false]
        have hn : ¬ ((11 : Int) = 0) := by decide
        simp only [if_neg hn]
        exact Ev.now _

end Go.Proofs.YtfpcoanlkfgagaaDoor.Plain
