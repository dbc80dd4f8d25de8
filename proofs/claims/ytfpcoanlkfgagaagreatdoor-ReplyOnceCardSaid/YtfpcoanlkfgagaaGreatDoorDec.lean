/- The decoder of an answer's body, plainly: its state, what a byte does to it, what a row of bytes does. No program. -/
namespace Go.Proofs.YtfpcoanlkfgagaaGreatDoor.Dec
/-- What comes next: nothing; a size line; a body of a length; one without; a chunk; trailers; a byte 13, then one 10, then a size; a byte 10, then a size. -/
inductive St | nil | size | whole | rest | chunk | trailer | must1 | must2 deriving DecidableEq
structure D where
  st : St
  most : Int
  left : Int
  all : Int
  line : List Int
  tail : Int
  body : List Int
  opn : Bool
  done : Bool
  e : Int
/-- What int64's sums are. -/
def wr (n : Int) : Int := (n + 9223372036854775808) % 18446744073709551616 - 9223372036854775808
theorem wr_in (n : Int) (h0 : -9223372036854775808 ≤ n) (h1 : n < 9223372036854775808) : wr n = n := by unfold wr; omega
def D.wrong (d : D) (e : Int) : D := { d with st := .nil, e := e }
def D.ends (d : D) : D := { d with st := .nil, done := true }
def D.put (d : D) (c : Int) : D := { d with body := d.body ++ [c] }
def D.nolines (d : D) : D := { d with line := [] }
def D.addline (d : D) (c : Int) : D := { d with line := d.line ++ [c] }
def D.less (d : D) : D := { d with left := wr (d.left - 1) }
def D.more (d : D) (n : Int) : D := { d with line := [], left := n, all := wr (d.all + n) }
def D.tails (d : D) : D := { d with tail := wr (d.tail + 1) }
def D.go (d : D) (s : St) : D := { d with st := s }
section
variable (num : List Int → Option (Int × Bool)) (tr : List Int → Option Nat)
/-- A size line that is whole: its number n, is it one. -/
def sized (d : D) (n : Int) (is : Bool) : D :=
  if is = false then d.nolines.wrong 12
  else if d.most < wr (d.all + n) then (d.more n).wrong 13
  else if n = 0 then (d.more n).go .trailer
  else (d.more n).go .chunk
/-- A trailer's line that is whole: 0: it ends; 1: it is wrong; else it goes on. -/
def trailed (d : D) (k : Nat) : D :=
  if k = 0 then d.nolines.ends else if k = 1 then d.nolines.wrong 12 else d.nolines
def step (d : D) (c : Int) : Option D :=
  match d.st with
  | .nil => none
  | .whole => some (if wr (d.left - 1) = 0 then (d.put c).less.ends else (d.put c).less)
  | .rest => some (if d.most ≤ d.body.length then d.wrong 13 else d.put c)
  | .size =>
    if c = 10 then (num (d.line ++ [c])).map fun x => sized (d.addline c) x.1 x.2
    else some (if 256 ≤ (d.line.length + 1 : Int) then (d.addline c).wrong 12 else d.addline c)
  | .chunk => some (if 0 < wr (d.left - 1) then (d.put c).less else (d.put c).less.go .must1)
  | .must1 => some (if c = 13 then d.go .must2 else d.wrong 12)
  | .must2 => some (if c = 10 then d.go .size else d.wrong 12)
  | .trailer =>
    if 8192 < wr (d.tail + 1) then some (d.tails.wrong 12)
    else if c = 10 then (tr (d.line ++ [c])).map fun k => trailed (d.tails.addline c) k
    else some (d.tails.addline c)
def push : D → List Int → Option (D × Nat)
  | d, [] => some (d, 0)
  | d, c :: l => if d.st = .nil then some (d, 0) else
    match step num tr d c with
    | none => none
    | some d1 => (push d1 l).map fun x => (x.1, x.2 + 1)
/-- All of these are taken. -/
def Runs : D → List Int → D → Prop
  | d, [], r => d = r
  | d, c :: l, r => d.st ≠ .nil ∧ ∃ d1, step num tr d c = some d1 ∧ Runs d1 l r
variable {num tr}
theorem step_len {d d' : D} {c : Int} (h : step num tr d c = some d') : d'.line.length + d'.body.length ≤ d.line.length + d.body.length + 1 := by
  unfold step at h
  cases hst : d.st <;> simp only [hst] at h
  · cases h
  · split at h
    · obtain ⟨x, _, rfl⟩ := Option.map_eq_some_iff.1 h
      unfold sized
      repeat' split
      all_goals simp only [D.nolines, D.wrong, D.more, D.go, D.addline, List.length_nil]; omega
    · obtain rfl := Option.some.inj h
      split <;> simp only [D.wrong, D.addline, List.length_append, List.length_cons, List.length_nil] <;> omega
  · obtain rfl := Option.some.inj h
    split <;> simp only [D.put, D.less, D.ends, List.length_append, List.length_cons, List.length_nil] <;> omega
  · obtain rfl := Option.some.inj h
    split <;> simp only [D.put, D.wrong, List.length_append, List.length_cons, List.length_nil] <;> omega
  · obtain rfl := Option.some.inj h
    split <;> simp only [D.put, D.less, D.go, List.length_append, List.length_cons, List.length_nil] <;> omega
  · split at h
    · obtain rfl := Option.some.inj h
      simp only [D.tails, D.wrong]; omega
    · split at h
      · obtain ⟨x, _, rfl⟩ := Option.map_eq_some_iff.1 h
        unfold trailed
        repeat' split
        all_goals simp only [D.nolines, D.wrong, D.ends, D.tails, D.addline, List.length_nil]; omega
      · obtain rfl := Option.some.inj h
        simp only [D.tails, D.addline, List.length_append, List.length_cons, List.length_nil]; omega
  · obtain rfl := Option.some.inj h
    split <;> simp only [D.go, D.wrong] <;> omega
  · obtain rfl := Option.some.inj h
    split <;> simp only [D.go, D.wrong] <;> omega
theorem push_nil {d : D} (h : d.st = .nil) (l : List Int) : push num tr d l = some (d, 0) := by
  cases l with
  | nil => rfl
  | cons c l => simp [push, h]
theorem Runs.app {d r q : D} {a b : List Int} (h : Runs num tr d a r) (k : Runs num tr r b q) : Runs num tr d (a ++ b) q := by
  induction a generalizing d with
  | nil => cases h; exact k
  | cons c l ih =>
    obtain ⟨h0, d1, h1, h2⟩ := h
    exact ⟨h0, d1, h1, ih h2⟩
theorem Runs.push_ {d r : D} {a b : List Int} (h : Runs num tr d a r) : Dec.push num tr d (a ++ b) = (Dec.push num tr r b).map fun x => (x.1, x.2 + a.length) := by
  induction a generalizing d with
  | nil => cases h; simp
  | cons c l ih =>
    obtain ⟨h0, d1, h1, h2⟩ := h
    have hi := ih h2
    simp only [List.cons_append, Dec.push, if_neg h0, h1, hi, Option.map_map, List.length_cons]
    rfl
theorem Runs.push_end {d r : D} {a : List Int} (h : Runs num tr d a r) (hr : r.st = .nil) (b : List Int) : Dec.push num tr d (a ++ b) = some (r, a.length) := by
  rw [h.push_, push_nil hr]
  simp
theorem runs_line (m L A t e : Int) (body : List Int) (o dn : Bool) : ∀ (l pre : List Int), (∀ x ∈ l, x ≠ 10) → pre.length + l.length ≤ 255 → Runs num tr ⟨.size, m, L, A, pre, t, body, o, dn, e⟩ l ⟨.size, m, L, A, pre ++ l, t, body, o, dn, e⟩
  | [], pre, _, _ => by simp [Runs]
  | c :: l, pre, h, hl => by
    have hc : c ≠ 10 := h c (List.mem_cons_self ..)
    have hl' : ¬ 256 ≤ (pre.length + 1 : Int) := by simp only [List.length_cons] at hl; omega
    refine ⟨by simp, ⟨.size, m, L, A, pre ++ [c], t, body, o, dn, e⟩, ?_, ?_⟩
    · simp [step, hc, if_neg hl', D.addline]
    · have := runs_line m L A t e body o dn l (pre ++ [c]) (fun x hx => h x (List.mem_cons_of_mem _ hx)) (by simp only [List.length_cons, List.length_append, List.length_nil] at hl ⊢; omega)
      simpa using this
theorem runs_size (m L A t e n : Int) (body l : List Int) (o dn : Bool) (h : ∀ x ∈ l, x ≠ 10) (hl : l.length ≤ 255) (hn : num (l ++ [10]) = some (n, true)) (hm : wr (A + n) ≤ m) :
    Runs num tr ⟨.size, m, L, A, [], t, body, o, dn, e⟩ (l ++ [10]) ⟨if n = 0 then .trailer else .chunk, m, n, wr (A + n), [], t, body, o, dn, e⟩ := by
  refine (runs_line m L A t e body o dn l [] h (by simpa using hl)).app ?_
  refine ⟨by simp, _, ?_, rfl⟩
  have hm' : ¬ m < wr (A + n) := by omega
  simp only [step, List.nil_append, if_true, hn, Option.map_some, sized, D.addline, D.more, D.go, D.wrong, if_neg hm', Bool.true_eq_false, if_false]
  by_cases h0 : n = 0 <;> simp [h0]
theorem runs_chunk (m A t e : Int) (o dn : Bool) : ∀ (l body : List Int) (L : Int), L = l.length → 1 ≤ l.length → l.length ≤ 100000 → Runs num tr ⟨.chunk, m, L, A, [], t, body, o, dn, e⟩ l ⟨.must1, m, 0, A, [], t, body ++ l, o, dn, e⟩
  | [], _, _, _, h, _ => by simp at h
  | c :: l, body, L, hL, _, hm => by
    have hw : wr (L - 1) = l.length := by rw [hL, wr_in] <;> simp only [List.length_cons] at hm ⊢ <;> omega
    by_cases hl : l = []
    · subst hl
      refine ⟨by simp, _, rfl, ?_⟩
      have : ¬ 0 < wr (L - 1) := by rw [hw]; simp
      have h0 : wr (L - 1) = 0 := by rw [hw]; simp
      simp [Runs, h0, D.put, D.less, D.go]
    · have h1 : 1 ≤ l.length := by cases l with | nil => exact absurd rfl hl | cons x l => simp
      refine ⟨by simp, ⟨.chunk, m, l.length, A, [], t, body ++ [c], o, dn, e⟩, ?_, ?_⟩
      · have : 0 < wr (L - 1) := by rw [hw]; omega
        have h2 : l ≠ [] := hl
        simp [step, hw, h2, List.length_pos_iff, D.put, D.less]
      · have := runs_chunk m A t e o dn l (body ++ [c]) l.length rfl h1 (by simp only [List.length_cons] at hm; omega)
        simpa using this
theorem runs_whole (m A t e : Int) (o dn : Bool) : ∀ (l body : List Int) (L : Int), L = l.length → 1 ≤ l.length → l.length ≤ 100000 → Runs num tr ⟨.whole, m, L, A, [], t, body, o, dn, e⟩ l ⟨.nil, m, 0, A, [], t, body ++ l, o, true, e⟩
  | [], _, _, _, h, _ => by simp at h
  | c :: l, body, L, hL, _, hm => by
    have hw : wr (L - 1) = l.length := by rw [hL, wr_in] <;> simp only [List.length_cons] at hm ⊢ <;> omega
    by_cases hl : l = []
    · subst hl
      refine ⟨by simp, _, rfl, ?_⟩
      have h0 : wr (L - 1) = 0 := by rw [hw]; simp
      simp [Runs, h0, D.put, D.less, D.ends]
    · have h1 : 1 ≤ l.length := by cases l with | nil => exact absurd rfl hl | cons x l => simp
      refine ⟨by simp, ⟨.whole, m, l.length, A, [], t, body ++ [c], o, dn, e⟩, ?_, ?_⟩
      · have h2 : ¬ (l.length : Int) = 0 := by omega
        simp only [step, D.put, D.less, hw, if_neg h2]
      · have := runs_whole m A t e o dn l (body ++ [c]) l.length rfl h1 (by simp only [List.length_cons] at hm; omega)
        simpa using this
end
/-- A number's hexadecimal digits. -/
def hexdig (n : Nat) : Int := if n < 10 then 48 + n else 87 + n
def hexF : Nat → Nat → List Int
  | 0, _ => []
  | f + 1, n => (if n < 16 then [] else hexF f (n / 16)) ++ [hexdig (n % 16)]
def hexL (n : Nat) : List Int := hexF 4 n
theorem hexF_len (f n : Nat) : (hexF f n).length ≤ f := by
  induction f generalizing n with
  | zero => simp [hexF]
  | succ f ih =>
    have := ih (n / 16)
    unfold hexF
    by_cases h : n < 16
    · simp [h]
    · simp [h]; exact this
theorem hexdig_ne (n : Nat) (h : n < 16) : hexdig n ≠ 10 := by unfold hexdig; split <;> omega
theorem hexF_ne (f n : Nat) : ∀ x ∈ hexF f n, x ≠ 10 := by
  induction f generalizing n with
  | zero => simp [hexF]
  | succ f ih =>
    intro x hx
    unfold hexF at hx
    rcases List.mem_append.1 hx with hx | hx
    · by_cases h : n < 16
      · simp [h] at hx
      · rw [if_neg h] at hx; exact ih _ x hx
    · rw [List.mem_singleton.1 hx]; exact hexdig_ne _ (Nat.mod_lt _ (by decide))
/-- What is sent: each piece behind its size. -/
def enc : List (List Int) → List Int
  | [] => []
  | p :: ps => (hexL p.length ++ [13, 10] ++ p ++ [13, 10]) ++ enc ps
theorem enc_snoc (ps : List (List Int)) (p : List Int) : enc (ps ++ [p]) = enc ps ++ (hexL p.length ++ [13, 10] ++ p ++ [13, 10]) := by
  induction ps with
  | nil => simp [enc]
  | cons q ps ih => simp [enc, ih]
section
variable {num : List Int → Option (Int × Bool)} {tr : List Int → Option Nat}
theorem runs_piece (hnum : ∀ n, 1 ≤ n → n ≤ 5000 → num (hexL n ++ [13, 10]) = some ((n : Int), true)) (m t L A : Int) (o dn : Bool) (e : Int) (p body : List Int) (h1 : 1 ≤ p.length) (h2 : p.length ≤ 5000) (hA : 0 ≤ A) (hm : A + p.length ≤ m) (hm2 : m ≤ 5000) :
    Runs num tr ⟨.size, m, L, A, [], t, body, o, dn, e⟩ (hexL p.length ++ [13, 10] ++ p ++ [13, 10]) ⟨.size, m, 0, A + p.length, [], t, body ++ p, o, dn, e⟩ := by
  have hw : wr (A + p.length) = A + p.length := wr_in _ (by omega) (by omega)
  have a1 := runs_size (num := num) (tr := tr) m L A t e p.length body (hexL p.length ++ [13]) o dn (by
    intro x hx
    rcases List.mem_append.1 hx with hx | hx
    · exact hexF_ne _ _ x hx
    · rw [List.mem_singleton.1 hx]; decide) (by have := hexF_len 4 p.length; simp only [List.length_append, List.length_cons, List.length_nil, hexL]; omega) (by simpa using hnum _ h1 h2) (by rw [hw]; exact hm)
  have hn0 : ¬ ((p.length : Int) = 0) := by omega
  rw [if_neg hn0, hw] at a1
  have a2 := runs_chunk (num := num) (tr := tr) m (A + p.length) t e o dn p body p.length rfl h1 (by omega)
  have a3 := (a1.app a2).app (b := [13, 10]) (q := ⟨.size, m, 0, A + p.length, [], t, body ++ p, o, dn, e⟩) ⟨by simp, _, rfl, by simp [D.go], _, rfl, by simp [Runs, D.go]⟩
  simpa using a3
theorem runs_enc (hnum : ∀ n, 1 ≤ n → n ≤ 5000 → num (hexL n ++ [13, 10]) = some ((n : Int), true)) (m t e : Int) (o dn : Bool) (hm2 : m ≤ 5000) : ∀ (ps : List (List Int)) (L A : Int) (body : List Int), (∀ p ∈ ps, 1 ≤ p.length ∧ p.length ≤ 5000) → 0 ≤ A → A + ps.flatten.length ≤ m →
    ∃ L2, Runs num tr ⟨.size, m, L, A, [], t, body, o, dn, e⟩ (enc ps) ⟨.size, m, L2, A + ps.flatten.length, [], t, body ++ ps.flatten, o, dn, e⟩
  | [], L, A, body, _, _, _ => ⟨L, by simp [enc, Runs]⟩
  | p :: ps, L, A, body, h, hA, hm => by
    have hp := h p (List.mem_cons_self ..)
    simp only [List.flatten_cons, List.length_append] at hm
    have a1 := runs_piece (tr := tr) hnum m t L A o dn e p body hp.1 hp.2 hA (by omega) hm2
    obtain ⟨L2, a2⟩ := runs_enc hnum m t e o dn hm2 ps 0 (A + p.length) (body ++ p) (fun q hq => h q (List.mem_cons_of_mem _ hq)) (by omega) (by omega)
    refine ⟨L2, ?_⟩
    have := a1.app a2
    simpa [enc, Int.add_assoc] using this
/-- What is sent in chunks is what was sent. -/
theorem chunks_law (hnum : ∀ n, 1 ≤ n → n ≤ 5000 → num (hexL n ++ [13, 10]) = some ((n : Int), true)) (h0 : num [48, 13, 10] = some (0, true)) (ht : tr [13, 10] = some 0) (ps : List (List Int)) (behind : List Int)
    (h : ∀ p ∈ ps, 1 ≤ p.length ∧ p.length ≤ 5000) (hb : ps.flatten.length ≤ 5000) :
    ∃ d, push num tr ⟨.size, ps.flatten.length, 0, 0, [], 0, [], false, false, 0⟩ (enc ps ++ [48, 13, 10, 13, 10] ++ behind) = some (d, (enc ps).length + 5) ∧ d.done = true ∧ d.body = ps.flatten := by
  obtain ⟨L2, a1⟩ := runs_enc (tr := tr) hnum ps.flatten.length 0 0 false false (by omega) ps 0 0 [] h (by omega) (by omega)
  have hw : wr (0 + ps.flatten.length + 0) = ps.flatten.length := by rw [wr_in] <;> omega
  have a2 := runs_size (num := num) (tr := tr) ps.flatten.length L2 (0 + ps.flatten.length) 0 0 0 ([] ++ ps.flatten) [48, 13] false false (by simp) (by simp) (by simpa using h0) (by rw [hw]; exact Int.le_refl _)
  rw [if_pos rfl, hw] at a2
  have a3 : Runs num tr ⟨.trailer, ps.flatten.length, 0, ps.flatten.length, [], 0, [] ++ ps.flatten, false, false, 0⟩ [13, 10] ⟨.nil, ps.flatten.length, 0, ps.flatten.length, [], 2, [] ++ ps.flatten, false, true, 0⟩ := by
    refine ⟨by simp, _, rfl, by simp [D.addline, D.tails], ⟨.nil, ps.flatten.length, 0, ps.flatten.length, [], 2, [] ++ ps.flatten, false, true, 0⟩, ?_, rfl⟩
    have e1 : wr (0 + 1) = 1 := by decide
    have e2 : wr (1 + 1) = 2 := by decide
    simp only [D.addline, D.tails, step, e1, e2, List.nil_append, List.cons_append, ht]
    simp [trailed, D.nolines, D.ends]
  have a4 := ((a1.app a2).app a3).push_end rfl behind
  refine ⟨⟨.nil, ps.flatten.length, 0, ps.flatten.length, [], 2, [] ++ ps.flatten, false, true, 0⟩, ?_, rfl, ?_⟩
  · have e1 : enc ps ++ [48, 13, 10, 13, 10] ++ behind = enc ps ++ ([48, 13] ++ [10]) ++ [13, 10] ++ behind := by simp
    rw [e1, a4]
    simp
  · simp
/-- What is sent by its length is what was sent. -/
theorem whole_law (b behind : List Int) (h1 : 1 ≤ b.length) (h : b.length ≤ 5000) :
    ∃ d, push num tr ⟨.whole, b.length, b.length, 0, [], 0, [], false, false, 0⟩ (b ++ behind) = some (d, b.length) ∧ d.done = true ∧ d.body = b := by
  have a := runs_whole (num := num) (tr := tr) b.length 0 0 0 false false b [] b.length rfl h1 (by omega)
  exact ⟨⟨.nil, b.length, 0, 0, [], 0, [] ++ b, false, true, 0⟩, a.push_end rfl behind, rfl, rfl⟩
theorem none_law (behind : List Int) : ∃ d, push num tr ⟨.nil, 0, 0, 0, [], 0, [], false, true, 0⟩ ([] ++ behind) = some (d, 0) ∧ d.done = true ∧ d.body = [] := ⟨⟨.nil, 0, 0, 0, [], 0, [], false, true, 0⟩, push_nil rfl _, rfl, rfl⟩
end
end Go.Proofs.YtfpcoanlkfgagaaGreatDoor.Dec
