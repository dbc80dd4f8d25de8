/- A script's lines, plainly: where they are cut, what their numbers are, and that a line tells one entry. -/
import Derived.Test.YtjapnbghnnbamaaGreatDoorT
import Derived.Lib.Split
import Derived.Lib.CountLaws
import Derived.Lib.ParseIntB
namespace Go.Proofs.YtjapnbghnnbamaaGreatDoor.W
open Go.RowKit Go.Proofs.YtjapnbghnnbamaaGreatDoorW.PrintWords Go.Proofs.YtjapnbghnnbamaaGreatDoor.S Go.Proofs.YtjapnbghnnbamaaGreatDoor.L Go.Proofs.YtjapnbghnnbamaaGreatDoor.K Go.Proofs.YtjapnbghnnbamaaGreatDoor.T
open Go.Proofs.YtjapnbghnnbamaaGreatDoor.Plain (tell quote quote_inj of_lt)
set_option linter.unusedVariables false
set_option linter.unusedSimpArgs false
theorem occ1 (b : List UInt8) (x : UInt8) (i : Nat) : Lib.occAt b [x] i = true ↔ b[i]? = some x := by
  unfold Lib.occAt
  have h0 : (b.drop i)[0]? = b[i]? := by simp
  rw [← h0]
  clear h0
  generalize b.drop i = l
  cases l with
  | nil => simp
  | cons c t => simp [eq_comm (a := x)]
theorem index_at (z : UInt8) (s : List UInt8) : (Lib.index s [z] = -1 ∧ ∀ x ∈ s, x ≠ z) ∨ ∃ i : Nat, Lib.index s [z] = i ∧ i < s.length ∧ s = s.take i ++ z :: s.drop (i + 1) ∧ ∀ x ∈ s.take i, x ≠ z := by
  rcases Lib.index_spec s [z] with ⟨h1, h2⟩ | ⟨i, h1, h2, h3, h4⟩
  · refine .inl ⟨h1, fun x hx he => ?_⟩
    obtain ⟨j, hj, rfl⟩ := List.mem_iff_getElem.1 hx
    have := h2 j (by omega)
    rw [Bool.eq_false_iff] at this
    exact this ((occ1 s z j).2 (by rw [List.getElem?_eq_getElem hj, he]))
  · have h5 := (occ1 s z i).1 h3
    obtain ⟨hi, he⟩ := List.getElem?_eq_some_iff.1 h5
    refine .inr ⟨i, h1, hi, ?_, fun x hx hx2 => ?_⟩
    · rw [← he, List.getElem_cons_drop, List.take_append_drop]
    · obtain ⟨j, hj, rfl⟩ := List.mem_iff_getElem.1 hx
      rw [List.length_take] at hj
      have := h4 j (by omega)
      rw [Bool.eq_false_iff] at this
      refine this ((occ1 s z j).2 ?_)
      rw [List.getElem_take] at hx2
      rw [List.getElem?_eq_getElem (by omega), hx2]
theorem first_unique {z : UInt8} {a a' b b' : List UInt8} (h : a ++ z :: b = a' ++ z :: b') (ha : ∀ x ∈ a, x ≠ z) (ha' : ∀ x ∈ a', x ≠ z) : a = a' ∧ b = b' := by
  induction a generalizing a' with
  | nil =>
    cases a' with
    | nil => simpa using h
    | cons y t => simp only [List.nil_append, List.cons_append, List.cons.injEq] at h; exact absurd h.1.symm (ha' y (by simp))
  | cons x t ih =>
    cases a' with
    | nil => simp only [List.nil_append, List.cons_append, List.cons.injEq] at h; exact absurd h.1 (ha x (by simp))
    | cons y u =>
      simp only [List.cons_append, List.cons.injEq] at h
      obtain ⟨h1, h2⟩ := ih h.2 (fun x hx => ha x (by simp [hx])) (fun x hx => ha' x (by simp [hx]))
      exact ⟨by rw [h.1, h1], h2⟩
theorem cut_at {z : UInt8} {a b : List UInt8} (ha : ∀ x ∈ a, x ≠ z) : Lib.cut (a ++ z :: b) [z] = (a, b, true) := by
  rcases index_at z (a ++ z :: b) with ⟨_, h⟩ | ⟨i, h1, h2, h3, h4⟩
  · exact absurd rfl (h z (by simp))
  · obtain ⟨e1, e2⟩ := first_unique h3 ha h4
    unfold Lib.cut
    rw [if_pos (by omega), h1, Int.toNat_natCast, ← e1]
    show (_, List.drop (i + 1) _, _) = _
    rw [← e2]
theorem cut_none {z : UInt8} {a : List UInt8} (ha : ∀ x ∈ a, x ≠ z) : Lib.cut a [z] = (a, [], false) := by
  rcases index_at z a with ⟨h1, _⟩ | ⟨i, h1, h2, h3, h4⟩
  · unfold Lib.cut; rw [if_neg (by omega)]
  · exact absurd rfl (ha z (by rw [h3]; simp))
/-! ### pieces -/
def pcs (z : UInt8) : List UInt8 → List (List UInt8)
  | [] => [[]]
  | c :: t => if c = z then [] :: pcs z t else (match pcs z t with | p :: ps => (c :: p) :: ps | [] => [[c]])
theorem pcs_none (z : UInt8) (l : List UInt8) (h : ∀ x ∈ l, x ≠ z) : pcs z l = [l] := by
  induction l with
  | nil => rfl
  | cons c t ih =>
    unfold pcs
    rw [if_neg (h c (by simp)), ih (fun x hx => h x (by simp [hx]))]
theorem pcs_at (z : UInt8) (a r : List UInt8) (h : ∀ x ∈ a, x ≠ z) : pcs z (a ++ z :: r) = a :: pcs z r := by
  induction a with
  | nil => simp [pcs]
  | cons c t ih =>
    rw [List.cons_append]
    rw [pcs, if_neg (h c (by simp)), ih (fun x hx => h x (by simp [hx]))]
theorem pcs_ne (z : UInt8) (l : List UInt8) : pcs z l ≠ [] := by
  cases l with
  | nil => simp [pcs]
  | cons c t =>
    unfold pcs
    split
    · simp
    · split <;> simp
/-- What the pieces are, put together again. -/
theorem pcs_mem (z : UInt8) : ∀ (d : Nat) (l : List UInt8), l.length ≤ d → ∀ p ∈ pcs z l, ∀ x ∈ p, x ≠ z := by
  intro d
  induction d with
  | zero =>
    intro l hl p hp
    obtain rfl : l = [] := List.length_eq_zero_iff.1 (by omega)
    simp [pcs] at hp
    subst hp
    simp
  | succ d ih =>
    intro l hl p hp
    rcases index_at z l with ⟨h1, h2⟩ | ⟨i, h1, h2, h3, h4⟩
    · rw [pcs_none z l h2] at hp
      simp at hp
      subst hp
      exact h2
    · rw [h3, pcs_at z _ _ h4] at hp
      rcases List.mem_cons.1 hp with rfl | hp
      · exact h4
      · exact ih _ (by rw [List.length_drop]; omega) p hp
theorem pcs_join (z : UInt8) : ∀ (d : Nat) (l : List UInt8), l.length ≤ d → l = ((pcs z l).dropLast.flatMap fun p => p ++ [z]) ++ (pcs z l).getLast (pcs_ne z l) := by
  intro d
  induction d with
  | zero =>
    intro l hl
    obtain rfl : l = [] := List.length_eq_zero_iff.1 (by omega)
    rfl
  | succ d ih =>
    intro l hl
    rcases index_at z l with ⟨h1, h2⟩ | ⟨i, h1, h2, h3, h4⟩
    · have e := pcs_none z l h2
      simp only [e]
      simp
    · have e : pcs z l = l.take i :: pcs z (l.drop (i + 1)) := by conv => lhs; rw [h3, pcs_at z _ _ h4]
      have ih' := ih (l.drop (i + 1)) (by rw [List.length_drop]; omega)
      have hne := pcs_ne z (l.drop (i + 1))
      simp only [e]
      rw [List.getLast_cons hne, List.dropLast_cons_of_ne_nil hne, List.flatMap_cons, List.append_assoc, List.append_assoc]
      rw [← ih']
      exact h3
theorem split_pcs (z : UInt8) (d : Nat) : ∀ s : List UInt8, s.length ≤ d → Lib.splitK [z] 0 (Lib.count s [z]) s = pcs z s := by
  induction d with
  | zero =>
    intro s hs
    obtain rfl : s = [] := List.length_eq_zero_iff.1 (by omega)
    rfl
  | succ d ih =>
    intro s hs
    rcases index_at z s with ⟨h1, h2⟩ | ⟨i, h1, h2, h3, h4⟩
    · rw [Lib.count_miss h1, pcs_none z s h2]; rfl
    · rw [Lib.count_hit (by simp) h1, Nat.add_comm]
      unfold Lib.splitK
      rw [if_neg (by rw [h1]; simp), h1]
      simp only [Int.toNat_natCast, List.length_cons, List.length_nil, Nat.zero_add, Nat.add_zero]
      rw [ih _ (by rw [List.length_drop]; omega)]
      conv => rhs; rw [h3]
      rw [pcs_at _ _ _ h4]
theorem split_len (z : UInt8) (d : Nat) : ∀ s : List UInt8, s.length ≤ d → (Lib.splitK [z] 0 (Lib.count s [z]) s).length = Lib.count s [z] + 1 := by
  induction d with
  | zero =>
    intro s hs
    obtain rfl : s = [] := List.length_eq_zero_iff.1 (by omega)
    rfl
  | succ d ih =>
    intro s hs
    rcases index_at z s with ⟨h1, h2⟩ | ⟨i, h1, h2, h3, h4⟩
    · rw [Lib.count_miss h1]; rfl
    · rw [Lib.count_hit (by simp) h1, Nat.add_comm 1]
      unfold Lib.splitK
      rw [if_neg (by rw [h1]; simp), h1]
      simp only [Int.toNat_natCast, List.length_cons, List.length_nil, Nat.zero_add, Nat.add_zero]
      rw [ih _ (by rw [List.length_drop]; omega)]
theorem pcs_len (z : UInt8) (d : Nat) : ∀ s : List UInt8, s.length ≤ d → (pcs z s).length ≤ s.length + 1 := by
  induction d with
  | zero =>
    intro s hs
    obtain rfl : s = [] := List.length_eq_zero_iff.1 (by omega)
    exact Nat.le_refl _
  | succ d ih =>
    intro s hs
    rcases index_at z s with ⟨h1, h2⟩ | ⟨i, h1, h2, h3, h4⟩
    · rw [pcs_none z s h2]; simp
    · have e : pcs z s = s.take i :: pcs z (s.drop (i + 1)) := by conv => lhs; rw [h3, pcs_at z _ _ h4]
      have := ih (s.drop (i + 1)) (by rw [List.length_drop]; omega)
      rw [e, List.length_cons]
      rw [List.length_drop] at this
      omega
theorem pcs_le (z : UInt8) (d : Nat) : ∀ s : List UInt8, s.length ≤ d → ∀ p ∈ pcs z s, p.length ≤ s.length := by
  induction d with
  | zero =>
    intro s hs p hp
    obtain rfl : s = [] := List.length_eq_zero_iff.1 (by omega)
    simp [pcs] at hp
    rw [hp]
    exact Nat.le_refl _
  | succ d ih =>
    intro s hs p hp
    rcases index_at z s with ⟨h1, h2⟩ | ⟨i, h1, h2, h3, h4⟩
    · rw [pcs_none z s h2] at hp; simp at hp; rw [hp]; exact Nat.le_refl _
    · have e : pcs z s = s.take i :: pcs z (s.drop (i + 1)) := by conv => lhs; rw [h3, pcs_at z _ _ h4]
      rw [e] at hp
      rcases List.mem_cons.1 hp with rfl | hp
      · rw [List.length_take]; omega
      · have := ih (s.drop (i + 1)) (by rw [List.length_drop]; omega) p hp
        rw [List.length_drop] at this
        omega
/-! ### numbers -/
theorem dec_digit (u : Nat) : ∀ c ∈ Lib.decDigits u, 48 ≤ c.toNat ∧ c.toNat ≤ 57 := by
  induction u using Nat.strongRecOn with
  | _ u ih =>
    intro c hc
    by_cases h : u < 10
    · rw [Lib.decDigits, dif_pos h] at hc
      simp only [List.mem_singleton] at hc
      subst hc
      simp
      omega
    · rw [Lib.decDigits, dif_neg h] at hc
      rcases List.mem_append.1 hc with hc | hc
      · exact ih (u / 10) (by omega) c hc
      · simp only [List.mem_singleton] at hc
        subst hc
        simp
        omega
theorem itoa_digit (n : Int) (h : 0 ≤ n) : ∀ c ∈ Lib.itoa n, 48 ≤ c.toNat ∧ c.toNat ≤ 57 := by
  unfold Lib.itoa
  rw [if_neg (by omega)]
  exact dec_digit _
theorem itoa_ne (n : Int) (h : 0 ≤ n) : Lib.itoa n ≠ [] := by
  unfold Lib.itoa
  rw [if_neg (by omega)]
  rw [Lib.decDigits]
  split <;> simp
theorem parse_snoc (M : Nat) (c : UInt8) : ∀ (l : List UInt8) (acc v : Nat), Lib.parseUintM M acc l = .ok v → Lib.parseUintM M acc (l ++ [c]) = Lib.parseUintM M v [c]
  | [], acc, v, h => by
    simp only [Lib.parseUintM, Lib.NumEnd.ok.injEq] at h
    subst h
    rfl
  | d :: l, acc, v, h => by
    rw [List.cons_append]
    unfold Lib.parseUintM at h ⊢
    by_cases h1 : 48 ≤ d.toNat ∧ d.toNat ≤ 57
    · rw [if_pos h1] at h ⊢
      by_cases h2 : 1844674407370955162 ≤ acc
      · rw [if_pos h2] at h; cases h
      · rw [if_neg h2] at h ⊢
        by_cases h3 : M < acc * 10 + (d.toNat - 48)
        · rw [if_pos h3] at h; cases h
        · rw [if_neg h3] at h ⊢
          exact parse_snoc M c l _ v h
    · rw [if_neg h1] at h; cases h
theorem parse_dec (M u : Nat) (hM : M ≤ 18446744073709551615) (h : u ≤ M) : Lib.parseUintM M 0 (Lib.decDigits u) = .ok u := by
  induction u using Nat.strongRecOn with
  | _ u ih =>
    by_cases hu : u < 10
    · rw [Lib.decDigits, dif_pos hu]
      have e : (UInt8.ofNat (48 + u)).toNat = 48 + u := by simp; omega
      unfold Lib.parseUintM
      rw [e, if_pos (by omega), if_neg (by omega), if_neg (by omega)]
      unfold Lib.parseUintM
      congr 1
      omega
    · rw [Lib.decDigits, dif_neg hu, parse_snoc M _ _ 0 (u / 10) (ih (u / 10) (by omega) (by omega))]
      have e : (UInt8.ofNat (48 + u % 10)).toNat = 48 + u % 10 := by simp; omega
      unfold Lib.parseUintM
      rw [e, if_pos (by omega), if_neg (by omega), if_neg (by omega)]
      unfold Lib.parseUintM
      congr 1
      omega
/-- What ParseInt answers: the number, and is there no error? -/
def piV (l : List UInt8) : Int × Bool := match Lib.parseIntB 64 l with | .ok v => (v, true) | .range => (Lib.intSat 64 l, false) | _ => (0, false)
theorem piV_itoa (n : Int) (h : 0 ≤ n) (h2 : n ≤ 9223372036854775807) : piV (Lib.itoa n) = (n, true) := by
  have hd := itoa_digit n h
  have hp := parse_dec (2 ^ 64 - 1) n.toNat (by decide) (by have : (2 : Nat) ^ 64 - 1 = 18446744073709551615 := by decide
                                                            omega)
  have hi : Lib.itoa n = Lib.decDigits n.toNat := by unfold Lib.itoa; rw [if_neg (by omega)]
  rw [← hi] at hp
  cases hl : Lib.itoa n with
  | nil => exact absurd hl (itoa_ne n h)
  | cons c r =>
    have hc := hd c (by rw [hl]; simp)
    rw [hl] at hp
    have e : Lib.parseIntB 64 (c :: r) = .ok n := by
      unfold Lib.parseIntB
      simp only
      rw [if_neg (show ¬ (c.toNat = 43 ∨ c.toNat = 45) by omega)]
      unfold Lib.parseUintB
      rw [if_neg (by simp), hp]
      simp only
      have p63 : (2 : Nat) ^ (64 - 1) = 9223372036854775808 := by decide
      rw [p63, if_neg (by omega), if_neg (by omega), if_neg (by omega)]
      congr 1
      omega
    unfold piV
    rw [e]
/-! ### lines -/
theorem kn_bytes (k : Int) : ∀ x ∈ (kn k).data.toList, x ≠ 32 ∧ x ≠ 10 := by
  unfold kn; repeat' split
  all_goals decide
theorem tell_bytes (c : UInt8) : ∀ x ∈ tell c, x ≠ 10 := of_lt (p := fun c => ∀ x ∈ tell c, x ≠ 10) (by decide +kernel) c
theorem quote_bytes (b : List UInt8) : ∀ x ∈ quote b, x ≠ 10 := by
  intro x hx
  unfold quote at hx
  rcases List.mem_cons.1 hx with rfl | hx
  · decide
  · rcases List.mem_append.1 hx with hx | hx
    · obtain ⟨c, _, hc⟩ := List.mem_flatMap.1 hx
      exact tell_bytes c x hc
    · simp at hx; subst hx; decide
theorem dig_ne {l : List UInt8} (h : ∀ c ∈ l, 48 ≤ c.toNat ∧ c.toNat ≤ 57) (z : UInt8) (hz : z.toNat < 48) : ∀ x ∈ l, x ≠ z := fun x hx e => by have := h x hx; rw [e] at this; omega
/-- An entry's line behind its word. -/
def tailL (e : En) : List UInt8 := if e.k = 1 then Lib.itoa e.n else if e.k = 7 then (if e.n = 0 then [110, 111] else [121, 101, 115]) else if e.k = 6 then Lib.itoa e.a ++ 32 :: quote e.b else Lib.itoa e.a
theorem lineL_eq (e : En) : lineL e = (kn e.k).data.toList ++ 32 :: tailL e := rfl
def wordOf (s : List UInt8) : List UInt8 := (Lib.cut s [32]).1
def restOf (s : List UInt8) : List UInt8 := (Lib.cut s [32]).2.1
def atOf (s : List UInt8) : List UInt8 := (Lib.cut (restOf s) [32]).1
def quotedOf (s : List UInt8) : List UInt8 := (Lib.cut (restOf s) [32]).2.1
theorem cut_line (e : En) : wordOf (lineL e) = (kn e.k).data.toList ∧ restOf (lineL e) = tailL e := by
  unfold wordOf restOf
  rw [lineL_eq, cut_at (fun x hx => (kn_bytes e.k x hx).1)]
  exact ⟨rfl, rfl⟩
theorem may_tick {e : En} (h : MayE e) (h1 : e.k = 1) : e.a = 0 ∧ 0 ≤ e.n ∧ e.n ≤ 1125899906842624 ∧ e.b = [] := h.2.2.2.2.1 h1
theorem may_sink {e : En} (h : MayE e) (h1 : e.k = 7) : e.a = 0 ∧ (e.n = 0 ∨ e.n = 1) ∧ e.b = [] := h.2.2.2.2.2.1 h1
theorem may_bytes {e : En} (h : MayE e) (h1 : e.k = 6) : e.n = 0 ∧ e.b.length ≤ 65536 := h.2.2.2.2.2.2.1 h1
theorem may_other {e : En} (h : MayE e) (h1 : e.k ≠ 1) (h2 : e.k ≠ 7) (h3 : e.k ≠ 6) : e.n = 0 ∧ e.b = [] := h.2.2.2.2.2.2.2 h1 h2 h3
/-- What a line's parts are. -/
theorem parsed {e : En} (h : MayE e) : wordOf (lineL e) = (kn e.k).data.toList ∧ (e.k = 7 → restOf (lineL e) = if e.n = 0 then [110, 111] else [121, 101, 115]) ∧ (e.k = 1 → piV (atOf (lineL e)) = (e.n, true) ∧ atOf (lineL e) = Lib.itoa e.n) ∧ (e.k ≠ 1 → e.k ≠ 7 → piV (atOf (lineL e)) = (e.a, true) ∧ atOf (lineL e) = Lib.itoa e.a) ∧ (e.k = 6 → quotedOf (lineL e) = quote e.b) := by
  obtain ⟨h1, h2⟩ := cut_line e
  have ha := h.2.2.1
  have ha2 := h.2.2.2.1
  refine ⟨h1, fun hk => ?_, fun hk => ?_, fun hk hk2 => ?_, fun hk => ?_⟩
  · rw [h2]; unfold tailL; rw [if_neg (by omega), if_pos hk]
  · have hn := may_tick h hk
    have hat : atOf (lineL e) = Lib.itoa e.n := by
      unfold atOf
      rw [h2]
      unfold tailL
      rw [if_pos hk, cut_none (dig_ne (itoa_digit e.n hn.2.1) 32 (by decide))]
    exact ⟨by rw [hat]; exact piV_itoa _ hn.2.1 (by omega), hat⟩
  · have hat : atOf (lineL e) = Lib.itoa e.a := by
      unfold atOf
      rw [h2]
      unfold tailL
      rw [if_neg hk, if_neg hk2]
      by_cases h6 : e.k = 6
      · rw [if_pos h6, cut_at (dig_ne (itoa_digit e.a ha) 32 (by decide))]
      · rw [if_neg h6, cut_none (dig_ne (itoa_digit e.a ha) 32 (by decide))]
    exact ⟨by rw [hat]; exact piV_itoa _ ha (by omega), hat⟩
  · unfold quotedOf
    rw [h2]
    unfold tailL
    rw [if_neg (by omega), if_neg (by omega), if_pos hk, cut_at (dig_ne (itoa_digit e.a ha) 32 (by decide))]
theorem kn_inj' {j k : Int} (hj : 1 ≤ j ∧ j ≤ 7) (hk : 1 ≤ k ∧ k ≤ 7) (h : (kn j).data.toList = (kn k).data.toList) : j = k := kn_inj hj hk (by unfold kl; rw [h])
/-- A line tells one entry. -/
theorem line_inj {x y : En} (hx : MayE x) (hy : MayE y) (h : lineL x = lineL y) : x = y := by
  obtain ⟨a1, a2, a3, a4, a5⟩ := parsed hx
  obtain ⟨b1, b2, b3, b4, b5⟩ := parsed hy
  rw [h] at a1 a2 a3 a4 a5
  have hk : x.k = y.k := kn_inj' ⟨hx.1, hx.2.1⟩ ⟨hy.1, hy.2.1⟩ (a1.symm.trans b1)
  by_cases h1 : x.k = 1
  · have e := (a3 h1).1.symm.trans (b3 (hk ▸ h1)).1
    have p := may_tick hx h1
    have q := may_tick hy (hk ▸ h1)
    exact En.ext' hk (by rw [p.1, q.1]) (congrArg Prod.fst e) (by rw [p.2.2.2, q.2.2.2])
  · by_cases h7 : x.k = 7
    · have e := (a2 h7).symm.trans (b2 (hk ▸ h7))
      have p := may_sink hx h7
      have q := may_sink hy (hk ▸ h7)
      refine En.ext' hk (by rw [p.1, q.1]) ?_ (by rw [p.2.2, q.2.2])
      rcases p.2.1 with p1 | p1 <;> rcases q.2.1 with q1 | q1 <;> rw [p1, q1] at e ⊢ <;> first | rfl | (exact absurd e (by decide))
    · have e := (a4 h1 h7).1.symm.trans (b4 (hk ▸ h1) (hk ▸ h7)).1
      by_cases h6 : x.k = 6
      · have p := may_bytes hx h6
        have q := may_bytes hy (hk ▸ h6)
        exact En.ext' hk (congrArg Prod.fst e) (by rw [p.1, q.1]) (quote_inj ((a5 h6).symm.trans (b5 (hk ▸ h6))))
      · have p := may_other hx h1 h7 h6
        have q := may_other hy (hk ▸ h1) (hk ▸ h7) (hk ▸ h6)
        exact En.ext' hk (congrArg Prod.fst e) (by rw [p.1, q.1]) (by rw [p.2, q.2])
theorem line_bytes {e : En} (h : MayE e) : ∀ x ∈ lineL e, x ≠ 10 := by
  intro x hx
  rw [lineL_eq] at hx
  have ha := h.2.2.1
  rcases List.mem_append.1 hx with hx | hx
  · exact (kn_bytes e.k x hx).2
  · rcases List.mem_cons.1 hx with rfl | hx
    · decide
    · unfold tailL at hx
      split at hx
      · rename_i hk
        exact dig_ne (itoa_digit e.n (may_tick h hk).2.1) 10 (by decide) x hx
      · split at hx
        · split at hx <;> (simp at hx; rcases hx with rfl | rfl | rfl <;> decide)
        · split at hx
          · rcases List.mem_append.1 hx with hx | hx
            · exact dig_ne (itoa_digit e.a ha) 10 (by decide) x hx
            · rcases List.mem_cons.1 hx with rfl | hx
              · decide
              · exact quote_bytes e.b x hx
          · exact dig_ne (itoa_digit e.a ha) 10 (by decide) x hx
theorem pcs_text (es : List En) (h : ∀ e ∈ es, MayE e) : pcs 10 (textL es) = es.map lineL ++ [[]] := by
  induction es with
  | nil => rfl
  | cons e es ih =>
    unfold textL
    rw [List.flatMap_cons, List.append_assoc, List.singleton_append, pcs_at 10 _ _ (line_bytes (h e (by simp)))]
    rw [List.map_cons, List.cons_append]
    congr 1
    exact ih (fun x hx => h x (by simp [hx]))
theorem text_inj {xs ys : List En} (hx : ∀ e ∈ xs, MayE e) (hy : ∀ e ∈ ys, MayE e) (h : textL xs = textL ys) : xs = ys := by
  have e := (pcs_text xs hx).symm.trans ((congrArg (pcs 10) h).trans (pcs_text ys hy))
  have e2 : xs.map lineL = ys.map lineL := List.append_cancel_right e
  clear h e
  induction xs generalizing ys with
  | nil => cases ys with
    | nil => rfl
    | cons y ys => simp at e2
  | cons x xs ih =>
    cases ys with
    | nil => simp at e2
    | cons y ys =>
      simp only [List.map_cons, List.cons.injEq] at e2
      rw [line_inj (hx x (by simp)) (hy y (by simp)) e2.1, ih (fun e he => hx e (by simp [he])) (fun e he => hy e (by simp [he])) e2.2]
/-- Pieces that are lines, and nothing behind the last byte 10. -/
theorem text_of_pcs (s : List UInt8) (es : List En) (h : (pcs 10 s).dropLast = es.map lineL) (h2 : (pcs 10 s).getLast (pcs_ne 10 s) = []) : s = textL es := by
  have e := pcs_join 10 _ s (Nat.le_refl _)
  rw [h, h2, List.append_nil] at e
  rw [e]
  unfold textL
  rw [List.flatMap_map]
end Go.Proofs.YtjapnbghnnbamaaGreatDoor.W
