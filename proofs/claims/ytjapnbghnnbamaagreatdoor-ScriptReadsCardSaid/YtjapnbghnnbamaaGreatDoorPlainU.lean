/- How bytes are told (layer 23): what stands at the head of a telling is read back. No program in sight. -/
import Derived.Test.YtjapnbghnnbamaaGreatDoorHex16
namespace Go.Proofs.YtjapnbghnnbamaaGreatDoor.Plain
def hexd (n : Nat) : UInt8 := if n < 10 then UInt8.ofNat (48 + n) else UInt8.ofNat (87 + n)
def tell (c : UInt8) : List UInt8 :=
  if c = 10 then [92, 110] else if c = 13 then [92, 114] else if c = 34 ∨ c = 92 then [92, c] else if 32 ≤ c.toNat ∧ c.toNat ≤ 126 then [c] else [92, 120, hexd (c.toNat / 16), hexd (c.toNat % 16)]
def quote (b : List UInt8) : List UInt8 := 34 :: (b.flatMap tell ++ [34])
theorem of_lt {p : UInt8 → Prop} (h : ∀ n, n < 256 → p (UInt8.ofNat n)) (c : UInt8) : p c := by
  have := h c.toNat c.toNat_lt
  rwa [UInt8.ofNat_toNat] at this
/-- how many bytes tell what stands at the head (the reference's first look). -/
def width (s : List UInt8) : Nat := if s.headD 0 = 92 ∧ 1 < s.length then (if s.getD 1 0 = 120 then 4 else 2) else 1
theorem tell_len (c : UInt8) : (tell c).length = width (tell c) := of_lt (p := fun c => (tell c).length = width (tell c)) (by decide +kernel) c
theorem tell_head (c : UInt8) : ((tell c).headD 0 = 92 → 1 < (tell c).length) ∧ tell c ≠ [] := of_lt (p := fun c => ((tell c).headD 0 = 92 → 1 < (tell c).length) ∧ tell c ≠ []) (by decide +kernel) c
def hexv (h : UInt8) : Nat := if h < 58 then h.toNat - 48 else h.toNat - 87
def untell : List UInt8 → UInt8
  | [c] => c
  | [_, c] => if c = 110 then 10 else if c = 114 then 13 else c
  | [_, _, h, l] => UInt8.ofNat (16 * hexv h + hexv l)
  | _ => 0
theorem untell_tell (c : UInt8) : untell (tell c) = c := of_lt (p := fun c => untell (tell c) = c) (by decide +kernel) c
theorem tell_inj {c d : UInt8} (h : tell c = tell d) : c = d := by rw [← untell_tell c, h, untell_tell]
theorem width_app (c : UInt8) (r : List UInt8) : width (tell c ++ r) = (tell c).length := by
  rw [tell_len]
  have h := tell_head c
  have h2 : width (tell c) = (tell c).length := (tell_len c).symm
  unfold width at *
  cases ht : tell c with
  | nil => exact absurd ht h.2
  | cons x t =>
    rw [ht] at h h2
    simp only [List.headD_cons, List.length_cons, List.cons_append, List.length_append, List.getD_cons_succ] at h h2 ⊢
    by_cases hx : x = 92
    · have := h.1 hx
      cases t with
      | nil => simp at this
      | cons y u => simp [hx]
    · simp [hx]
theorem take_app (c : UInt8) (r : List UInt8) : (tell c ++ r).take (width (tell c ++ r)) = tell c ∧ (tell c ++ r).drop (width (tell c ++ r)) = r := by
  rw [width_app]
  exact ⟨List.take_left, List.drop_left⟩
theorem flat_inj : ∀ {a b : List UInt8}, a.flatMap tell = b.flatMap tell → a = b
  | [], [], _ => rfl
  | [], d :: b, h => by
    have := (tell_head d).2
    simp only [List.flatMap_nil, List.flatMap_cons] at h
    exact absurd (List.append_eq_nil_iff.1 h.symm).1 this
  | c :: a, [], h => by
    have := (tell_head c).2
    simp only [List.flatMap_nil, List.flatMap_cons] at h
    exact absurd (List.append_eq_nil_iff.1 h).1 this
  | c :: a, d :: b, h => by
    simp only [List.flatMap_cons] at h
    have h1 := (take_app c (a.flatMap tell)).1
    rw [h, (take_app d (b.flatMap tell)).1] at h1
    have hcd := tell_inj h1.symm
    subst hcd
    rw [flat_inj (List.append_cancel_left h)]
theorem quote_inj {a b : List UInt8} (h : quote a = quote b) : a = b := by
  unfold quote at h
  injection h with _ h
  exact flat_inj (List.append_cancel_right h)
end Go.Proofs.YtjapnbghnnbamaaGreatDoor.Plain
namespace Go.Proofs.YtjapnbghnnbamaaGreatDoor.Plain
/-- What is told behind a backslash, and how many bytes tell it (0 of them: nothing is). -/
def esc : List UInt8 → UInt8 × Nat
  | [] => (0, 0)
  | c :: r => if c = 110 then (10, 1) else if c = 114 then (13, 1) else if c = 120 ∧ 2 ≤ r.length then (match hexval 0 (r.take 2) with | some n => (UInt8.ofNat n, 3) | none => (0, 0)) else (c, 1)
/-- So much has been read of a telling. -/
def Part (s os rest : List UInt8) : Prop := ∀ b, quote b = s → ∃ b', b = os ++ b' ∧ rest = b'.flatMap tell
theorem part_start (s : List UInt8) : Part s [] ((s.drop 1).take (s.length - 2)) := by
  intro b h
  refine ⟨b, rfl, ?_⟩
  subst h
  unfold quote
  simp
theorem tell_plain (d : UInt8) : (tell d).headD 0 ≠ 92 → tell d = [d] := of_lt (p := fun d => (tell d).headD 0 ≠ 92 → tell d = [d]) (by decide +kernel) d
theorem tell_esc (d : UInt8) : (tell d).headD 0 = 92 → (((tell d).drop 1).length = 1 ∧ (tell d).getD 1 0 ≠ 120 ∨ ((tell d).drop 1).length = 3 ∧ (tell d).getD 1 0 = 120) ∧ esc ((tell d).drop 1) = (d, ((tell d).drop 1).length) :=
  of_lt (p := fun d => (tell d).headD 0 = 92 → (((tell d).drop 1).length = 1 ∧ (tell d).getD 1 0 ≠ 120 ∨ ((tell d).drop 1).length = 3 ∧ (tell d).getD 1 0 = 120) ∧ esc ((tell d).drop 1) = (d, ((tell d).drop 1).length)) (by decide +kernel) d
theorem esc_app {t : List UInt8} (y : List UInt8) (h : t.length = 1 ∧ t.headD 0 ≠ 120 ∨ t.length = 3 ∧ t.headD 0 = 120) : esc (t ++ y) = esc t := by
  rcases h with ⟨h, h2⟩ | ⟨h, h2⟩
  · match t, h with
    | [c], _ =>
      simp only [List.headD_cons] at h2
      simp [esc, h2]
  · match t, h with
    | [c, a, b], _ =>
      simp only [List.headD_cons] at h2
      subst h2
      simp [esc]
theorem part_plain {s os r : List UInt8} {c : UInt8} (h : Part s os (c :: r)) (hc : c ≠ 92) : Part s (os ++ [c]) r := by
  intro b hb
  obtain ⟨b', rfl, hr⟩ := h b hb
  cases b' with
  | nil => simp at hr
  | cons d b' =>
    rw [List.flatMap_cons] at hr
    have hd := tell_plain d
    cases ht : tell d with
    | nil => exact absurd ht (tell_head d).2
    | cons x t =>
      rw [ht] at hr hd
      simp only [List.cons_append, List.cons.injEq] at hr
      obtain ⟨rfl, hr⟩ := hr
      have := hd hc
      simp only [List.cons.injEq] at this
      obtain ⟨rfl, rfl⟩ := this
      exact ⟨b', by simp, by simpa using hr⟩
theorem part_esc {s os r : List UInt8} (h : Part s os (92 :: r)) : Part s (os ++ [(esc r).1]) (r.drop (esc r).2) := by
  intro b hb
  obtain ⟨b', rfl, hr⟩ := h b hb
  cases b' with
  | nil => simp at hr
  | cons d b' =>
    rw [List.flatMap_cons] at hr
    have hd := tell_esc d
    cases ht : tell d with
    | nil => exact absurd ht (tell_head d).2
    | cons x t =>
      rw [ht] at hr hd
      simp only [List.cons_append, List.cons.injEq] at hr
      obtain ⟨rfl, rfl⟩ := hr
      have h2 := hd rfl
      simp only [List.drop_succ_cons, List.drop_zero, List.getD_cons_succ] at h2
      have h3 : esc (t ++ b'.flatMap tell) = (d, t.length) := by
        rw [esc_app _ ?_, h2.2]
        rcases h2.1 with h4 | h4
        · exact .inl ⟨h4.1, by cases t with | nil => simp at h4 | cons a t => simpa using h4.2⟩
        · exact .inr ⟨h4.1, by cases t with | nil => simp at h4 | cons a t => simpa using h4.2⟩
      rw [h3]
      exact ⟨b', by simp, by simp⟩
/-- Where nothing is told, there is no telling. -/
theorem part_none {s os r : List UInt8} (h : Part s os (92 :: r)) (h0 : (esc r).2 = 0) : ∀ b, quote b ≠ s := by
  intro b hb
  obtain ⟨b', rfl, hr⟩ := h b hb
  cases b' with
  | nil => simp at hr
  | cons d b' =>
    rw [List.flatMap_cons] at hr
    have hd := tell_esc d
    cases ht : tell d with
    | nil => exact absurd ht (tell_head d).2
    | cons x t =>
      rw [ht] at hr hd
      simp only [List.cons_append, List.cons.injEq] at hr
      obtain ⟨rfl, rfl⟩ := hr
      have h2 := hd rfl
      simp only [List.drop_succ_cons, List.drop_zero, List.getD_cons_succ] at h2
      have h3 : esc (t ++ b'.flatMap tell) = (d, t.length) := by
        rw [esc_app _ ?_, h2.2]
        rcases h2.1 with h4 | h4
        · exact .inl ⟨h4.1, by cases t with | nil => simp at h4 | cons a t => simpa using h4.2⟩
        · exact .inr ⟨h4.1, by cases t with | nil => simp at h4 | cons a t => simpa using h4.2⟩
      rw [h3] at h0
      rcases h2.1 with h4 | h4 <;> (simp only at h0; omega)
theorem part_end {s os : List UInt8} (h : Part s os []) (hq : quote os ≠ s) : ∀ b, quote b ≠ s := by
  intro b hb
  obtain ⟨b', rfl, hr⟩ := h b hb
  cases b' with
  | nil => exact hq (by simpa using hb)
  | cons d b' =>
    rw [List.flatMap_cons] at hr
    exact (tell_head d).2 (List.append_eq_nil_iff.1 hr.symm).1
theorem short_none {s : List UInt8} (h : s.length < 2) : ∀ b, quote b ≠ s := by
  intro b hb
  subst hb
  simp [quote] at h
  omega
theorem esc_le (r : List UInt8) : (esc r).2 ≤ r.length := by
  cases r with
  | nil => simp [esc]
  | cons c r =>
    simp only [esc]
    split
    · simp
    · split
      · simp
      · split
        · rename_i h
          split
          · simp; omega
          · simp
        · simp
end Go.Proofs.YtjapnbghnnbamaaGreatDoor.Plain
