/- How bytes are told (layer 23): what stands at the head of a telling is read back. No program in sight. -/
import Derived.Test.YtjapnbghnnbamaaDoorPlainQ
import Derived.Test.YtjapnbghnnbamaaDoorHex16
namespace Go.Proofs.YtjapnbghnnbamaaDoor.Plain
/-- What is told behind a backslash, and how many bytes tell it (0 of them: nothing is). -/
def esc : List UInt8 → UInt8 × Nat
  | [] => (0, 0)
  | c :: r => if c = 110 then (10, 1) else if c = 114 then (13, 1) else if c = 120 ∧ 2 ≤ r.length then (match hexval 0 (r.take 2) with | some n => (UInt8.ofNat n, 3) | none => (0, 0)) else (c, 1)
/-- So much has been read of a telling. -/
def Part (s os rest : List UInt8) : Prop := ∀ b, quote b = s → ∃ b', b = os ++ b' ∧ rest = b'.flatMap tell
theorem part_start (s : List UInt8) : Part s [] ((s.drop 1).take (s.length - 2)) := by
  intro b h
  refine ⟨b, rfl, ?_⟩
  subst h
  unfold quote
  simp
theorem tell_plain (d : UInt8) : (tell d).headD 0 ≠ 92 → tell d = [d] := of_lt (p := fun d => (tell d).headD 0 ≠ 92 → tell d = [d]) (by decide +kernel) d
theorem tell_esc (d : UInt8) : (tell d).headD 0 = 92 → (((tell d).drop 1).length = 1 ∧ (tell d).getD 1 0 ≠ 120 ∨ ((tell d).drop 1).length = 3 ∧ (tell d).getD 1 0 = 120) ∧ esc ((tell d).drop 1) = (d, ((tell d).drop 1).length) :=
  of_lt (p := fun d => (tell d).headD 0 = 92 → (((tell d).drop 1).length = 1 ∧ (tell d).getD 1 0 ≠ 120 ∨ ((tell d).drop 1).length = 3 ∧ (tell d).getD 1 0 = 120) ∧ esc ((tell d).drop 1) = (d, ((tell d).drop 1).length)) (by decide +kernel) d
theorem esc_app {t : List UInt8} (y : List UInt8) (h : t.length = 1 ∧ t.headD 0 ≠ 120 ∨ t.length = 3 ∧ t.headD 0 = 120) : esc (t ++ y) = esc t := by
  rcases h with ⟨h, h2⟩ | ⟨h, h2⟩
  · match t, h with
    | [c], _ =>
      simp only [List.headD_cons] at h2
      simp [esc, h2]
  · match t, h with
    | [c, a, b], _ =>
      simp only [List.headD_cons] at h2
      subst h2
      simp [esc]
theorem part_plain {s os r : List UInt8} {c : UInt8} (h : Part s os (c :: r)) (hc : c ≠ 92) : Part s (os ++ [c]) r := by
  intro b hb
  obtain ⟨b', rfl, hr⟩ := h b hb
  cases b' with
  | nil => simp at hr
  | cons d b' =>
    rw [List.flatMap_cons] at hr
    have hd := tell_plain d
    cases ht : tell d with
    | nil => exact absurd ht (tell_head d).2
    | cons x t =>
      rw [ht] at hr hd
      simp only [List.cons_append, List.cons.injEq] at hr
      obtain ⟨rfl, hr⟩ := hr
      have := hd hc
      simp only [List.cons.injEq] at this
      obtain ⟨rfl, rfl⟩ := this
      exact ⟨b', by simp, by simpa using hr⟩
theorem part_esc {s os r : List UInt8} (h : Part s os (92 :: r)) : Part s (os ++ [(esc r).1]) (r.drop (esc r).2) := by
  intro b hb
  obtain ⟨b', rfl, hr⟩ := h b hb
  cases b' with
  | nil => simp at hr
  | cons d b' =>
    rw [List.flatMap_cons] at hr
    have hd := tell_esc d
    cases ht : tell d with
    | nil => exact absurd ht (tell_head d).2
    | cons x t =>
      rw [ht] at hr hd
      simp only [List.cons_append, List.cons.injEq] at hr
      obtain ⟨rfl, rfl⟩ := hr
      have h2 := hd rfl
      simp only [List.drop_succ_cons, List.drop_zero, List.getD_cons_succ] at h2
      have h3 : esc (t ++ b'.flatMap tell) = (d, t.length) := by
        rw [esc_app _ ?_, h2.2]
        rcases h2.1 with h4 | h4
        · exact .inl ⟨h4.1, by cases t with | nil => simp at h4 | cons a t => simpa using h4.2⟩
        · exact .inr ⟨h4.1, by cases t with | nil => simp at h4 | cons a t => simpa using h4.2⟩
      rw [h3]
      exact ⟨b', by simp, by simp⟩
/-- Where nothing is told, there is no telling. -/
theorem part_none {s os r : List UInt8} (h : Part s os (92 :: r)) (h0 : (esc r).2 = 0) : ∀ b, quote b ≠ s := by
  intro b hb
  obtain ⟨b', rfl, hr⟩ := h b hb
  cases b' with
  | nil => simp at hr
  | cons d b' =>
    rw [List.flatMap_cons] at hr
    have hd := tell_esc d
    cases ht : tell d with
    | nil => exact absurd ht (tell_head d).2
    | cons x t =>
      rw [ht] at hr hd
      simp only [List.cons_append, List.cons.injEq] at hr
      obtain ⟨rfl, rfl⟩ := hr
      have h2 := hd rfl
      simp only [List.drop_succ_cons, List.drop_zero, List.getD_cons_succ] at h2
      have h3 : esc (t ++ b'.flatMap tell) = (d, t.length) := by
        rw [esc_app _ ?_, h2.2]
        rcases h2.1 with h4 | h4
        · exact .inl ⟨h4.1, by cases t with | nil => simp at h4 | cons a t => simpa using h4.2⟩
        · exact .inr ⟨h4.1, by cases t with | nil => simp at h4 | cons a t => simpa using h4.2⟩
      rw [h3] at h0
      rcases h2.1 with h4 | h4 <;> (simp only at h0; omega)
theorem part_end {s os : List UInt8} (h : Part s os []) (hq : quote os ≠ s) : ∀ b, quote b ≠ s := by
  intro b hb
  obtain ⟨b', rfl, hr⟩ := h b hb
  cases b' with
  | nil => exact hq (by simpa using hb)
  | cons d b' =>
    rw [List.flatMap_cons] at hr
    exact (tell_head d).2 (List.append_eq_nil_iff.1 hr.symm).1
theorem short_none {s : List UInt8} (h : s.length < 2) : ∀ b, quote b ≠ s := by
  intro b hb
  subst hb
  simp [quote] at h
  omega
theorem esc_le (r : List UInt8) : (esc r).2 ≤ r.length := by
  cases r with
  | nil => simp [esc]
  | cons c r =>
    simp only [esc]
    split
    · simp
    · split
      · simp
      · split
        · rename_i h
          split
          · simp; omega
          · simp
        · simp
end Go.Proofs.YtjapnbghnnbamaaDoor.Plain
