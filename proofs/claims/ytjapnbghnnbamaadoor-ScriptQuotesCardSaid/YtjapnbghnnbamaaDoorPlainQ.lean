/- How bytes are told (layer 23), plainly: a prefix code. No program in sight. -/
namespace Go.Proofs.YtjapnbghnnbamaaDoor.Plain
def hexd (n : Nat) : UInt8 := if n < 10 then UInt8.ofNat (48 + n) else UInt8.ofNat (87 + n)
def tell (c : UInt8) : List UInt8 :=
  if c = 10 then [92, 110] else if c = 13 then [92, 114] else if c = 34 ∨ c = 92 then [92, c] else if 32 ≤ c.toNat ∧ c.toNat ≤ 126 then [c] else [92, 120, hexd (c.toNat / 16), hexd (c.toNat % 16)]
def quote (b : List UInt8) : List UInt8 := 34 :: (b.flatMap tell ++ [34])
theorem of_lt {p : UInt8 → Prop} (h : ∀ n, n < 256 → p (UInt8.ofNat n)) (c : UInt8) : p c := by
  have := h c.toNat c.toNat_lt
  rwa [UInt8.ofNat_toNat] at this
/-- how many bytes tell what stands at the head (the reference's first look). -/
def width (s : List UInt8) : Nat := if s.headD 0 = 92 ∧ 1 < s.length then (if s.getD 1 0 = 120 then 4 else 2) else 1
theorem tell_len (c : UInt8) : (tell c).length = width (tell c) := of_lt (p := fun c => (tell c).length = width (tell c)) (by decide +kernel) c
theorem tell_head (c : UInt8) : ((tell c).headD 0 = 92 → 1 < (tell c).length) ∧ tell c ≠ [] := of_lt (p := fun c => ((tell c).headD 0 = 92 → 1 < (tell c).length) ∧ tell c ≠ []) (by decide +kernel) c
def hexv (h : UInt8) : Nat := if h < 58 then h.toNat - 48 else h.toNat - 87
def untell : List UInt8 → UInt8
  | [c] => c
  | [_, c] => if c = 110 then 10 else if c = 114 then 13 else c
  | [_, _, h, l] => UInt8.ofNat (16 * hexv h + hexv l)
  | _ => 0
theorem untell_tell (c : UInt8) : untell (tell c) = c := of_lt (p := fun c => untell (tell c) = c) (by decide +kernel) c
theorem tell_inj {c d : UInt8} (h : tell c = tell d) : c = d := by rw [← untell_tell c, h, untell_tell]
theorem width_app (c : UInt8) (r : List UInt8) : width (tell c ++ r) = (tell c).length := by
  rw [tell_len]
  have h := tell_head c
  have h2 : width (tell c) = (tell c).length := (tell_len c).symm
  unfold width at *
  cases ht : tell c with
  | nil => exact absurd ht h.2
  | cons x t =>
    rw [ht] at h h2
    simp only [List.headD_cons, List.length_cons, List.cons_append, List.length_append, List.getD_cons_succ] at h h2 ⊢
    by_cases hx : x = 92
    · have := h.1 hx
      cases t with
      | nil => simp at this
      | cons y u => simp [hx]
    · simp [hx]
theorem take_app (c : UInt8) (r : List UInt8) : (tell c ++ r).take (width (tell c ++ r)) = tell c ∧ (tell c ++ r).drop (width (tell c ++ r)) = r := by
  rw [width_app]
  exact ⟨List.take_left, List.drop_left⟩
theorem flat_inj : ∀ {a b : List UInt8}, a.flatMap tell = b.flatMap tell → a = b
  | [], [], _ => rfl
  | [], d :: b, h => by
    have := (tell_head d).2
    simp only [List.flatMap_nil, List.flatMap_cons] at h
    exact absurd (List.append_eq_nil_iff.1 h.symm).1 this
  | c :: a, [], h => by
    have := (tell_head c).2
    simp only [List.flatMap_nil, List.flatMap_cons] at h
    exact absurd (List.append_eq_nil_iff.1 h).1 this
  | c :: a, d :: b, h => by
    simp only [List.flatMap_cons] at h
    have h1 := (take_app c (a.flatMap tell)).1
    rw [h, (take_app d (b.flatMap tell)).1] at h1
    have hcd := tell_inj h1.symm
    subst hcd
    rw [flat_inj (List.append_cancel_left h)]
theorem quote_inj {a b : List UInt8} (h : quote a = quote b) : a = b := by
  unfold quote at h
  injection h with _ h
  exact flat_inj (List.append_cancel_right h)
end Go.Proofs.YtjapnbghnnbamaaDoor.Plain
