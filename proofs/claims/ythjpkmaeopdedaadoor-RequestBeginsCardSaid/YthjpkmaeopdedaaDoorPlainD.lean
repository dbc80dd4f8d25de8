/- Plain laws of the request seat: there is at most one request ahead of bytes; the reference and the program both find it. -/
import Derived.Test.YthjpkmaeopdedaaDoorPlainC
namespace Go.Proofs.YthjpkmaeopdedaaDoor.Plain
open Go.RowKit Go.Proofs.YthjpkmaeopdedaaDoor.PR Go.Proofs.YthjpkmaeopdedaaDoor.Ext Go.Proofs.YthjpkmaeopdedaaDoorW.PrintWords

theorem first_unique (l A m R : List UInt8) (c : UInt8) (hl : l = A ++ (m ++ (c :: R))) (hm : ∀ x ∈ m, x ≠ c) (j : Nat) (h1 : A.length ≤ j) (h2 : j ≤ l.length)
    (h3 : ∀ q (hq : q < l.length), A.length ≤ q → q < j → l[q] ≠ c) (h4 : ∀ hj : j < l.length, l[j] = c) : j = A.length + m.length := by
  have hlen : l.length = A.length + (m.length + (R.length + 1)) := by rw [hl]; simp
  have hat : ∀ (h : A.length + m.length < l.length), l[A.length + m.length] = c := by
    intro h
    simp only [hl]
    rw [List.getElem_append_right (by omega)]
    simp
  rcases Nat.lt_trichotomy j (A.length + m.length) with h | h | h
  · exfalso
    have hj : j < l.length := by omega
    have e := h4 hj
    have hin : l[j] ∈ m := by
      simp only [hl]
      rw [List.getElem_append_right (by omega), List.getElem_append_left (by omega)]
      exact List.getElem_mem _
    exact hm _ hin e
  · exact h
  · exact absurd (hat (by omega)) (h3 _ (by omega) (by omega) h)

theorem text_path (h p r : List UInt8) : text h p ++ r = tG ++ (p ++ (32 :: ([72, 84, 84, 80, 47, 49, 46, 49] ++ crlf ++ ((tH ++ h) ++ crlf ++ (tU ++ crlf ++ (tA ++ crlf ++ tC))) ++ (crlf ++ crlf) ++ r))) := by
  simp only [text, body, tV, List.append_assoc, List.cons_append]
theorem text_host (h p r : List UInt8) : text h p ++ r = (tG ++ p ++ tV ++ crlf ++ tH) ++ (h ++ (13 :: ([10] ++ (tU ++ crlf ++ (tA ++ crlf ++ tC)) ++ (crlf ++ crlf) ++ r))) := by
  simp only [text, body, crlf, List.append_assoc, List.cons_append, List.nil_append]

/-- Where the two scans must end, if a request stands ahead. -/
theorem det (b h p : List UInt8) (hr : IsReq b h p) (j : Nat) (h1 : 4 ≤ j) (h2 : j ≤ b.length) (h3 : ∀ q (hq : q < b.length), 4 ≤ q → q < j → b[q] ≠ 32) (h4 : ∀ hj : j < b.length, b[j] = 32) :
    j = 4 + p.length ∧ j + 17 ≤ b.length ∧ p = (b.drop 4).take (j - 4) ∧
    ∀ e, j + 17 ≤ e → e ≤ b.length → (∀ q (hq : q < b.length), j + 17 ≤ q → q < e → b[q] ≠ 13) → (∀ hj : e < b.length, b[e] = 13) → e = j + 17 + h.length ∧ h = (b.drop (j + 17)).take (e - (j + 17)) := by
  obtain ⟨r, rfl⟩ := hr.pre
  have hG : tG.length = 4 := rfl
  have hj := first_unique _ tG p _ 32 (text_path h p r) (path_noSP hr.path) j (by omega) h2 (fun q hq a b => h3 q hq (by omega) b) h4
  rw [hG] at hj
  have hpre : (tG ++ p ++ tV ++ crlf ++ tH).length = j + 17 := by
    simp only [List.length_append]
    have : tV.length = 9 ∧ crlf.length = 2 ∧ tH.length = 6 := ⟨rfl, rfl, rfl⟩
    omega
  refine ⟨hj, ?_, ?_, ?_⟩
  · rw [List.length_append, text_length]; omega
  · rw [text_path, hj]
    rw [List.drop_left' hG, Nat.add_sub_cancel_left, List.take_left' rfl]
  · intro e e1 e2 e3 e4
    have he := first_unique _ (tG ++ p ++ tV ++ crlf ++ tH) h _ 13 (text_host h p r) (host_noCR hr.host) e (by omega) e2 (fun q hq a b => e3 q hq (by omega) b) e4
    rw [hpre] at he
    refine ⟨he, ?_⟩
    rw [text_host, he]
    rw [List.drop_left' hpre, Nat.add_sub_cancel_left, List.take_left' rfl]

theorem req_unique (b h p h' p' : List UInt8) (hr : IsReq b h p) (hr' : IsReq b h' p') : h = h' ∧ p = p' := by
  have hl : 4 ≤ b.length := by
    obtain ⟨r, rfl⟩ := hr.pre
    rw [List.length_append, text_length]; omega
  obtain ⟨j, h1, h2, h3, h4⟩ := first_at b 32 4 hl
  obtain ⟨_, a2, a3, a4⟩ := det b h p hr j h1 h2 h3 h4
  obtain ⟨_, b2, b3, b4⟩ := det b h' p' hr' j h1 h2 h3 h4
  obtain ⟨e, e1, e2, e3, e4⟩ := first_at b 13 (j + 17) a2
  exact ⟨(a4 e e1 e2 e3 e4).2.trans (b4 e e1 e2 e3 e4).2.symm, a3.trans b3.symm⟩

/-- What is read ahead of bytes. -/
def R (b : List UInt8) (r : ByteArray × ByteArray × Int) : Prop :=
  (∃ h p : ByteArray, IsReq b (L h) (L p) ∧ r = (h, p, ((text (L h) (L p)).length : Int))) ∨ ((∀ h p, ¬ IsReq b h p) ∧ r = noReq)
theorem R_unique {b : List UInt8} {r r' : ByteArray × ByteArray × Int} (h : R b r) (h' : R b r') : r = r' := by
  rcases h with ⟨x, y, hx, rfl⟩ | ⟨hx, rfl⟩
  · rcases h' with ⟨x', y', hx', rfl⟩ | ⟨hx', _⟩
    · obtain ⟨e1, e2⟩ := req_unique _ _ _ _ _ hx hx'
      rw [L_inj e1, L_inj e2]
    · exact absurd hx (hx' _ _)
  · rcases h' with ⟨x', y', hx', _⟩ | ⟨_, rfl⟩
    · exact absurd hx' (hx _ _)
    · rfl

theorem ref_R (s : ByteArray) (hn : s.size ≤ 100000000) : ∃ r, Ev (fun k => odometerref05_First.f k s) r ∧ R (L s) r := by
  have hl := L_length s
  by_cases h4 : (L s).take 4 = tG
  · obtain ⟨j, e, hj1, hj2, hj3, hj4, hje, hev⟩ := ref_first s hn h4
    refine ⟨_, hev, ?_⟩
    unfold refAt
    by_cases h17 : j + 17 ≤ s.size
    · rw [if_pos h17]
      obtain ⟨he1, he2, he3, he4⟩ := hje h17
      split
      · rename_i hc
        left
        refine ⟨s.extract (j + 17) e, s.extract 4 j, ?_, ?_⟩
        · rw [L_extract, L_extract]
          exact ⟨hc.1, hc.2.1, hc.2.2⟩
        · rw [L_extract, L_extract]
      · rename_i hc
        right
        refine ⟨fun h p hr => hc ?_, rfl⟩
        obtain ⟨_, _, a3, a4⟩ := det (L s) h p hr j hj1 (by omega) hj3 hj4
        obtain ⟨_, a5⟩ := a4 e he1 (by omega) he3 he4
        rw [← a3, ← a5]
        exact ⟨hr.host, hr.path, hr.pre⟩
    · rw [if_neg h17]
      right
      refine ⟨fun h p hr => h17 ?_, rfl⟩
      have := (det (L s) h p hr j hj1 (by omega) hj3 hj4).2.1
      omega
  · have hno : ∀ h p, ¬ IsReq (L s) h p := by
      intro h p hr
      obtain ⟨r, hr⟩ := hr.pre
      apply h4
      rw [← hr, text_path]
      exact List.take_left' rfl
    refine ⟨noReq, ?_, .inr ⟨hno, rfl⟩⟩
    unfold odometerref05_First.f
    by_cases e1 : (s.size : Int) < 4
    · simp only [if_pos e1]
      exact Ev.step (f := fun _ => some noReq) (fun k => by simp [odometerref05_First.j0, noReq]) (Ev.now _)
    · have e2 : 4 ≤ (s.size : Int) := by omega
      have e : ((s.extract 0 4).toList != ([71, 69, 84, 32] : List UInt8)) = true := by
        rw [bne_iff_ne, ByteArray.toList_eq, show (s.extract 0 4).data.toList = L (s.extract 0 4) from rfl, L_extract, List.drop_zero, Nat.sub_zero]
        exact h4
      simp only [if_neg e1, if_pos e2, e]
      try simp only [Int.reduceLE, if_true]
      exact Ev.step (f := fun _ => some noReq) (fun k => by simp [odometerref05_First.j0, noReq]) (Ev.now _)
end Go.Proofs.YthjpkmaeopdedaaDoor.Plain
