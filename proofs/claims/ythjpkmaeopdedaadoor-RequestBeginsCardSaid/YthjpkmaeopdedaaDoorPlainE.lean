/- Plain laws of the request seat: what the program makes, and what it reads ahead of bytes. -/
import Derived.Test.YthjpkmaeopdedaaDoorPlainD
namespace Go.Proofs.YthjpkmaeopdedaaDoor.Plain
open Go.RowKit Go.Proofs.YthjpkmaeopdedaaDoor.PR Go.Proofs.YthjpkmaeopdedaaDoor.Ext Go.Proofs.YthjpkmaeopdedaaDoorW.PrintWords

theorem lines_prog (h p : ByteArray) (hh : h.size ≤ 1000000) (hp : p.size ≤ 1000000) :
    request_lines.f (([((⟨#[71, 69, 84, 32]⟩ : ByteArray) ++ p) ++ (⟨#[32, 72, 84, 84, 80, 47, 49, 46, 49]⟩ : ByteArray), (⟨#[72, 111, 115, 116, 58, 32]⟩ : ByteArray) ++ h, (⟨#[85, 115, 101, 114, 45, 65, 103, 101, 110, 116, 58, 32, 111, 100, 111, 109, 101, 116, 101, 114]⟩ : ByteArray), (⟨#[65, 99, 99, 101, 112, 116, 58, 32, 116, 101, 120, 116, 47, 112, 108, 97, 105, 110, 59, 118, 101, 114, 115, 105, 111, 110, 61, 48, 46, 48, 46, 52]⟩ : ByteArray), (⟨#[67, 111, 110, 110, 101, 99, 116, 105, 111, 110, 58, 32, 107, 101, 101, 112, 45, 97, 108, 105, 118, 101]⟩ : ByteArray), (⟨#[]⟩ : ByteArray)] : List ByteArray)) = some (numsL (text (L h) (L p))) := by
  have hj : ∀ x0 x1 : ByteArray, L x0 = tG ++ L p ++ tV → L x1 = tH ++ L h → Lib.join ([x0, x1, (⟨#[85, 115, 101, 114, 45, 65, 103, 101, 110, 116, 58, 32, 111, 100, 111, 109, 101, 116, 101, 114]⟩ : ByteArray), (⟨#[65, 99, 99, 101, 112, 116, 58, 32, 116, 101, 120, 116, 47, 112, 108, 97, 105, 110, 59, 118, 101, 114, 115, 105, 111, 110, 61, 48, 46, 48, 46, 52]⟩ : ByteArray), (⟨#[67, 111, 110, 110, 101, 99, 116, 105, 111, 110, 58, 32, 107, 101, 101, 112, 45, 97, 108, 105, 118, 101]⟩ : ByteArray), (⟨#[]⟩ : ByteArray)].map (·.data.toList)) (⟨#[13, 10]⟩ : ByteArray).data.toList = body (L h) (L p) ++ crlf := by
    intro x0 x1 h0 h1
    simp only [List.map_cons, List.map_nil, show x0.data.toList = _ from h0, show x1.data.toList = _ from h1]
    show Lib.join [tG ++ L p ++ tV, tH ++ L h, tU, tA, tC, []] crlf = _
    simp only [Lib.join, List.intercalate, List.intersperse, List.flatten]
    simp [body, List.append_assoc]
  have hx0 : L (((⟨#[71, 69, 84, 32]⟩ : ByteArray) ++ p) ++ (⟨#[32, 72, 84, 84, 80, 47, 49, 46, 49]⟩ : ByteArray)) = tG ++ L p ++ tV := by rw [L_append, L_append]; rfl
  have hx1 : L ((⟨#[72, 111, 115, 116, 58, 32]⟩ : ByteArray) ++ h) = tH ++ L h := by rw [L_append]; rfl
  have hjj := hj _ _ hx0 hx1
  have hlen : (body (L h) (L p) ++ crlf).length = h.size + p.size + 103 := by
    have := text_length (L h) (L p)
    simp only [text, List.length_append, L_length] at this ⊢
    have : crlf.length = 2 := rfl
    omega
  unfold request_lines.f strings_Join.f
  rw [hjj, if_pos ⟨by simp, by omega⟩, Option.bind_some]
  have hs : (⟨(body (L h) (L p) ++ crlf).toArray⟩ : ByteArray).size = h.size + p.size + 103 := by
    rw [← L_length, L_mk, hlen]
  rw [hs, if_pos (by omega)]
  unfold bytesConv.f
  rw [if_pos (by rw [← L_length, L_append, L_mk, List.length_append, hlen]; have : (L (⟨#[13, 10]⟩ : ByteArray)).length = 2 := rfl; omega)]
  simp only [Option.bind_some, bytesOf_L]
  rw [L_append, L_mk]
  have : L (⟨#[13, 10]⟩ : ByteArray) = crlf := rfl
  rw [this, text, List.append_assoc]

theorem bytes_prog (h p : ByteArray) (hh : h.size ≤ 100000000) (hp : p.size ≤ 100000000) :
    Ev (fun k => request_Bytes.f k h p) (if mayHost (L h) = true ∧ mayPath (L p) = true then (numsL (text (L h) (L p)), 0) else ([], 2)) := by
  unfold request_Bytes.f
  refine Ev.bind (mayHost_prog h (by omega)) ?_
  by_cases h1 : mayHost (L h) = true
  · simp only [h1, if_true, true_and]
    refine Ev.bind (mayPath_prog p (by omega)) ?_
    by_cases h2 : mayPath (L p) = true
    · have l1 := (host_len h1).2
      have l2 := path_len h2
      rw [L_length] at l1 l2
      simp only [h2, if_true]
      rw [if_pos (by omega)]
      have e1 : ((⟨#[71, 69, 84, 32]⟩ : ByteArray) ++ p).size = 4 + p.size := by rw [ByteArray.size_append]; rfl
      rw [e1, if_pos (by omega), if_pos (by omega), lines_prog h p (by omega) (by omega)]
      exact Ev.now _
    · have h2' : mayPath (L p) = false := by simpa using h2
      simp only [h2']
      simpa using Ev.now (([] : List Int), (2 : Int))
  · have h1' : mayHost (L h) = false := by simpa using h1
    simp only [h1']
    simpa using Ev.now (([] : List Int), (2 : Int))

theorem hasPrefix_prog (b t : List UInt8) (hb : b.length ≤ 100000000) : bytes_HasPrefix.f (numsL b) (numsL t) = some (decide (t <+: b)) := by
  unfold bytes_HasPrefix.f bytes_Equal.f
  rw [numsL_length, numsL_length]
  by_cases h : (b.length : Int) ≥ (t.length : Int)
  · rw [if_pos h, if_pos (by omega), if_pos (by omega)]
    simp only [Int.toNat_natCast, numsL_take, strOf_L, ByteArray.toList_eq, Option.bind_some]
    congr 1
    rw [Bool.beq_eq_decide_eq, decide_eq_decide, prefix_iff]
    constructor
    · intro e; exact ⟨by omega, e⟩
    · intro e; exact e.2
  · rw [if_neg h]
    congr 1
    symm
    rw [decide_eq_false_iff_not, prefix_iff]
    intro e
    omega

theorem trimPrefix_prog (s t : ByteArray) (hs : s.size ≤ 100000000) : ∃ x, strings_TrimPrefix.f s t = some x ∧ (L t <+: L s → L x = (L s).drop t.size) ∧ x.size ≤ s.size := by
  unfold strings_TrimPrefix.f stringslite_TrimPrefix.f stringslite_HasPrefix.f
  by_cases h : (s.size : Int) ≥ (t.size : Int)
  · have e0 : 0 ≤ (t.size : Int) := by omega
    have e1 : (t.size : Int) ≤ (s.size : Int) := h
    simp only [if_pos h, if_pos e0, if_pos e1, Option.bind_some, Int.toNat_natCast]
    have e : ((s.extract 0 t.size).toList == t.toList) = decide (L t <+: L s) := by
      rw [ByteArray.toList_eq, ByteArray.toList_eq, show (s.extract 0 t.size).data.toList = L (s.extract 0 t.size) from rfl, L_extract, Bool.beq_eq_decide_eq, decide_eq_decide, prefix_iff, List.drop_zero, Nat.sub_zero, L_length, L_length]
      constructor
      · intro e; exact ⟨by omega, e⟩
      · intro e; exact e.2
    rw [e]
    by_cases h2 : L t <+: L s
    · simp only [h2, decide_true, if_true, Option.bind_some]
      refine ⟨_, rfl, fun _ => ?_, size_extract_le _ _ _⟩
      rw [L_extract, List.take_of_length_le (by rw [List.length_drop, L_length]; omega)]
    · simp only [h2, decide_false]
      exact ⟨s, by simp, fun hc => hc.elim, Nat.le_refl _⟩
  · simp only [if_neg h, Option.bind_some]
    refine ⟨s, by simp, fun hc => ?_, Nat.le_refl _⟩
    have := ((prefix_iff _ _).1 hc).1
    rw [L_length, L_length] at this
    omega

theorem trimSuffix_prog (s t : ByteArray) (hs : s.size ≤ 100000000) (ht : t.size ≤ 100000000) : ∃ x, strings_TrimSuffix.f s t = some x ∧ (∀ a, L s = a ++ L t → L x = a) ∧ x.size ≤ s.size := by
  unfold strings_TrimSuffix.f stringslite_TrimSuffix.f stringslite_HasSuffix.f
  rw [wrap_small _ (by omega) (by omega)]
  by_cases h : (s.size : Int) ≥ (t.size : Int)
  · have e0 : 0 ≤ (s.size : Int) - (t.size : Int) := by omega
    have e1 : (s.size : Int) - (t.size : Int) ≤ (s.size : Int) := by omega
    have e3 : ((s.size : Int) - (t.size : Int)).toNat = s.size - t.size := by omega
    simp only [if_pos h, if_pos e0, if_pos e1, Option.bind_some, e3]
    have e : ((s.extract (s.size - t.size) s.size).toList == t.toList) = decide ((L s).drop (s.size - t.size) = L t) := by
      rw [ByteArray.toList_eq, ByteArray.toList_eq, show (s.extract (s.size - t.size) s.size).data.toList = L (s.extract (s.size - t.size) s.size) from rfl, L_extract, Bool.beq_eq_decide_eq, List.take_of_length_le (by rw [List.length_drop, L_length]; omega)]
    rw [e]
    by_cases h2 : (L s).drop (s.size - t.size) = L t
    · simp only [h2, decide_true, if_true, Option.bind_some]
      refine ⟨_, rfl, fun a ha => ?_, size_extract_le _ _ _⟩
      have hl : s.size = a.length + t.size := by rw [← L_length, ha, List.length_append, L_length]
      rw [L_extract, List.drop_zero, Nat.sub_zero, ha, List.take_left' (by omega)]
    · simp only [h2, decide_false]
      refine ⟨s, by simp, fun a ha => ?_, Nat.le_refl _⟩
      exfalso
      apply h2
      have hl : s.size = a.length + t.size := by rw [← L_length, ha, List.length_append, L_length]
      rw [ha, List.drop_left' (by omega)]
  · simp only [if_neg h, Option.bind_some]
    refine ⟨s, by simp, fun a ha => ?_, Nat.le_refl _⟩
    have hl : s.size = a.length + t.size := by rw [← L_length, ha, List.length_append, L_length]
    omega
end Go.Proofs.YthjpkmaeopdedaaDoor.Plain
