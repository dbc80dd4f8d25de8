/- The plain law of ReplyOnce: three pieces or one; what is told of the end is over. -/
import Derived.Test.YtfpcoanlkfgagaaGreatDoorRdrT
import Derived.Test.YtfpcoanlkfgagaaGreatDoorRdrK
namespace Go.Proofs.YtfpcoanlkfgagaaGreatDoor.RdrU
open Go.RowKit Go.Proofs.YtfpcoanlkfgagaaGreatDoor.Dec Go.Proofs.YtfpcoanlkfgagaaGreatDoor.DecS Go.Proofs.YtfpcoanlkfgagaaGreatDoor.DecR Go.Proofs.YtfpcoanlkfgagaaGreatDoor.DecQ Go.Proofs.YtfpcoanlkfgagaaGreatDoor.DecE Go.Proofs.YtfpcoanlkfgagaaGreatDoor.Rdr Go.Proofs.YtfpcoanlkfgagaaGreatDoor.RdrP Go.Proofs.YtfpcoanlkfgagaaGreatDoor.RdrQ Go.Proofs.YtfpcoanlkfgagaaGreatDoor.RdrL Go.Proofs.YtfpcoanlkfgagaaGreatDoor.RdrT
set_option linter.unusedVariables false
set_option linter.unusedSimpArgs false
def Byts (l : List Int) : Prop := ∀ x ∈ l, (Lit.int .u8 x).wf = true
theorem numsL_of (l0 : List Int) (h : Byts l0) : l0 = Plain.numsL (Lib.bytesOf l0) := by
  have : ∀ x ∈ l0, (((UInt8.ofNat x.toNat).toNat : Nat) : Int) = x := by
    intro x hx
    have hw := h x hx
    have h1 : IntKind.u8.min = 0 := rfl
    have h2 : IntKind.u8.max = 255 := rfl
    simp only [Lit.wf, Bool.and_eq_true, decide_eq_true_eq] at hw
    rw [UInt8.toNat_ofNat']
    omega
  unfold Plain.numsL Lib.bytesOf
  rw [List.map_map]
  conv => lhs; rw [← List.map_id l0]
  exact List.map_congr_left (fun x hx => (this x hx).symm)
theorem pt_prog {l : List Int} {t : Ans} (hw : Byts l) (hl : l.length ≤ 100000000) (h : Pt l = some t) : ∃ k, PA.head_Parse.f k l = some t := by
  obtain ⟨k, hk⟩ := (Plain.parse_prog (Lib.bytesOf l) (by rw [bytesOf_len]; exact hl)).rounds
  rw [← numsL_of l hw] at hk
  exact ⟨k, hk.trans h⟩
theorem feedR_tot {r : R} {d : D} {u : List Int} (h : d.line.length + d.body.length + u.length ≤ 100000000) : ∃ r1, feedR r d u = some r1 := by
  obtain ⟨x, hx⟩ := push_tot u d h
  exact ⟨_, by unfold feedR; rw [hx]; rfl⟩
/-- What a push makes of a reader. -/
theorem pushR_all {r : R} {a : List Int} (h : InvR r) (hm : sizeR r + a.length ≤ 100000000) : ∃ r1, pushR Pt r a = some r1 ∧ InvR r1 ∧ sizeR r1 ≤ sizeR r + a.length ∧ r1.ended = r.ended ∧ ∀ x ∈ r1.ahead, x ∈ r.ahead ∨ x ∈ a := by
  by_cases h1 : r.e ≠ 0 ∨ r.ended = true
  · exact ⟨r, pushR_over h1 a, h, Nat.le_add_right _ _, rfl, fun x hx => .inl hx⟩
  have he : r.e = 0 := Classical.byContradiction fun h => h1 (.inl h)
  have hn : r.ended = false := by cases hh : r.ended with | false => rfl | true => exact absurd (.inr hh) h1
  have hfa : ∀ (r0 r1 : R) (d : D) (u : List Int), feedR r0 d u = some r1 → ∀ x ∈ r1.ahead, x ∈ r0.ahead := by
    intro r0 r1 d u hf x hx
    obtain ⟨y, _, rfl⟩ := Option.map_eq_some_iff.1 hf
    unfold fedR at hx
    split at hx
    · exact hx
    · cases hx
  by_cases hw : r.whole = true
  · cases hb : r.body with
    | none => exact absurd hb (h.wb he hw)
    | some d =>
      have e1 : pushR Pt r a = feedR r d a := by unfold pushR; rw [if_neg h1, if_pos hw, hb]
      have hsz : sizeR r = r.ahead.length + (d.line.length + d.body.length) := by unfold sizeR; rw [hb]
      obtain ⟨r1, hf⟩ := feedR_tot (r := r) (d := d) (u := a) (by omega)
      have hi := feed_inv h (h.body d hb) hf
      exact ⟨r1, e1.trans hf, hi.1, by omega, hi.2.2, fun x hx => .inl (hfa _ _ _ _ hf x hx)⟩
  have hszr : r.ahead.length ≤ sizeR r := by unfold sizeR; omega
  have e2 : ∀ t, Pt (r.ahead ++ a) = some t → pushR Pt r a = (if t.2.2.2.2.1 = 0 then some (({ r with ahead := r.ahead ++ a } : R).note t.2.2.2.2.2)
    else if t.2.2.2.2.2 = 0 ∧ 0 ≤ t.2.2.2.2.1 ∧ t.2.2.2.2.1 ≤ (r.ahead ++ a).length then
      (if t.1 = 200 then feedR { r with ahead := [], hd := ⟨t.1, t.2.1, t.2.2.1, t.2.2.2.1⟩, whole := true } (newD t.2.2.1 t.2.1 (max r.most 0)) ((r.ahead ++ a).drop t.2.2.2.2.1.toNat)
       else some (({ r with ahead := [], hd := ⟨t.1, t.2.1, t.2.2.1, t.2.2.2.1⟩, whole := true } : R).note 14))
    else none) := fun t ht => by unfold pushR; rw [if_neg h1, if_neg hw, ht]; rfl
  rcases pt_cases (r.ahead ++ a) with h2 | ⟨e, h0, h01, h02, h2, _⟩ | ⟨st, len, ch, cl, m, h4, h5, h2, _⟩
  · refine ⟨{ r with ahead := r.ahead ++ a }, (e2 _ h2).trans (by rw [if_pos rfl]; exact congrArg some (if_pos rfl)), ⟨h.e0, h.e1, h.body, h.wb⟩, ?_, rfl, fun x hx => List.mem_append.1 hx⟩
    unfold sizeR
    simp only [List.length_append]
    omega
  · refine ⟨{ r with e := e, ahead := [] }, (e2 _ h2).trans (by rw [if_pos rfl]; exact congrArg some (if_neg h0)), ⟨h01, h02, h.body, fun h => absurd h h0⟩, ?_, rfl, fun x hx => by cases hx⟩
    unfold sizeR
    simp only [List.length_nil]
    omega
  · have hm0 : ¬ (m : Int) = 0 := by omega
    have h6 := (e2 _ h2).trans ((if_neg hm0).trans (if_pos ⟨rfl, by show (0 : Int) ≤ (m : Int); omega, by show (m : Int) ≤ _; omega⟩))
    have hdl : ((r.ahead ++ a).drop (m : Int).toNat).length ≤ r.ahead.length + a.length := by rw [List.length_drop, List.length_append]; omega
    by_cases hs : st = 200
    · rw [if_pos hs] at h6
      have hnl := newD_line ch len (max r.most 0)
      obtain ⟨r1, hf⟩ := feedR_tot (r := { r with ahead := [], hd := ⟨st, len, ch, cl⟩, whole := true }) (d := newD ch len (max r.most 0)) (u := (r.ahead ++ a).drop (m : Int).toNat) (by omega)
      have hi := feed_inv (r := { r with ahead := [], hd := ⟨st, len, ch, cl⟩, whole := true, body := some (newD ch len (max r.most 0)) }) ⟨h.e0, h.e1, fun d hd => by injection hd with hd; subst hd; exact inv_new _ _ _, fun _ _ h => by cases h⟩ (inv_new ch len (max r.most 0)) (show feedR _ _ _ = some r1 from hf)
      refine ⟨r1, h6.trans hf, hi.1, ?_, hi.2.2, fun x hx => by have := hfa _ _ _ _ hf x hx; cases this⟩
      have h7 := hi.2.1
      simp only [List.length_nil] at h7
      omega
    · rw [if_neg hs] at h6
      refine ⟨{ r with ahead := [], hd := ⟨st, len, ch, cl⟩, whole := true, e := 14 }, h6.trans (congrArg some (if_neg (by decide))), ⟨(show (0 : Int) ≤ 14 by decide), (show (14 : Int) ≤ 26 by decide), h.body, fun h => absurd h (show ¬ (14 : Int) = 0 by decide)⟩, ?_, rfl, fun x hx => by cases hx⟩
      unfold sizeR
      simp only [List.length_nil]
      omega
/-- What one is that has been told of the end. -/
theorem endR_all {r : R} (h : InvR r) (hn : r.ended = false) : (endR r).over = true ∧ 0 ≤ (endR r).e ∧ (endR r).e ≤ 26 ∧ ∀ d, (endR r).body = some d → d.body.length ≤ sizeR r := by
  have hbl : ∀ d, r.body = some d → d.body.length ≤ sizeR r := fun d hd => by unfold sizeR; rw [hd]; show d.body.length ≤ r.ahead.length + (d.line.length + d.body.length); omega
  unfold endR
  by_cases h1 : r.e ≠ 0 ∨ r.ended = true
  · rw [if_pos h1]
    have he : r.e ≠ 0 := h1.resolve_right (by rw [hn]; decide)
    exact ⟨by unfold R.over; rw [if_neg he], h.e0, h.e1, hbl⟩
  rw [if_neg h1]
  have he : r.e = 0 := Classical.byContradiction fun h => h1 (.inl h)
  by_cases hw : r.whole = false
  · rw [if_pos hw]
    exact ⟨rfl, (show (0 : Int) ≤ 15 by decide), (show (15 : Int) ≤ 26 by decide), hbl⟩
  rw [if_neg hw]
  cases hb : r.body with
  | none => exact absurd hb (h.wb he (by simpa using hw))
  | some d =>
    have hd := inv_end (h.body d hb)
    have hbe : (endD d).body = d.body := by unfold endD; split; rfl; split <;> rfl
    have hbl2 : ∀ d', some (endD d) = some d' → d'.body.length ≤ sizeR r := fun d' hd' => by injection hd' with hd'; subst hd'; rw [hbe]; exact hbl d hb
    show (if (endD d).e = 0 then ({ r with ended := true, body := some (endD d) } : R) else { r with ended := true, body := some (endD d), e := (endD d).e, ahead := [] }).over = true ∧ 0 ≤ (if (endD d).e = 0 then ({ r with ended := true, body := some (endD d) } : R) else { r with ended := true, body := some (endD d), e := (endD d).e, ahead := [] }).e ∧ (if (endD d).e = 0 then ({ r with ended := true, body := some (endD d) } : R) else { r with ended := true, body := some (endD d), e := (endD d).e, ahead := [] }).e ≤ 26 ∧ ∀ d', (if (endD d).e = 0 then ({ r with ended := true, body := some (endD d) } : R) else { r with ended := true, body := some (endD d), e := (endD d).e, ahead := [] }).body = some d' → d'.body.length ≤ sizeR r
    by_cases hz : (endD d).e = 0
    · rw [if_pos hz]
      refine ⟨?_, h.e0, h.e1, hbl2⟩
      unfold R.over
      rw [if_pos he]
      exact hd.2.resolve_right fun h => h hz
    · rw [if_neg hz]
      refine ⟨?_, hd.1.e0, hd.1.e1, hbl2⟩
      unfold R.over
      rw [if_neg hz]
/-- The law: at once, or in three pieces. -/
theorem once_plain (most : Int) (l0 : List Int) (hl : l0.length ≤ 12000) (hw : Byts l0) (a b : Nat) (hab : a ≤ b) (hb : b ≤ l0.length) :
    ∃ R1 q1 q2, pushR Pt (newR most) l0 = some R1 ∧ pushR Pt (newR most) (l0.take a) = some q1 ∧ pushR Pt q1 ((l0.drop a).take (b - a)) = some q2 ∧ pushR Pt q2 (l0.drop b) = some R1 ∧
      InvR R1 ∧ R1.ended = false ∧ sizeR R1 ≤ 12000 ∧ sizeR q1 ≤ 12000 ∧ sizeR q2 ≤ 12000 ∧ Byts q1.ahead ∧ Byts q2.ahead := by
  have h0 : sizeR (newR most) = 0 := rfl
  have s1 : (l0.take a).length = a := by rw [List.length_take]; omega
  have s2 : ((l0.drop a).take (b - a)).length = b - a := by rw [List.length_take, List.length_drop]; omega
  have s3 : (l0.drop b).length = l0.length - b := List.length_drop
  obtain ⟨q1, p1, i1, z1, n1, m1⟩ := pushR_all (a := l0.take a) (inv_newR most) (by omega)
  obtain ⟨q2, p2, i2, z2, n2, m2⟩ := pushR_all (a := (l0.drop a).take (b - a)) i1 (by omega)
  obtain ⟨R1, p3, i3, z3, n3, m3⟩ := pushR_all (a := l0.drop b) i2 (by omega)
  have hj : l0 = l0.take a ++ ((l0.drop a).take (b - a) ++ l0.drop b) := by
    have e1 : (l0.drop a).take (b - a) ++ l0.drop b = l0.drop a := by
      have : l0.drop b = (l0.drop a).drop (b - a) := by rw [List.drop_drop]; congr 1; omega
      rw [this, List.take_append_drop]
    rw [e1, List.take_append_drop]
  have hall : pushR Pt (newR most) l0 = some R1 := by
    rw [hj, pushR_app _ (inv_newR most) p1, pushR_app _ i1 p2]
    exact p3
  have w1 : Byts q1.ahead := fun x hx => by
    rcases m1 x hx with h | h
    · cases h
    · exact hw x (List.mem_of_mem_take h)
  have w2 : Byts q2.ahead := fun x hx => by
    rcases m2 x hx with h | h
    · exact w1 x h
    · exact hw x (List.mem_of_mem_drop (List.mem_of_mem_take h))
  exact ⟨R1, q1, q2, hall, p1, p2, p3, i3, n3.trans (n2.trans n1), by omega, by omega, by omega, w1, w2⟩
end Go.Proofs.YtfpcoanlkfgagaaGreatDoor.RdrU
