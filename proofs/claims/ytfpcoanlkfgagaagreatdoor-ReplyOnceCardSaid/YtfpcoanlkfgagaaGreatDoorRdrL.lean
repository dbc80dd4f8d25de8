/- The plain law of the reader: what comes in pieces is what comes at once; when it has been told of the end it is over. -/
import Derived.Test.YtfpcoanlkfgagaaGreatDoorRdrP
import Derived.Test.YtfpcoanlkfgagaaGreatDoorHPlain
namespace Go.Proofs.YtfpcoanlkfgagaaGreatDoor.RdrL
open Go.RowKit Go.Proofs.YtfpcoanlkfgagaaGreatDoor.Dec Go.Proofs.YtfpcoanlkfgagaaGreatDoor.DecS Go.Proofs.YtfpcoanlkfgagaaGreatDoor.DecR Go.Proofs.YtfpcoanlkfgagaaGreatDoor.DecQ Go.Proofs.YtfpcoanlkfgagaaGreatDoor.DecE Go.Proofs.YtfpcoanlkfgagaaGreatDoor.Rdr Go.Proofs.YtfpcoanlkfgagaaGreatDoor.RdrP
set_option linter.unusedVariables false
set_option linter.unusedSimpArgs false
theorem push_app {num : List Int → Option (Int × Bool)} {tr : List Int → Option Nat} (v : List Int) : ∀ (u : List Int) (d : D), push num tr d (u ++ v) = (push num tr d u).bind fun x => (push num tr x.1 v).map fun y => (y.1, x.2 + y.2)
  | [], d => by
    simp only [List.nil_append, push, Option.bind_some, Nat.zero_add]
    cases push num tr d v <;> rfl
  | c :: l, d => by
    by_cases hn : d.st = .nil
    · rw [push_nil hn, push_nil hn]
      simp only [Option.bind_some, push_nil hn, Option.map_some, Nat.add_zero]
    · simp only [List.cons_append, push, if_neg hn]
      cases hs : Dec.step num tr d c with
      | none => rfl
      | some d1 =>
        simp only [push_app v l d1]
        cases h1 : push num tr d1 l with
        | none => rfl
        | some x =>
          simp only [Option.bind_some, Option.map_some]
          cases h2 : push num tr x.1 v with
          | none => rfl
          | some y => simp only [Option.map_some]; congr 2; omega
/-- What holds of a decoder at all times. -/
structure InvD (d : D) : Prop where
  over : d.st = .nil → d.done = true ∨ d.e ≠ 0
  ends : d.e ≠ 0 → d.st = .nil
  e0 : 0 ≤ d.e
  e1 : d.e ≤ 26
theorem inv_new (ch : Bool) (len m : Int) : InvD (newD ch len m) := by
  unfold newD D0 D.wrong D.ends
  repeat' split
  all_goals constructor <;> simp
theorem inv_step {num : List Int → Option (Int × Bool)} {tr : List Int → Option Nat} {d d' : D} {c : Int} (h : InvD d) (hn : d.st ≠ .nil) (hs : Dec.step num tr d c = some d') : InvD d' := by
  have he : d.e = 0 := Classical.byContradiction fun x => hn (h.ends x)
  unfold Dec.step at hs
  cases hst : d.st <;> simp only [hst] at hs
  · exact absurd hst hn
  · split at hs
    · obtain ⟨x, _, rfl⟩ := Option.map_eq_some_iff.1 hs
      unfold sized
      repeat' split
      all_goals constructor <;> simp [D.nolines, D.wrong, D.more, D.go, D.addline, he]
    · obtain rfl := Option.some.inj hs
      split
      all_goals constructor <;> simp [D.wrong, D.addline, he, hst]
  · obtain rfl := Option.some.inj hs
    split
    all_goals constructor <;> simp [D.put, D.less, D.ends, he, hst]
  · obtain rfl := Option.some.inj hs
    split
    all_goals constructor <;> simp [D.put, D.wrong, he, hst]
  · obtain rfl := Option.some.inj hs
    split
    all_goals constructor <;> simp [D.put, D.less, D.go, he, hst]
  · split at hs
    · obtain rfl := Option.some.inj hs
      constructor <;> simp [D.tails, D.wrong]
    · split at hs
      · obtain ⟨x, _, rfl⟩ := Option.map_eq_some_iff.1 hs
        unfold trailed
        repeat' split
        all_goals constructor <;> simp [D.nolines, D.wrong, D.ends, D.tails, D.addline, he, hst]
      · obtain rfl := Option.some.inj hs
        constructor <;> simp [D.tails, D.addline, he, hst]
  · obtain rfl := Option.some.inj hs
    split
    all_goals constructor <;> simp [D.go, D.wrong, he]
  · obtain rfl := Option.some.inj hs
    split
    all_goals constructor <;> simp [D.go, D.wrong, he]
theorem inv_push {num : List Int → Option (Int × Bool)} {tr : List Int → Option Nat} : ∀ (l : List Int) (d r : D) (k : Nat), InvD d → push num tr d l = some (r, k) → InvD r ∧ r.line.length + r.body.length ≤ d.line.length + d.body.length + l.length ∧ k ≤ l.length
  | [], d, r, k, h, hp => by
    simp only [push, Option.some.injEq, Prod.mk.injEq] at hp
    obtain ⟨rfl, rfl⟩ := hp
    exact ⟨h, Nat.le_refl _, Nat.le_refl _⟩
  | c :: l, d, r, k, h, hp => by
    by_cases hn : d.st = .nil
    · rw [push_nil hn] at hp
      simp only [Option.some.injEq, Prod.mk.injEq] at hp
      obtain ⟨rfl, rfl⟩ := hp
      exact ⟨h, Nat.le_add_right _ _, Nat.zero_le _⟩
    · simp only [push, if_neg hn] at hp
      cases hs : Dec.step num tr d c with
      | none => rw [hs] at hp; cases hp
      | some d1 =>
        rw [hs] at hp
        obtain ⟨⟨r1, k1⟩, h1, h2⟩ := Option.map_eq_some_iff.1 hp
        simp only [Prod.mk.injEq] at h2
        obtain ⟨rfl, rfl⟩ := h2
        have h3 := inv_push l d1 r1 k1 (inv_step h hn hs) h1
        have h4 := step_len hs
        simp only [List.length_cons]
        exact ⟨h3.1, by omega, by omega⟩
theorem inv_end {d : D} (h : InvD d) : InvD (endD d) ∧ ((endD d).done = true ∨ (endD d).e ≠ 0) := by
  unfold endD
  by_cases h1 : d.st = .nil
  · rw [if_pos h1]; exact ⟨h, h.over h1⟩
  · rw [if_neg h1]
    have he : d.e = 0 := Classical.byContradiction fun x => h1 (h.ends x)
    split
    · exact ⟨by constructor <;> simp [D.ends, he], .inl rfl⟩
    · exact ⟨by constructor <;> simp [D.wrong], .inr (by simp [D.wrong])⟩
theorem wr_add (a b c : Int) : wr (wr (a + wr b) + wr c) = wr (a + wr (b + c)) := by unfold wr; omega
/-- What was fed in two pieces. -/
theorem feed_app {P : List Int → Option Ans} {r r1 : R} {d : D} {u v : List Int} (hd : InvD d) (he : r.e = 0) (hn : r.ended = false) (hw : r.whole = true) (h : feedR r d u = some r1) : feedR r d (u ++ v) = pushR P r1 v := by
  obtain ⟨⟨d1, k1⟩, h1, h2⟩ := Option.map_eq_some_iff.1 h
  have hi := inv_push u d d1 k1 hd h1
  unfold feedR
  rw [push_app, h1, Option.bind_some]
  simp only at h2 ⊢
  subst h2
  unfold fedR
  by_cases hz : d1.e = 0
  · simp only [if_pos hz]
    unfold pushR
    rw [if_neg (by simp [he, hn]), if_pos hw]
    simp only [feedR, Option.map_map]
    cases push num tr d1 v with
    | none => rfl
    | some x =>
      simp only [Option.map_some, Function.comp, fedR]
      by_cases hx : x.1.e = 0
      · simp only [if_pos hx]
        have h3 : (((u ++ v).length : Nat) : Int) - ((k1 + x.2 : Nat) : Int) = ((u.length : Int) - k1) + ((v.length : Int) - x.2) := by rw [List.length_append]; omega
        rw [h3, wr_add]
      · simp only [if_neg hx]
  · simp only [if_neg hz]
    unfold pushR
    rw [if_pos (.inl hz), push_nil (hi.1.ends hz)]
    simp only [Option.map_some, if_neg hz]
/-- What head.Parse answers, plainly. -/
def Pt (l : List Int) : Option Ans := some (Plain.parseT (Lib.bytesOf l))
theorem bytesOf_app (a b : List Int) : Lib.bytesOf (a ++ b) = Lib.bytesOf a ++ Lib.bytesOf b := by simp [Lib.bytesOf]
theorem bytesOf_len (a : List Int) : (Lib.bytesOf a).length = a.length := by simp [Lib.bytesOf]
theorem readS_e (b : List UInt8) : 0 ≤ (Plain.readS b).1 ∧ (Plain.readS b).1 ≤ 26 := by
  unfold Plain.readS Plain.bigE
  repeat' split
  all_goals simp
theorem parse_e (b : List UInt8) : 0 ≤ (Plain.parseT b).2.2.2.2.2 ∧ (Plain.parseT b).2.2.2.2.2 ≤ 26 := by
  have h := readS_e b
  unfold Plain.parseT
  cases hr : Plain.readS b with
  | mk e o =>
    rw [hr] at h
    cases o with
    | none => exact h
    | some x =>
      obtain ⟨s, l, m⟩ := x
      show 0 ≤ (Plain.parseW s l m).2.2.2.2.2 ∧ (Plain.parseW s l m).2.2.2.2.2 ≤ 26
      unfold Plain.parseW Plain.wrongT
      repeat' split
      all_goals simp
structure InvR (r : R) : Prop where
  e0 : 0 ≤ r.e
  e1 : r.e ≤ 26
  body : ∀ d, r.body = some d → InvD d
  wb : r.e = 0 → r.whole = true → r.body ≠ none
theorem inv_newR (most : Int) : InvR (newR most) := ⟨Int.le_refl 0, (show (0 : Int) ≤ 26 by decide), (fun d h => nomatch (show (none : Option D) = some d from h)), fun _ h => Bool.noConfusion (show false = true from h)⟩
theorem feed_inv {r r1 : R} {d : D} {u : List Int} (hr : InvR r) (hd : InvD d) (h : feedR r d u = some r1) : InvR r1 ∧ sizeR r1 ≤ r.ahead.length + (d.line.length + d.body.length) + u.length ∧ r1.ended = r.ended := by
  obtain ⟨⟨d1, k1⟩, h1, h2⟩ := Option.map_eq_some_iff.1 h
  have hi := inv_push u d d1 k1 hd h1
  simp only at h2
  subst h2
  unfold fedR
  by_cases hz : d1.e = 0
  · rw [if_pos hz]
    refine ⟨⟨hr.e0, hr.e1, fun d h => ?_, fun _ _ h => by cases h⟩, ?_, rfl⟩
    · injection h with h; subst h; exact hi.1
    · unfold sizeR; simp only; omega
  · rw [if_neg hz]
    refine ⟨⟨hi.1.e0, hi.1.e1, fun d h => ?_, fun _ _ h => by cases h⟩, ?_, rfl⟩
    · injection h with h; subst h; exact hi.1
    · unfold sizeR; simp only [List.length_nil]; omega
/-- The answer of head.Parse, in its three forms. -/
theorem pt_cases (l : List Int) : (Pt l = some (0, 0, false, false, 0, 0)) ∨ (∃ e, e ≠ 0 ∧ 0 ≤ e ∧ e ≤ 26 ∧ Pt l = some (0, 0, false, false, 0, e) ∧ ∀ x, Pt (l ++ x) = Pt l) ∨ ∃ st len ch cl, ∃ m : Nat, 0 < m ∧ m ≤ l.length ∧ Pt l = some (st, len, ch, cl, (m : Int), 0) ∧ ∀ x, Pt (l ++ x) = Pt l := by
  have hpre : Plain.parseT (Lib.bytesOf l) ≠ Plain.wrongT 0 → ∀ x, Pt (l ++ x) = Pt l := fun h x => by unfold Pt; rw [bytesOf_app, Plain.parseT_pre _ _ h]
  have he := parse_e (Lib.bytesOf l)
  rcases Plain.parseT_cases (Lib.bytesOf l) with ⟨e, h⟩ | ⟨h1, m, h2, h3, h4⟩
  · by_cases h0 : e = 0
    · subst h0; exact .inl (congrArg some h)
    · rw [h] at he
      refine .inr (.inl ⟨e, h0, he.1, he.2, congrArg some h, hpre ?_⟩)
      rw [h]
      intro hh
      exact h0 (congrArg (fun t : Plain.Told => t.2.2.2.2.2) hh)
  · have hne : Plain.parseT (Lib.bytesOf l) ≠ Plain.wrongT 0 := by
      intro hh
      rw [hh] at h2
      have : (0 : Int) = (m : Int) := h2
      omega
    rw [bytesOf_len] at h4
    refine .inr (.inr ⟨(Plain.parseT (Lib.bytesOf l)).1, (Plain.parseT (Lib.bytesOf l)).2.1, (Plain.parseT (Lib.bytesOf l)).2.2.1, (Plain.parseT (Lib.bytesOf l)).2.2.2.1, m, h3, h4, ?_, hpre hne⟩)
    unfold Pt
    rw [← h2, ← h1]
theorem pushR_over {P : List Int → Option Ans} {r : R} (h : r.e ≠ 0 ∨ r.ended = true) (v : List Int) : pushR P r v = some r := by unfold pushR; rw [if_pos h]
theorem pushR_app {r r1 : R} {a : List Int} (b : List Int) (h : InvR r) (hp : pushR Pt r a = some r1) : pushR Pt r (a ++ b) = pushR Pt r1 b := by
  by_cases h1 : r.e ≠ 0 ∨ r.ended = true
  · rw [pushR_over h1] at hp ⊢
    obtain rfl := Option.some.inj hp
    rw [pushR_over h1]
  have he : r.e = 0 := Classical.byContradiction fun h => h1 (.inl h)
  have hn : r.ended = false := by cases hh : r.ended with | false => rfl | true => exact absurd (.inr hh) h1
  by_cases hw : r.whole = true
  · cases hb : r.body with
    | none => exact absurd hb (h.wb he hw)
    | some d =>
      have e1 : ∀ v, pushR Pt r v = feedR r d v := fun v => by unfold pushR; rw [if_neg h1, if_pos hw, hb]
      rw [e1] at hp ⊢
      exact feed_app (h.body d hb) he hn hw hp
  have hw0 : r.whole = false := by simpa using hw
  have e2 : ∀ v t, Pt (r.ahead ++ v) = some t → pushR Pt r v = (if t.2.2.2.2.1 = 0 then some (({ r with ahead := r.ahead ++ v } : R).note t.2.2.2.2.2)
    else if t.2.2.2.2.2 = 0 ∧ 0 ≤ t.2.2.2.2.1 ∧ t.2.2.2.2.1 ≤ (r.ahead ++ v).length then
      (if t.1 = 200 then feedR { r with ahead := [], hd := ⟨t.1, t.2.1, t.2.2.1, t.2.2.2.1⟩, whole := true } (newD t.2.2.1 t.2.1 (max r.most 0)) ((r.ahead ++ v).drop t.2.2.2.2.1.toNat)
       else some (({ r with ahead := [], hd := ⟨t.1, t.2.1, t.2.2.1, t.2.2.2.1⟩, whole := true } : R).note 14))
    else none) := fun v t ht => by unfold pushR; rw [if_neg h1, if_neg hw, ht]; rfl
  rcases pt_cases (r.ahead ++ a) with h2 | ⟨e, h0, _, _, h2, h3⟩ | ⟨st, len, ch, cl, m, h4, h5, h2, h3⟩
  · rw [e2 a _ h2, if_pos rfl] at hp
    obtain rfl := Option.some.inj hp
    have e3 : ({ r with ahead := r.ahead ++ a } : R).note 0 = { r with ahead := r.ahead ++ a } := if_pos rfl
    show _ = pushR Pt (({ r with ahead := r.ahead ++ a } : R).note 0) b
    rw [e3]
    unfold pushR
    rw [if_neg h1, if_neg hw, if_neg (show ¬ (({ r with ahead := r.ahead ++ a } : R).e ≠ 0 ∨ ({ r with ahead := r.ahead ++ a } : R).ended = true) from h1), if_neg (show ¬ ({ r with ahead := r.ahead ++ a } : R).whole = true from hw)]
    simp only [List.append_assoc]
  · rw [e2 a _ h2, if_pos rfl] at hp
    obtain rfl := Option.some.inj hp
    have h6 : Pt (r.ahead ++ (a ++ b)) = some (0, 0, false, false, 0, e) := by rw [← List.append_assoc, h3 b]; exact h2
    rw [e2 _ _ h6, if_pos rfl]
    have e3 : ∀ v, ({ r with ahead := r.ahead ++ v } : R).note e = { r with ahead := [], e := e } := fun v => if_neg h0
    show some (({ r with ahead := r.ahead ++ (a ++ b) } : R).note e) = pushR Pt (({ r with ahead := r.ahead ++ a } : R).note e) b
    rw [e3, e3]
    exact (pushR_over (.inl h0) b).symm
  · have hm0 : ¬ (m : Int) = 0 := by omega
    have h6 : Pt (r.ahead ++ (a ++ b)) = some (st, len, ch, cl, (m : Int), 0) := by rw [← List.append_assoc, h3 b]; exact h2
    have hl : (r.ahead ++ (a ++ b)).length = (r.ahead ++ a).length + b.length := by simp only [List.length_append]; omega
    rw [e2 a _ h2, if_neg hm0, if_pos ⟨rfl, by show (0 : Int) ≤ (m : Int); omega, by show (m : Int) ≤ _; omega⟩] at hp
    rw [e2 _ _ h6, if_neg hm0, if_pos ⟨rfl, by show (0 : Int) ≤ (m : Int); omega, by show (m : Int) ≤ _; omega⟩]
    by_cases hs : st = 200
    · rw [if_pos hs] at hp ⊢
      have e4 : (r.ahead ++ (a ++ b)).drop (m : Int).toNat = (r.ahead ++ a).drop (m : Int).toNat ++ b := by rw [← List.append_assoc, List.drop_append_of_le_length (by simpa using h5)]
      show feedR _ _ ((r.ahead ++ (a ++ b)).drop (m : Int).toNat) = _
      rw [e4]
      exact feed_app (inv_new _ _ _) he hn rfl hp
    · rw [if_neg hs] at hp ⊢
      obtain rfl := Option.some.inj hp
      exact (pushR_over (.inl (by unfold R.note; rw [if_neg (show ¬ (14 : Int) = 0 by decide)]; exact (show (14 : Int) ≠ 0 by decide))) b).symm
end Go.Proofs.YtfpcoanlkfgagaaGreatDoor.RdrL
