/- The reference's Read (as the print has it) reads what rd reads. -/
import Derived.Test.YtpihpkphhkcdlaaGreatDoorRm
import Derived.Test.YtpihpkphhkcdlaaGreatDoorPRx13
import Derived.Test.YtpihpkphhkcdlaaGreatDoorPRx14
import Derived.Test.YtpihpkphhkcdlaaGreatDoorEq
import Derived.Test.YtpihpkphhkcdlaaGreatDoorEn
import Derived.Test.YtpihpkphhkcdlaaGreatDoorPRd
namespace Go.Proofs.YtpihpkphhkcdlaaGreatDoor.Rr
open Go.RowKit Go.Proofs.YtpihpkphhkcdlaaGreatDoorW.PrintWords Go.Proofs.YtpihpkphhkcdlaaGreatDoor.PR Go.Proofs.YtpihpkphhkcdlaaGreatDoor.Tab
set_option linter.unusedVariables false
set_option linter.unusedSimpArgs false
def hv : List UInt8 → Nat
  | [] => 0
  | x :: t => x.toNat % 128 + 128 * hv t
theorem pw7 (n : Nat) : 2 ^ (7 * (n + 1)) = 128 * 2 ^ (7 * n) := by rw [show 7 * (n + 1) = 7 + 7 * n by omega, Nat.pow_add]
theorem hv_snoc : ∀ (l : List UInt8) (x : UInt8), hv (l ++ [x]) = hv l + (x.toNat % 128) * 2 ^ (7 * l.length)
  | [], x => by simp [hv]
  | y :: t, x => by
    rw [List.cons_append, hv, hv, hv_snoc t x, List.length_cons, pw7, Nat.mul_add, ← Nat.add_assoc]
    congr 1
    rw [← Nat.mul_assoc, ← Nat.mul_assoc, Nat.mul_comm 128]
theorem hv_lt : ∀ l : List UInt8, hv l < 2 ^ (7 * l.length)
  | [] => by simp [hv]
  | x :: t => by
    have := hv_lt t
    rw [hv, List.length_cons, pw7]
    omega
theorem hv_or (l : List UInt8) (x : UInt8) : hv l ||| ((x.toNat % 128) * 2 ^ (7 * l.length)) = hv (l ++ [x]) := by
  rw [hv_snoc, Nat.mul_comm, Nat.or_comm, ← Nat.two_pow_add_eq_or_of_lt (hv_lt l), Nat.add_comm]
theorem hv_drop : ∀ (l : List UInt8) (j : Nat), hv (l.drop j) ≤ hv l
  | [], j => by simp
  | x :: t, 0 => by simp
  | x :: t, j + 1 => by
    rw [List.drop_succ_cons, hv]
    have := hv_drop t j
    omega
abbrev conv (r : Nat × Nat × Int) : Int × Int × Int := ((r.1 : Int), (r.2.1 : Int), r.2.2)
theorem uw (x : Int) (h0 : 0 ≤ x) (h1 : x < 18446744073709551616) : IntKind.u64.wrap x = x := by
  unfold IntKind.wrap
  simp [IntKind.bits, IntKind.signed]
  omega
theorem rd_at (bs : List UInt8) (j : Nat) (h : j < bs.length) : Go.Proofs.YtpihpkphhkcdlaaGreatDoorW.PrintWords.rd (nb bs) (j : Int) = ((bs[j]).toNat : Int) := by simp [Go.Proofs.YtpihpkphhkcdlaaGreatDoorW.PrintWords.rd, nb, List.getD, h]
theorem l1_ev (bs : List UInt8) (n : Nat) (hn : n < bs.length) (h9 : n ≤ 9) (hb : hv (bs.take (n + 1)) < 18446744073709551616) : ∀ j : Nat, j ≤ n + 1 → Ev (fun k => odometerref02_Read.l1 k (nb bs) (n : Int) (hv ((bs.take (n + 1)).drop j) : Int) ((j : Int) - 1)) (conv (hv (bs.take (n + 1)), n + 1, 0)) := by
  have hl : (nb bs).length = bs.length := by simp [nb]
  intro j
  induction j with
  | zero =>
    intro _
    refine Ev.step (f := fun _ => some (conv (hv (bs.take (n + 1)), n + 1, 0))) (fun k => ?_) (Ev.now _)
    rw [odometerref02_Read.l1, if_neg (by omega), List.drop_zero]
    have : wrap64 ((n : Int) + 1) = ((n + 1 : Nat) : Int) := by unfold wrap64; omega
    rw [this]
  | succ j ih =>
    intro hj
    have hjl : j < bs.length := by omega
    refine Ev.step (fun k => ?_) (ih (by omega))
    have hjn : (((j + 1 : Nat) : Int) - 1) = (j : Int) := by omega
    rw [hjn, odometerref02_Read.l1, if_pos (by omega), if_pos (by omega), if_pos (by omega), rd_at bs j hjl]
    have hlt : j < (bs.take (n + 1)).length := by rw [List.length_take]; omega
    have e1 : (bs.take (n + 1)).drop j = bs[j] :: (bs.take (n + 1)).drop (j + 1) := by
      rw [List.drop_eq_getElem_cons hlt, List.getElem_take]
    have hd := hv_drop (bs.take (n + 1)) j
    rw [e1, hv] at hd
    rw [e1, hv]
    have e2 : Int.tmod ((bs[j]).toNat : Int) 128 = (((bs[j]).toNat % 128 : Nat) : Int) := by rw [Int.tmod_eq_emod_of_nonneg (by omega)]; omega
    have a1 := uw (128 * ((hv ((bs.take (n + 1)).drop (j + 1)) : Nat) : Int)) (by omega) (by omega)
    have a2 := uw ((((bs[j]).toNat % 128 : Nat)) : Int) (by omega) (by omega)
    have a3 := uw (128 * ((hv ((bs.take (n + 1)).drop (j + 1)) : Nat) : Int) + (((bs[j]).toNat % 128 : Nat) : Int)) (by omega) (by omega)
    rw [e2, a1, a2, a3]
    have e3 : wrap64 ((j : Int) - 1) = (j : Int) - 1 := by unfold wrap64; omega
    rw [e3]
    congr 1
    omega
theorem rd_cons (i n : Nat) (x : UInt8) (t : List UInt8) : Rdn.rd i n (x :: t) = if i = 9 ∧ 1 < x.toNat then (0, 0, 4) else if x.toNat = 0 ∧ 0 < i then (0, 0, 4) else if x.toNat < 128 then (n ||| ((x.toNat % 128) * 2 ^ (7 * i)), i + 1, 0) else Rdn.rd (i + 1) (n ||| ((x.toNat % 128) * 2 ^ (7 * i))) t := rfl
theorem rd_nil (i n : Nat) : Rdn.rd i n [] = (0, 0, 11) := rfl
/-- What is still to be read. -/
def Inv (bs : List UInt8) (i : Nat) : Prop := (i ≤ 9 ∧ Rdn.rd 0 0 bs = Rdn.rd i (hv (bs.take i)) (bs.drop i)) ∨ (i = 10 ∧ Rdn.rd 0 0 bs = (0, 0, 4))
theorem j2_ev (bs : List UInt8) (i : Nat) (hi : i < bs.length) (h9 : i ≤ 9) (h : Rdn.rd 0 0 bs = (hv (bs.take (i + 1)), i + 1, 0)) : Ev (fun k => odometerref02_Read.j2 k (nb bs) (i : Int) false) (conv (Rdn.rd 0 0 bs)) := by
  have hb := (Pk.rd_bd bs).1
  rw [h] at hb ⊢
  have h1 := l1_ev bs i hi h9 hb (i + 1) (Nat.le_refl _)
  refine Ev.step (fun k => ?_) h1
  rw [odometerref02_Read.j2, if_neg (by simp), List.drop_of_length_le (by rw [List.length_take]; omega)]
  rw [show (((i + 1 : Nat) : Int) - 1) = (i : Int) by omega]
  rfl
theorem j1_ev (bs : List UInt8) (i : Nat) (hi : i ≤ bs.length) (hI : Inv bs i) (hlt : ∀ h : i < bs.length, i ≤ 9 → (bs[i]).toNat < 128) : Ev (fun k => odometerref02_Read.j1 k (nb bs) (i : Int)) (conv (Rdn.rd 0 0 bs)) := by
  have hl : (nb bs).length = bs.length := by simp [nb]
  rcases hI with ⟨h9, h⟩ | ⟨rfl, h⟩
  · by_cases h2 : i < bs.length
    · have hx := hlt h2 h9
      have hr := rd_at bs i h2
      have hxl := (bs[i]).toNat_lt
      rw [List.drop_eq_getElem_cons h2, rd_cons] at h
      have ho : hv (bs.take i) ||| (((bs[i]).toNat % 128) * 2 ^ (7 * i)) = hv (bs.take (i + 1)) := by
        have := hv_or (bs.take i) bs[i]
        rw [List.length_take, Nat.min_eq_left (by omega), ← List.take_succ_eq_append_getElem h2] at this
        exact this
      rw [ho] at h
      by_cases c1 : i = 9 ∧ 1 < (bs[i]).toNat
      · obtain ⟨rfl, c2⟩ := c1
        rw [if_pos ⟨rfl, c2⟩] at h
        rw [h]
        refine Ev.step (f := fun k => odometerref02_Read.j2 k (nb bs) ((9 : Nat) : Int) true) (fun k => ?_) (Ev.step (f := fun _ => some (0, 0, 4)) (fun k => ?_) (Ev.now _))
        · rw [odometerref02_Read.j1, if_neg (by omega), if_neg (by omega), if_pos (by omega), if_pos (by omega)]
          have hr' : Go.Proofs.YtpihpkphhkcdlaaGreatDoorW.PrintWords.rd (nb bs) 9 = ((bs[9]).toNat : Int) := hr
          rw [hr', if_pos (by omega)]
        · rw [odometerref02_Read.j2, if_pos rfl]
      · rw [if_neg c1] at h
        have hgo : ∀ k, odometerref02_Read.j1 (k + 1) (nb bs) (i : Int) = odometerref02_Read.j2 k (nb bs) (i : Int) (decide ((bs[i]).toNat = 0 ∧ 0 < i)) := fun k => by
          rw [odometerref02_Read.j1, if_neg (by omega), if_neg (by omega)]
          by_cases c9 : i = 9
          · subst c9
            have hr' : Go.Proofs.YtpihpkphhkcdlaaGreatDoorW.PrintWords.rd (nb bs) 9 = ((bs[9]).toNat : Int) := hr
            rw [if_pos (by omega), if_pos (by omega), hr', if_neg (by omega), if_pos (by omega), if_pos (by omega), if_pos (by omega), hr]
            congr 1
            rw [Bool.eq_iff_iff]
            simp
          · rw [if_neg (by omega)]
            by_cases c0 : 0 < i
            · rw [if_pos (by omega), if_pos (by omega), if_pos (by omega), hr]
              congr 1
              rw [Bool.eq_iff_iff]
              simp [c0]
            · rw [if_neg (by omega)]
              congr 1
              simp [c0]
        refine Ev.step hgo ?_
        by_cases c2 : (bs[i]).toNat = 0 ∧ 0 < i
        · rw [if_pos c2] at h
          rw [h, decide_eq_true c2]
          exact Ev.step (f := fun _ => some (0, 0, 4)) (fun k => by rw [odometerref02_Read.j2, if_pos rfl]) (Ev.now _)
        · rw [if_neg c2, if_pos hx] at h
          rw [decide_eq_false c2]
          exact j2_ev bs i h2 h9 h
    · rw [List.drop_of_length_le (by omega), rd_nil] at h
      rw [h]
      refine Ev.step (f := fun _ => some (0, 0, 11)) (fun k => ?_) (Ev.now _)
      rw [odometerref02_Read.j1, if_neg (by omega), if_pos (by omega)]
  · rw [h]
    refine Ev.step (f := fun _ => some (0, 0, 4)) (fun k => ?_) (Ev.now _)
    rw [odometerref02_Read.j1, if_pos (by omega)]
theorem l0_ev (bs : List UInt8) : ∀ (d i : Nat), i + d = 10 → i ≤ bs.length → Inv bs i → Ev (fun k => odometerref02_Read.l0 k (nb bs) (i : Int)) (conv (Rdn.rd 0 0 bs)) := by
  have hl : (nb bs).length = bs.length := by simp [nb]
  intro d
  induction d with
  | zero =>
    intro i hd hi hI
    refine Ev.step (fun k => ?_) (j1_ev bs i hi hI (fun _ h => by omega))
    rw [odometerref02_Read.l0]
    split
    · rw [if_neg (by omega)]
    · rfl
  | succ d ih =>
    intro i hd hi hI
    by_cases h2 : i < bs.length
    · have hr := rd_at bs i h2
      by_cases h128 : 128 ≤ (bs[i]).toNat
      · refine Ev.step (fun k => ?_) (ih (i + 1) (by omega) (by omega) ?_)
        · rw [odometerref02_Read.l0, if_pos (by omega), if_pos (by omega), if_pos (by omega), hr, if_pos (by omega)]
          rw [show wrap64 ((i : Int) + 1) = ((i + 1 : Nat) : Int) by unfold wrap64; omega]
        · rcases hI with ⟨h9, h⟩ | ⟨h10, h⟩
          · rw [List.drop_eq_getElem_cons h2, rd_cons] at h
            have ho : hv (bs.take i) ||| (((bs[i]).toNat % 128) * 2 ^ (7 * i)) = hv (bs.take (i + 1)) := by
              have := hv_or (bs.take i) bs[i]
              rw [List.length_take, Nat.min_eq_left (by omega), ← List.take_succ_eq_append_getElem h2] at this
              exact this
            rw [ho] at h
            by_cases c9 : i = 9
            · rw [if_pos ⟨c9, by omega⟩] at h
              exact .inr ⟨by omega, h⟩
            · rw [if_neg (by omega), if_neg (by omega), if_neg (by omega)] at h
              exact .inl ⟨by omega, h⟩
          · omega
      · refine Ev.step (fun k => ?_) (j1_ev bs i hi hI (fun _ _ => by omega))
        rw [odometerref02_Read.l0, if_pos (by omega), if_pos (by omega), if_pos (by omega), hr, if_neg (by omega)]
    · refine Ev.step (fun k => ?_) (j1_ev bs i hi hI (fun h _ => absurd h h2))
      rw [odometerref02_Read.l0, if_neg (by omega)]
/-- The document's Read. -/
theorem read_ev (bs : List UInt8) : Ev (fun k => odometerref02_Read.f k (nb bs)) (conv (Rdn.rd 0 0 bs)) := l0_ev bs 10 0 rfl (Nat.zero_le _) (.inl ⟨by omega, rfl⟩)
end Go.Proofs.YtpihpkphhkcdlaaGreatDoor.Rr
namespace Go.Proofs.YtpihpkphhkcdlaaGreatDoor.Rg
open Go.RowKit Go.Proofs.YtpihpkphhkcdlaaGreatDoorW.PrintWords Go.Proofs.YtpihpkphhkcdlaaGreatDoor.PR Go.Proofs.YtpihpkphhkcdlaaGreatDoor.Tab Go.Proofs.YtpihpkphhkcdlaaGreatDoor.Pd Go.Proofs.YtpihpkphhkcdlaaGreatDoor.Rr Go.Proofs.YtpihpkphhkcdlaaGreatDoor.Eq
set_option linter.unusedVariables false
set_option linter.unusedSimpArgs false
theorem nb_drop (b : List UInt8) (i : Nat) : (nb b).drop i = nb (b.drop i) := by unfold nb; rw [List.map_drop]
theorem nb_take (b : List UInt8) (i : Nat) : (nb b).take i = nb (b.take i) := by unfold nb; rw [List.map_take]
theorem ck_ne (c e : Int) (h : c ≠ 0) : ck c e ≠ 0 := by unfold ck; rw [if_pos h]; exact h
theorem ck_zero (e : Int) : ck 0 e = 0 ↔ e = 0 := by
  unfold ck
  rw [if_neg (by simp)]
  by_cases h : e = 11
  · rw [if_pos h]; subst h; simp
  · rw [if_neg h]
    by_cases h2 : e ≠ 0
    · rw [if_pos h2]; simp; exact h2
    · rw [if_neg h2]; simp; omega
theorem tk_err (s : S) (n : Nat) (e : Int) (h : s.2 ≠ 0) : (tk s n e).2 ≠ 0 := ck_ne _ _ h
theorem numP_err (s : S) (h : s.2 ≠ 0) : (numP s).2.2 ≠ 0 := tk_err s _ _ h
theorem sgP_err (s : S) (h : s.2 ≠ 0) : (sgP s).2.2 ≠ 0 := tk_err s _ _ h
theorem txP_err (s : S) (h : s.2 ≠ 0) : (txP s).2.2 ≠ 0 := tk_err s _ _ h
theorem flP_err (s : S) (h : s.2 ≠ 0) : (flP s).2.2 ≠ 0 := by
  unfold flP
  split
  · exact tk_err s _ _ h
  · exact tk_err s _ _ h
theorem recP_err (s : S) (h : s.2 ≠ 0) : (recP s).2.2 ≠ 0 := flP_err _ (numP_err _ (numP_err _ (txP_err s h)))
theorem recsP_err : ∀ (k : Nat) (s : S), s.2 ≠ 0 → (recsP k s).2.2 ≠ 0
  | 0, s, h => h
  | k + 1, s, h => by unfold recsP; rw [if_pos h]; exact h
/-- A number at a place. -/
theorem num_spec (b : List UInt8) (hb : b.length ≤ 1000000) (at_ : Nat) (hat : at_ ≤ b.length) :
    (∃ n sz, n < 18446744073709551616 ∧ at_ + sz ≤ b.length ∧ 0 < sz ∧ numP (b.drop at_, 0) = (n, (b.drop (at_ + sz), 0)) ∧ sgP (b.drop at_, 0) = (zig n, (b.drop (at_ + sz), 0)) ∧ Rdn.rd 0 0 (b.drop at_) = (n, sz, 0) ∧ Ev (fun k => odometerref20_number.f k (nb b) (at_ : Int)) ((n : Int), ((at_ + sz : Nat) : Int), 0)) ∨
    ((numP (b.drop at_, 0)).2.2 ≠ 0 ∧ (sgP (b.drop at_, 0)).2.2 ≠ 0 ∧ (Rdn.rd 0 0 (b.drop at_)).2.2 ≠ 0 ∧ ∃ n m e, e ≠ 0 ∧ Ev (fun k => odometerref20_number.f k (nb b) (at_ : Int)) (n, m, e)) := by
  have hbd := Pk.rd_bd (b.drop at_)
  have hev := read_ev (b.drop at_)
  obtain ⟨⟨n, sz, e⟩, hr⟩ : ∃ r, r = Rdn.rd 0 0 (b.drop at_) := ⟨_, rfl⟩
  rw [← hr] at hbd hev
  dsimp only at hbd
  rw [List.length_drop] at hbd
  have hw : wrap64 ((at_ : Int) + (sz : Int)) = ((at_ + sz : Nat) : Int) := by unfold wrap64; omega
  have hf : Ev (fun k => odometerref20_number.f k (nb b) (at_ : Int)) (if e = 4 then ((n : Int), ((at_ + sz : Nat) : Int), 2) else ((n : Int), ((at_ + sz : Nat) : Int), e)) := by
    refine Ev.congr (f := fun k => (odometerref02_Read.f k (nb (b.drop at_))).bind fun bt => if bt.2.2 = 4 then some (bt.1, wrap64 ((at_ : Int) + bt.2.1), 2) else some (bt.1, wrap64 ((at_ : Int) + bt.2.1), bt.2.2)) (fun k => ?_) ?_
    · unfold odometerref20_number.f
      rw [if_pos (by omega), if_pos (by rw [nb_len]; omega), Int.toNat_natCast, nb_drop]
    · refine Ev.bind hev ?_
      dsimp only
      rw [hw]
      split
      · exact Ev.now _
      · exact Ev.now _
  by_cases he : e = 0
  · subst he
    rw [if_neg (by decide)] at hf
    refine .inl ⟨n, sz, hbd.1, by omega, by have := hbd.2.2.2 rfl; omega, ?_, ?_, hr.symm, hf⟩
    · unfold numP tk
      rw [← hr]
      simp [ck]
    · unfold sgP tk
      rw [← hr]
      simp [ck]
  · refine .inr ⟨?_, ?_, by rw [← hr]; exact he, ?_⟩
    · unfold numP tk
      rw [← hr]
      exact fun h => he ((ck_zero e).1 h)
    · unfold sgP tk
      rw [← hr]
      exact fun h => he ((ck_zero e).1 h)
    · by_cases h4 : e = 4
      · rw [if_pos h4] at hf
        exact ⟨_, _, 2, by decide, hf⟩
      · rw [if_neg h4] at hf
        exact ⟨_, _, e, he, hf⟩
theorem tx_ok (b : List UInt8) (n sz : Nat) (hr : Rdn.rd 0 0 b = (n, sz, 0)) (h1 : n ≤ 65536) (h2 : n ≤ b.length - sz) : txP (b, 0) = (⟨((b.drop sz).take n).toArray⟩, (b.drop (sz + n), 0)) := by
  have ht : txt b = (⟨((b.drop sz).take n).toArray⟩, sz + n, 0) := by
    unfold txt
    rw [hr]
    dsimp only
    rw [if_neg (by simp), if_neg (by omega), if_neg (by omega)]
  unfold txP tk
  dsimp only
  rw [ht]
  simp [ck]
theorem tx_bad (b : List UInt8) (h : (txt b).2.2 ≠ 0) : (txP (b, 0)).2.2 ≠ 0 := by
  unfold txP tk
  exact fun h2 => h ((ck_zero _).1 h2)
theorem fl_nil : (flP ([], 0)).2.2 ≠ 0 := by simp [flP, tk, ck]
theorem fl_bad (x : UInt8) (t : List UInt8) (h : 1 < x.toNat) : (flP (x :: t, 0)).2.2 ≠ 0 := by
  unfold flP tk
  dsimp only
  rw [if_pos h]
  exact fun h2 => absurd ((ck_zero _).1 h2) (by decide)
theorem fl_ok (x : UInt8) (t : List UInt8) (h : ¬ 1 < x.toNat) : flP (x :: t, 0) = (decide (x.toNat = 1), (t, 0)) := by
  unfold flP tk
  dsimp only
  rw [if_neg h]
  simp [ck]
theorem j3_err (l : List Int) (a n e : Int) (nm : ByteArray) (w i r : Int) (o : Bool) (he : e ≠ 0) : Ev (fun k => odometerref20_record.j3 k l a n e nm w i r o) (nm, w, i, r, o, 0, e) :=
  Ev.step (f := fun _ => some (nm, w, i, r, o, 0, e)) (fun k => by rw [odometerref20_record.j3, if_neg he]) (Ev.now _)
theorem j2_go (l : List Int) (a n e : Int) (c : Bool) (nm : ByteArray) (w i r : Int) (o : Bool) (v : ByteArray × Int × Int × Int × Bool × Int × Int) (h : Ev (fun k => odometerref20_record.j3 k l a n (if c = true then 11 else e) nm w i r o) v) : Ev (fun k => odometerref20_record.j2 k l a n e c nm w i r o) v := by
  refine Ev.step (fun k => ?_) h
  rw [odometerref20_record.j2]
  cases c <;> simp
theorem j1_err (l : List Int) (a n e : Int) (nm : ByteArray) (w i r : Int) (o : Bool) (he : e ≠ 0) : Ev (fun k => odometerref20_record.j1 k l a n e nm w i r o) (nm, w, i, r, o, 0, e) := by
  refine Ev.step (fun k => ?_) (j2_go l a n e false nm w i r o _ (by rw [if_neg (by simp)]; exact j3_err l a n e nm w i r o he))
  rw [odometerref20_record.j1, if_neg he]
theorem j0_go (l : List Int) (a n e : Int) (c : Bool) (nm : ByteArray) (w i r : Int) (o : Bool) (v : ByteArray × Int × Int × Int × Bool × Int × Int) (h : Ev (fun k => odometerref20_record.j1 k l a n (if c = true then 2 else e) nm w i r o) v) : Ev (fun k => odometerref20_record.j0 k l a n e c nm w i r o) v := by
  refine Ev.step (fun k => ?_) h
  rw [odometerref20_record.j0]
  cases c <;> simp
/-- A record at a place. -/
theorem rec_spec (b : List UInt8) (hb : b.length ≤ 1000000) (at_ : Nat) (hat : at_ ≤ b.length) (win : Int) :
    (∃ (r : Rec) (a2 : Nat), recP (b.drop at_, 0) = (r, (b.drop a2, 0)) ∧ at_ < a2 ∧ a2 ≤ b.length ∧ Ev (fun k => odometerref20_record.f k (nb b) (at_ : Int) win) (r.name, win, r.inc, r.rate, r.over, (a2 : Int), 0)) ∨
    ((recP (b.drop at_, 0)).2.2 ≠ 0 ∧ ∃ nm w i r o a e, e ≠ 0 ∧ Ev (fun k => odometerref20_record.f k (nb b) (at_ : Int) win) (nm, w, i, r, o, a, e)) := by
  have hnl := nb_len b
  have herr : (txP (b.drop at_, 0)).2.2 ≠ 0 → (recP (b.drop at_, 0)).2.2 ≠ 0 := fun h => flP_err _ (numP_err _ (numP_err _ h))
  rcases num_spec b hb at_ hat with ⟨n, sz, hn, hsz, hsz0, hN, _, hR, hE⟩ | ⟨_, _, hR, n, m, e, he, hE⟩
  · have hgo : ∀ v, Ev (fun k => odometerref20_record.j0 k (nb b) ((at_ + sz : Nat) : Int) (n : Int) 0 (decide ((n : Int) > 65536)) (⟨#[]⟩ : ByteArray) win 0 0 false) v → Ev (fun k => odometerref20_record.f k (nb b) (at_ : Int) win) v := fun v hv => by
      refine Ev.congr (fun k => ?_) (Ev.bind (f := fun k bt => if bt.2.2 = 0 then odometerref20_record.j0 k (nb b) bt.2.1 bt.1 bt.2.2 (decide (bt.1 > 65536)) (⟨#[]⟩ : ByteArray) win 0 0 false else odometerref20_record.j0 k (nb b) bt.2.1 bt.1 bt.2.2 false (⟨#[]⟩ : ByteArray) win 0 0 false) hE ?_)
      · unfold odometerref20_record.f
        rfl
      · exact Ev.congr (fun k => if_pos rfl) hv
    by_cases c1 : 65536 < n
    · refine .inr ⟨herr (tx_bad _ ?_), (⟨#[]⟩ : ByteArray), win, 0, 0, false, 0, 2, by decide, hgo _ (j0_go _ _ _ _ _ _ _ _ _ _ _ ?_)⟩
      · unfold txt
        rw [hR]
        dsimp only
        rw [if_neg (by simp), if_pos c1]
        simp
      · rw [decide_eq_true (show (n : Int) > 65536 by omega), if_pos rfl]
        exact j1_err _ _ _ 2 _ _ _ _ _ (by decide)
    · have hu : IntKind.u64.wrap (wrap64 (((nb b).length : Int) - ((at_ + sz : Nat) : Int))) = ((b.length - (at_ + sz) : Nat) : Int) := by
        have : wrap64 (((nb b).length : Int) - ((at_ + sz : Nat) : Int)) = ((b.length - (at_ + sz) : Nat) : Int) := by unfold wrap64; omega
        rw [this, uw _ (by omega) (by omega)]
      have hgo1 : ∀ v, Ev (fun k => odometerref20_record.j3 k (nb b) ((at_ + sz : Nat) : Int) (n : Int) (if b.length - (at_ + sz) < n then 11 else 0) (⟨#[]⟩ : ByteArray) win 0 0 false) v → Ev (fun k => odometerref20_record.f k (nb b) (at_ : Int) win) v := fun v hv => by
        refine hgo _ (j0_go _ _ _ _ _ _ _ _ _ _ _ ?_)
        rw [decide_eq_false (show ¬ ((n : Int) > 65536) by omega), if_neg (show ¬ (false = true) by simp)]
        refine Ev.step (fun k => ?_) (j2_go (nb b) ((at_ + sz : Nat) : Int) (n : Int) 0 (decide (((b.length - (at_ + sz) : Nat) : Int) < (n : Int))) (⟨#[]⟩ : ByteArray) win 0 0 false v ?_)
        · rw [odometerref20_record.j1, if_pos rfl, hu]
        · by_cases c2 : b.length - (at_ + sz) < n
          · rw [if_pos c2] at hv
            rw [decide_eq_true (show ((b.length - (at_ + sz) : Nat) : Int) < (n : Int) by omega), if_pos rfl]
            exact hv
          · rw [if_neg c2] at hv
            rw [decide_eq_false (show ¬ ((b.length - (at_ + sz) : Nat) : Int) < (n : Int) by omega), if_neg (show ¬ (false = true) by simp)]
            exact hv
      by_cases c2 : b.length - (at_ + sz) < n
      · refine .inr ⟨herr (tx_bad _ ?_), (⟨#[]⟩ : ByteArray), win, 0, 0, false, 0, 11, by decide, hgo1 _ ?_⟩
        · unfold txt
          rw [hR]
          dsimp only
          rw [if_neg (by simp), if_neg c1, if_pos (by rw [List.length_drop]; omega)]
          simp
        · rw [if_pos c2]
          exact j3_err _ _ _ 11 _ _ _ _ _ (by decide)
      · rw [if_neg c2] at hgo1
        have hT := tx_ok (b.drop at_) n sz hR (by omega) (by rw [List.length_drop]; omega)
        rw [List.drop_drop, List.drop_drop, ← Nat.add_assoc] at hT
        obtain ⟨a1, ha1⟩ : ∃ a1, a1 = at_ + sz + n := ⟨_, rfl⟩
        rw [← ha1] at hT
        have hw1 : wrap64 (n : Int) = (n : Int) := by unfold wrap64; omega
        have hw2 : wrap64 (((at_ + sz : Nat) : Int) + (n : Int)) = (a1 : Int) := by unfold wrap64; omega
        have hnm : strOfNums (((nb b).take a1).drop (at_ + sz)) = ⟨((b.drop (at_ + sz)).take n).toArray⟩ := by
          rw [nb_take, nb_drop, strOf_nb, List.drop_take, show a1 - (at_ + sz) = n by omega]
        have hgo2 : ∀ v, Ev (fun k => (odometerref20_number.f k (nb b) (a1 : Int)).bind fun bt279 => (if bt279.2.2 = 0 then ((odometerref20_number.f k (nb b) bt279.2.1).bind fun bt282 => (if bt282.2.2 = 0 then (if bt282.2.1 = ((nb b).length : Int) then (some ((⟨((b.drop (at_ + sz)).take n).toArray⟩ : ByteArray), win, wrap64 (bt279.1), wrap64 (bt282.1), false, (0 : Int), (11 : Int))) else (if 0 ≤ bt282.2.1 then (if bt282.2.1 < ((nb b).length : Int) then (if (Go.Proofs.YtpihpkphhkcdlaaGreatDoorW.PrintWords.rd (nb b) bt282.2.1) > 1 then (some (⟨((b.drop (at_ + sz)).take n).toArray⟩, win, wrap64 (bt279.1), wrap64 (bt282.1), false, 0, 2)) else (some (⟨((b.drop (at_ + sz)).take n).toArray⟩, win, wrap64 (bt279.1), wrap64 (bt282.1), ((Go.Proofs.YtpihpkphhkcdlaaGreatDoorW.PrintWords.rd (nb b) bt282.2.1) == 1), wrap64 (bt282.2.1 + 1), 0))) else (none)) else (none))) else (some (⟨((b.drop (at_ + sz)).take n).toArray⟩, win, 0, 0, false, 0, bt282.2.2)))) else (some (⟨((b.drop (at_ + sz)).take n).toArray⟩, win, 0, 0, false, 0, bt279.2.2)))) v → Ev (fun k => odometerref20_record.f k (nb b) (at_ : Int) win) v := fun v hv => by
          refine hgo1 v (Ev.step (fun k => ?_) hv)
          rw [odometerref20_record.j3, if_pos rfl, if_pos (by omega), hw1, hw2, if_pos (by omega), if_pos (by omega), Int.toNat_natCast, Int.toNat_natCast, hnm]
        have herr1 : (numP (b.drop a1, 0)).2.2 ≠ 0 → (recP (b.drop at_, 0)).2.2 ≠ 0 := fun h => by
          unfold recP
          rw [hT]
          exact flP_err _ (numP_err _ h)
        rcases num_spec b hb a1 (by omega) with ⟨n1, sz1, hn1, hs1, hs10, hN1, _, _, hE1⟩ | ⟨hN1, _, _, x1, m1, e1, he1, hE1⟩
        · have herr2 : (numP (b.drop (a1 + sz1), 0)).2.2 ≠ 0 → (recP (b.drop at_, 0)).2.2 ≠ 0 := fun h => by
            unfold recP
            rw [hT]
            dsimp only
            rw [hN1]
            exact flP_err _ h
          rcases num_spec b hb (a1 + sz1) hs1 with ⟨n2, sz2, hn2, hs2, hs20, hN2, _, _, hE2⟩ | ⟨hN2, _, _, x2, m2, e2, he2, hE2⟩
          · have hrec : ∀ fl, flP (b.drop (a1 + sz1 + sz2), 0) = fl → recP (b.drop at_, 0) = (⟨⟨((b.drop (at_ + sz)).take n).toArray⟩, wrap64 n1, wrap64 n2, fl.1⟩, fl.2) := fun fl hfl => by
              unfold recP
              rw [hT]
              dsimp only
              rw [hN1]
              dsimp only
              rw [hN2]
              dsimp only
              rw [hfl]
            by_cases c3 : a1 + sz1 + sz2 = b.length
            · refine .inr ⟨?_, ⟨((b.drop (at_ + sz)).take n).toArray⟩, win, wrap64 n1, wrap64 n2, false, 0, 11, by decide, hgo2 _ (Ev.bind hE1 ?_)⟩
              · rw [hrec _ rfl, c3, List.drop_length]
                exact fl_nil
              · refine Ev.congr (fun k => if_pos rfl) ?_
                refine Ev.bind hE2 ?_
                dsimp only
                rw [if_pos rfl, if_pos (by omega)]
                exact Ev.now _
            · have hlt : a1 + sz1 + sz2 < b.length := by omega
              have hrd := rd_at b (a1 + sz1 + sz2) hlt
              have hdr := List.drop_eq_getElem_cons hlt
              by_cases c4 : 1 < (b[a1 + sz1 + sz2]).toNat
              · refine .inr ⟨?_, ⟨((b.drop (at_ + sz)).take n).toArray⟩, win, wrap64 n1, wrap64 n2, false, 0, 2, by decide, hgo2 _ (Ev.bind hE1 ?_)⟩
                · rw [hrec _ rfl, hdr]
                  exact fl_bad _ _ c4
                · refine Ev.congr (fun k => if_pos rfl) ?_
                  refine Ev.bind hE2 ?_
                  dsimp only
                  rw [if_pos rfl, if_neg (by omega), if_pos (by omega), if_pos (by omega), hrd, if_pos (by omega)]
                  exact Ev.now _
              · refine .inl ⟨_, a1 + sz1 + sz2 + 1, hrec (decide ((b[a1 + sz1 + sz2]).toNat = 1), (b.drop (a1 + sz1 + sz2 + 1), 0)) (by rw [hdr]; exact fl_ok _ _ c4), by omega, by omega, hgo2 _ (Ev.bind hE1 ?_)⟩
                refine Ev.congr (fun k => if_pos rfl) ?_
                refine Ev.bind hE2 ?_
                dsimp only
                rw [if_pos rfl, if_neg (by omega), if_pos (by omega), if_pos (by omega), hrd, if_neg (by omega)]
                have ho : (((b[a1 + sz1 + sz2]).toNat : Int) == 1) = decide ((b[a1 + sz1 + sz2]).toNat = 1) := by
                  rw [Bool.eq_iff_iff]
                  simp
                  omega
                rw [ho, show wrap64 (((a1 + sz1 + sz2 : Nat) : Int) + 1) = ((a1 + sz1 + sz2 + 1 : Nat) : Int) by unfold wrap64; omega]
                exact Ev.now _
          · refine .inr ⟨herr2 hN2, ⟨((b.drop (at_ + sz)).take n).toArray⟩, win, 0, 0, false, 0, e2, he2, hgo2 _ (Ev.bind hE1 ?_)⟩
            refine Ev.congr (fun k => if_pos rfl) ?_
            refine Ev.bind hE2 ?_
            dsimp only
            rw [if_neg he2]
            exact Ev.now _
        · refine .inr ⟨herr1 hN1, ⟨((b.drop (at_ + sz)).take n).toArray⟩, win, 0, 0, false, 0, e1, he1, hgo2 _ (Ev.bind hE1 ?_)⟩
          exact Ev.congr (fun k => if_neg he1) (Ev.now _)
  · refine .inr ⟨herr (tx_bad _ ?_), (⟨#[]⟩ : ByteArray), win, 0, 0, false, 0, e, he, ?_⟩
    · unfold txt
      dsimp only
      rw [if_pos hR]
      exact hR
    · refine Ev.congr (fun k => ?_) (Ev.bind (f := fun k bt => if bt.2.2 = 0 then odometerref20_record.j0 k (nb b) bt.2.1 bt.1 bt.2.2 (decide (bt.1 > 65536)) (⟨#[]⟩ : ByteArray) win 0 0 false else odometerref20_record.j0 k (nb b) bt.2.1 bt.1 bt.2.2 false (⟨#[]⟩ : ByteArray) win 0 0 false) hE ?_)
      · unfold odometerref20_record.f
        rfl
      · refine Ev.congr (fun k => if_neg he) ?_
        refine j0_go _ _ _ _ _ _ _ _ _ _ _ ?_
        rw [if_neg (by simp)]
        exact j1_err _ _ _ e _ _ _ _ _ he
end Go.Proofs.YtpihpkphhkcdlaaGreatDoor.Rg
namespace Go.Proofs.YtpihpkphhkcdlaaGreatDoor.Rh
open Go.RowKit Go.Proofs.YtpihpkphhkcdlaaGreatDoorW.PrintWords Go.Proofs.YtpihpkphhkcdlaaGreatDoor.PR Go.Proofs.YtpihpkphhkcdlaaGreatDoor.Tab Go.Proofs.YtpihpkphhkcdlaaGreatDoor.Crc Go.Proofs.YtpihpkphhkcdlaaGreatDoor.Pd Go.Proofs.YtpihpkphhkcdlaaGreatDoor.Rr Go.Proofs.YtpihpkphhkcdlaaGreatDoor.Rg Go.Proofs.YtpihpkphhkcdlaaGreatDoor.Eq
set_option linter.unusedVariables false
set_option linter.unusedSimpArgs false
def toS (win : Int) (r : Rec) : S73 := ⟨r.name, win, r.inc, r.rate, r.over⟩
def prevN (recs : List Rec) : Nat → Option ByteArray
  | 0 => none
  | j + 1 => (recs[j]?).map (·.name)
theorem rd_S (win : Int) (recs : List Rec) (i : Nat) (h : i < recs.length) : rd_T73 (recs.map (toS win)) (i : Int) = toS win recs[i] := by
  unfold rd_T73
  simp [List.getD, h]
def ordB (recs : List Rec) (i : Nat) (cur : ByteArray) : Bool := match prevN recs i with | none => true | some q => Go.Op.bytesLess q.toList cur.toList
theorem mayR_ord (win : Int) (recs : List Rec) (i : Nat) (r : Rec) (t : List Rec) : mayR win (prevN recs i) (r :: t) = (ordB recs i r.name && decide (r.name.size ≤ 65536) && decide (0 ≤ r.inc) && decide (0 ≤ r.rate) && !(decide (r.inc = 0) && !r.over) && mayR win (some r.name) t) := rfl
theorem may_l0 (seq : Int) (win : Int) (recs : List Rec) (hl : recs.length ≤ 1000000) : ∀ (d i : Nat), recs.length - i = d → i ≤ recs.length → Ev (fun k => odometerref20_May.l0 k (recs.length : Int) (i : Int) seq win (recs.map (toS win))) (mayR win (prevN recs i) (recs.drop i)) := by
  have hn : (recs.map (toS win)).length = recs.length := List.length_map _
  intro d
  induction d with
  | zero =>
    intro i hd hi
    rw [List.drop_of_length_le (by omega)]
    refine Ev.step (f := fun _ => some true) (fun k => ?_) (Ev.now _)
    rw [odometerref20_May.l0, if_neg (by omega)]
  | succ d ih =>
    intro i hd hi
    have hlt : i < recs.length := by omega
    have hr := rd_S win recs i hlt
    have hih := ih (i + 1) (by omega) (by omega)
    have hpn : prevN recs (i + 1) = some (recs[i]).name := by
      show (recs[i]?).map (·.name) = _
      rw [List.getElem?_eq_getElem hlt]
      rfl
    rw [hpn] at hih
    rw [List.drop_eq_getElem_cons hlt, mayR_ord]
    obtain ⟨r, hrr⟩ : ∃ r, r = recs[i] := ⟨_, rfl⟩
    rw [← hrr] at hr hih ⊢
    obtain ⟨rest, hrest⟩ : ∃ rest, rest = mayR win (some r.name) (recs.drop (i + 1)) := ⟨_, rfl⟩
    rw [← hrest] at hih ⊢
    have hw1 : wrap64 ((i : Int) + 1) = ((i + 1 : Nat) : Int) := by unfold wrap64; omega
    -- the order
    have hO : Ev (fun k => (if (i : Int) > 0 then (if 0 ≤ (wrap64 ((i : Int) - 1)) then (if (wrap64 ((i : Int) - 1)) < ((recs.map (toS win)).length : Int) then (if ((Go.Op.bytesLess (((rd_T73 (recs.map (toS win)) (wrap64 ((i : Int) - 1))).f0).toList) r.name.toList) = true) then (odometerref20_May.l0 k (recs.length : Int) (wrap64 ((i : Int) + 1)) seq win (recs.map (toS win))) else (some false)) else (none)) else (none)) else (odometerref20_May.l0 k (recs.length : Int) (wrap64 ((i : Int) + 1)) seq win (recs.map (toS win))))) (ordB recs i r.name && rest) := by
      cases i with
      | zero =>
        refine Ev.congr (fun k => if_neg (by omega)) ?_
        rw [hw1]
        exact hih
      | succ p =>
        have hp : p < recs.length := by omega
        have hw2 : wrap64 (((p + 1 : Nat) : Int) - 1) = (p : Int) := by unfold wrap64; omega
        have hop : ordB recs (p + 1) r.name = Go.Op.bytesLess (recs[p]).name.toList r.name.toList := by
          have : prevN recs (p + 1) = some (recs[p]).name := by
            show (recs[p]?).map (·.name) = _
            rw [List.getElem?_eq_getElem hp]
            rfl
          unfold ordB
          rw [this]
        rw [hop, hw2, rd_S win recs p hp]
        refine Ev.congr (fun k => if_pos (by omega)) ?_
        refine Ev.congr (fun k => if_pos (by omega)) ?_
        refine Ev.congr (fun k => if_pos (by omega)) ?_
        have hf0 : (toS win recs[p]).f0 = (recs[p]).name := rfl
        rw [hf0]
        cases hb : Go.Op.bytesLess (recs[p]).name.toList r.name.toList with
        | true =>
          refine Ev.congr (fun k => if_pos rfl) ?_
          rw [hw1, Bool.true_and]
          exact hih
        | false =>
          refine Ev.congr (fun k => if_neg (by simp)) ?_
          exact Ev.now _
    have hj2 : ∀ c : Bool, Ev (fun k => odometerref20_May.j2 k (recs.length : Int) (i : Int) c seq win (recs.map (toS win)) r.name win r.inc r.rate r.over) (!c && (!(decide (r.inc = 0) && !r.over) && (ordB recs i r.name && rest))) := fun c => by
      cases c with
      | true => exact Ev.step (f := fun _ => some false) (fun k => by rw [odometerref20_May.j2, if_pos rfl]) (Ev.now _)
      | false =>
        by_cases h0 : r.inc = 0
        · cases ho : r.over with
          | true =>
            refine Ev.step (fun k => ?_) (f := fun k => (if (i : Int) > 0 then (if 0 ≤ (wrap64 ((i : Int) - 1)) then (if (wrap64 ((i : Int) - 1)) < ((recs.map (toS win)).length : Int) then (if ((Go.Op.bytesLess (((rd_T73 (recs.map (toS win)) (wrap64 ((i : Int) - 1))).f0).toList) r.name.toList) = true) then (odometerref20_May.l0 k (recs.length : Int) (wrap64 ((i : Int) + 1)) seq win (recs.map (toS win))) else (some false)) else (none)) else (none)) else (odometerref20_May.l0 k (recs.length : Int) (wrap64 ((i : Int) + 1)) seq win (recs.map (toS win))))) ?_
            · rw [odometerref20_May.j2, if_neg (by simp), if_pos h0, if_pos rfl]
            · simp only [h0, decide_true, Bool.not_true, Bool.and_false, Bool.not_false, Bool.true_and]
              exact hO
          | false =>
            refine Ev.step (f := fun _ => some false) (fun k => ?_) (by simp only [h0, decide_true, Bool.not_true, Bool.and_false, Bool.not_false, Bool.true_and, Bool.false_and]; exact Ev.now _)
            rw [odometerref20_May.j2, if_neg (by simp), if_pos h0, if_neg (by simp)]
        · refine Ev.step (fun k => ?_) (f := fun k => (if (i : Int) > 0 then (if 0 ≤ (wrap64 ((i : Int) - 1)) then (if (wrap64 ((i : Int) - 1)) < ((recs.map (toS win)).length : Int) then (if ((Go.Op.bytesLess (((rd_T73 (recs.map (toS win)) (wrap64 ((i : Int) - 1))).f0).toList) r.name.toList) = true) then (odometerref20_May.l0 k (recs.length : Int) (wrap64 ((i : Int) + 1)) seq win (recs.map (toS win))) else (some false)) else (none)) else (none)) else (odometerref20_May.l0 k (recs.length : Int) (wrap64 ((i : Int) + 1)) seq win (recs.map (toS win))))) ?_
          · rw [odometerref20_May.j2, if_neg (by simp), if_neg h0]
          · simp only [h0, decide_false, Bool.false_and, Bool.not_false, Bool.true_and]
            exact hO
    refine Ev.step (fun k => ?_) (f := fun k => odometerref20_May.j2 k (recs.length : Int) (i : Int) (decide (65536 < r.name.size) || decide (r.inc < 0) || decide (r.rate < 0)) seq win (recs.map (toS win)) r.name win r.inc r.rate r.over) ?_
    · rw [odometerref20_May.l0, if_pos (by omega), if_pos (by omega), if_pos (by omega), hr]
      have e0 : (toS win r).f0 = r.name := rfl
      have e1 : (toS win r).f1 = win := rfl
      have e2 : (toS win r).f2 = r.inc := rfl
      have e3 : (toS win r).f3 = r.rate := rfl
      have e4 : (toS win r).f4 = r.over := rfl
      rw [e0, e1, e2, e3, e4, if_pos rfl]
      by_cases c1 : 65536 < r.name.size
      · rw [if_pos (by omega), decide_eq_true c1]; rfl
      · rw [if_neg (by omega), decide_eq_false c1]
        by_cases c2 : r.inc < 0
        · rw [if_pos c2, decide_eq_true c2]; rfl
        · rw [if_neg c2, decide_eq_false c2]; rfl
    · have h := hj2 (decide (65536 < r.name.size) || decide (r.inc < 0) || decide (r.rate < 0))
      have e : (!(decide (65536 < r.name.size) || decide (r.inc < 0) || decide (r.rate < 0)) && (!(decide (r.inc = 0) && !r.over) && (ordB recs i r.name && rest))) = (ordB recs i r.name && decide (r.name.size ≤ 65536) && decide (0 ≤ r.inc) && decide (0 ≤ r.rate) && !(decide (r.inc = 0) && !r.over) && rest) := by
        have a1 : decide (r.name.size ≤ 65536) = !decide (65536 < r.name.size) := by rw [← decide_not]; congr 1; rw [eq_iff_iff]; omega
        have a2 : decide (0 ≤ r.inc) = !decide (r.inc < 0) := by rw [← decide_not]; congr 1; rw [eq_iff_iff]; omega
        have a3 : decide (0 ≤ r.rate) = !decide (r.rate < 0) := by rw [← decide_not]; congr 1; rw [eq_iff_iff]; omega
        rw [a1, a2, a3]
        cases decide (65536 < r.name.size) <;> cases decide (r.inc < 0) <;> cases decide (r.rate < 0) <;> cases ordB recs i r.name <;> cases (decide (r.inc = 0) && !r.over) <;> rfl
      rw [← e]
      exact h
theorem may_ev (seq : Nat) (win : Int) (recs : List Rec) (hl : recs.length ≤ 1000000) : Ev (fun k => odometerref20_May.f k (seq : Int) win (recs.map (toS win))) (mayP ⟨seq, win, recs⟩) := by
  have hn : (recs.map (toS win)).length = recs.length := List.length_map _
  have hj : ∀ c : Bool, Ev (fun k => odometerref20_May.j0 k (recs.length : Int) c (seq : Int) win (recs.map (toS win))) (!c && mayR win none recs) := fun c => by
    cases c with
    | true => exact Ev.step (f := fun _ => some false) (fun k => by rw [odometerref20_May.j0, if_pos rfl]) (Ev.now _)
    | false =>
      refine Ev.step (fun k => ?_) (may_l0 (seq : Int) win recs hl recs.length 0 rfl (Nat.zero_le _))
      rw [odometerref20_May.j0, if_neg (by simp)]
      rfl
  refine Ev.congr (f := fun k => odometerref20_May.j0 k (recs.length : Int) (decide (seq = 0) || decide (recs.length = 0) || decide (4096 < recs.length)) (seq : Int) win (recs.map (toS win))) (fun k => ?_) ?_
  · unfold odometerref20_May.f
    rw [hn]
    by_cases c1 : seq = 0
    · rw [if_pos (by omega), decide_eq_true c1]; rfl
    · rw [if_neg (by omega), decide_eq_false c1]
      by_cases c2 : recs.length = 0
      · rw [if_pos (by omega), decide_eq_true c2]; rfl
      · rw [if_neg (by omega), decide_eq_false c2]
        congr 1
        rw [Bool.eq_iff_iff]
        simp
        omega
  · have h := hj (decide (seq = 0) || decide (recs.length = 0) || decide (4096 < recs.length))
    have e : (!(decide (seq = 0) || decide (recs.length = 0) || decide (4096 < recs.length)) && mayR win none recs) = mayP ⟨seq, win, recs⟩ := by
      unfold mayP
      dsimp only
      have a1 : decide (1 ≤ seq) = !decide (seq = 0) := by rw [← decide_not]; congr 1; rw [eq_iff_iff]; omega
      have a2 : decide (1 ≤ recs.length) = !decide (recs.length = 0) := by rw [← decide_not]; congr 1; rw [eq_iff_iff]; omega
      have a3 : decide (recs.length ≤ 4096) = !decide (4096 < recs.length) := by rw [← decide_not]; congr 1; rw [eq_iff_iff]; omega
      rw [a1, a2, a3]
      cases decide (seq = 0) <;> cases decide (recs.length = 0) <;> cases decide (4096 < recs.length) <;> rfl
    rw [← e]
    exact h
end Go.Proofs.YtpihpkphhkcdlaaGreatDoor.Rh
namespace Go.Proofs.YtpihpkphhkcdlaaGreatDoor.Ri
open Go.RowKit Go.Proofs.YtpihpkphhkcdlaaGreatDoorW.PrintWords Go.Proofs.YtpihpkphhkcdlaaGreatDoor.PR Go.Proofs.YtpihpkphhkcdlaaGreatDoor.Tab Go.Proofs.YtpihpkphhkcdlaaGreatDoor.Crc Go.Proofs.YtpihpkphhkcdlaaGreatDoor.Pd Go.Proofs.YtpihpkphhkcdlaaGreatDoor.Rr Go.Proofs.YtpihpkphhkcdlaaGreatDoor.Rg Go.Proofs.YtpihpkphhkcdlaaGreatDoor.Rh Go.Proofs.YtpihpkphhkcdlaaGreatDoor.Eq
set_option linter.unusedVariables false
set_option linter.unusedSimpArgs false
abbrev R4 := Int × Int × (List S73) × Int
/-- What the reference answers behind its records. -/
def fin (seq : Nat) (win : Int) (recs : List Rec) (rest : List UInt8) : R4 := if 0 < rest.length then (0, 0, [], 11) else if mayP ⟨seq, win, recs⟩ = true then ((seq : Int), win, recs.map (toS win), 0) else (0, 0, [], 2)
theorem loop_ev (b : List UInt8) (hb : b.length ≤ 1000000) (seq : Nat) (win : Int) (many : Nat) (hm : many < 18446744073709551616) : ∀ (d at_ m i : Nat) (acc : List Rec), b.length - at_ ≤ d → at_ ≤ b.length → acc.length ≤ at_ → i + m = many →
    ((recsP m (b.drop at_, 0)).2.2 = 0 → Ev (fun k => odometerref20_Decode.l0 k (nb b) (at_ : Int) (many : Int) (i : Int) 0 0 (seq : Int) win (acc.map (toS win))) (fin seq win (acc ++ (recsP m (b.drop at_, 0)).1) (recsP m (b.drop at_, 0)).2.1)) ∧
    ((recsP m (b.drop at_, 0)).2.2 ≠ 0 → ∃ e : Int, e ≠ 0 ∧ Ev (fun k => odometerref20_Decode.l0 k (nb b) (at_ : Int) (many : Int) (i : Int) 0 0 (seq : Int) win (acc.map (toS win))) (((0 : Int), (0 : Int), ([] : List S73), e) : R4)) := by
  have hnl := nb_len b
  intro d
  induction d with
  | zero =>
    intro at_ m i acc hd hat hac him
    cases m with
    | zero =>
      refine ⟨fun _ => ?_, fun h => absurd rfl h⟩
      have hr : recsP 0 (b.drop at_, 0) = ([], (b.drop at_, 0)) := rfl
      rw [hr, List.append_nil]
      have h1 := may_ev seq win acc (by omega)
      refine Ev.step (f := fun k => (odometerref20_May.f k (seq : Int) win (acc.map (toS win))).bind fun t => if t = true then some ((seq : Int), win, acc.map (toS win), 0) else some ((0 : Int), (0 : Int), ([] : List S73), 2)) (fun k => ?_) (Ev.bind h1 ?_)
      · rw [odometerref20_Decode.l0, if_neg (by omega), if_neg (by omega)]
      · unfold fin
        rw [if_neg (show ¬ 0 < (b.drop at_).length by rw [List.length_drop]; omega)]
        cases mayP ⟨seq, win, acc⟩
        · exact Ev.now _
        · exact Ev.now _
    | succ m =>
      rcases rec_spec b hb at_ hat win with ⟨r, a2, h1, h2, h3, hE⟩ | ⟨hR, nm, w, ii, rr, o, a, e, he, hE⟩
      · omega
      · have hrr : (recsP (m + 1) (b.drop at_, 0)).2.2 ≠ 0 := by
          unfold recsP
          rw [if_neg (by simp)]
          exact recsP_err _ _ hR
        refine ⟨fun h => absurd h hrr, fun _ => ⟨e, he, ?_⟩⟩
        refine Ev.step (f := fun k => (odometerref20_record.f k (nb b) (at_ : Int) win).bind fun bt => if bt.2.2.2.2.2.2 = 0 then (if (acc.map (toS win)).length < 2932031007402 then (odometerref20_Decode.l0 k (nb b) bt.2.2.2.2.2.1 (many : Int) (IntKind.u64.wrap ((i : Int) + 1)) 0 0 (seq : Int) win (acc.map (toS win) ++ [(⟨bt.1, bt.2.1, bt.2.2.1, bt.2.2.2.1, bt.2.2.2.2.1⟩ : S73)])) else none) else some ((0 : Int), (0 : Int), ([] : List S73), bt.2.2.2.2.2.2)) (fun k => ?_) (Ev.bind hE (Ev.congr (fun k => if_neg he) (Ev.now _)))
        rw [odometerref20_Decode.l0, if_pos (by omega)]
  | succ d ih =>
    intro at_ m i acc hd hat hac him
    cases m with
    | zero =>
      refine ⟨fun _ => ?_, fun h => absurd rfl h⟩
      have hr : recsP 0 (b.drop at_, 0) = ([], (b.drop at_, 0)) := rfl
      rw [hr, List.append_nil]
      by_cases hlt : at_ < b.length
      · refine Ev.step (f := fun _ => some ((0 : Int), (0 : Int), ([] : List S73), 11)) (fun k => ?_) ?_
        · rw [odometerref20_Decode.l0, if_neg (by omega), if_pos (by omega)]
        · unfold fin
          rw [if_pos (by rw [List.length_drop]; omega)]
          exact Ev.now _
      · have h1 := may_ev seq win acc (by omega)
        refine Ev.step (f := fun k => (odometerref20_May.f k (seq : Int) win (acc.map (toS win))).bind fun t => if t = true then some ((seq : Int), win, acc.map (toS win), 0) else some ((0 : Int), (0 : Int), ([] : List S73), 2)) (fun k => ?_) (Ev.bind h1 ?_)
        · rw [odometerref20_Decode.l0, if_neg (by omega), if_neg (by omega)]
        · unfold fin
          rw [if_neg (show ¬ 0 < (b.drop at_).length by rw [List.length_drop]; omega)]
          cases mayP ⟨seq, win, acc⟩
          · exact Ev.now _
          · exact Ev.now _
    | succ m =>
      rcases rec_spec b hb at_ hat win with ⟨r, a2, h1, h2, h3, hE⟩ | ⟨hR, nm, w, ii, rr, o, a, e, he, hE⟩
      · have hrr : recsP (m + 1) (b.drop at_, 0) = (r :: (recsP m (b.drop a2, 0)).1, (recsP m (b.drop a2, 0)).2) := by
          rw [show recsP (m + 1) (b.drop at_, 0) = if ((b.drop at_, (0 : Int)) : S).2 ≠ 0 then ([], (b.drop at_, 0)) else ((recP (b.drop at_, 0)).1 :: (recsP m (recP (b.drop at_, 0)).2).1, (recsP m (recP (b.drop at_, 0)).2).2) from rfl]
          rw [if_neg (by simp), h1]
        rw [hrr]
        have hih := ih a2 m (i + 1) (acc ++ [r]) (by omega) h3 (by rw [List.length_append]; simp; omega) (by omega)
        have hgo : ∀ v, Ev (fun k => odometerref20_Decode.l0 k (nb b) (a2 : Int) (many : Int) ((i + 1 : Nat) : Int) 0 0 (seq : Int) win ((acc ++ [r]).map (toS win))) v → Ev (fun k => odometerref20_Decode.l0 k (nb b) (at_ : Int) (many : Int) (i : Int) 0 0 (seq : Int) win (acc.map (toS win))) v := fun v hv => by
          refine Ev.step (f := fun k => (odometerref20_record.f k (nb b) (at_ : Int) win).bind fun bt => if bt.2.2.2.2.2.2 = 0 then (if (acc.map (toS win)).length < 2932031007402 then (odometerref20_Decode.l0 k (nb b) bt.2.2.2.2.2.1 (many : Int) (IntKind.u64.wrap ((i : Int) + 1)) 0 0 (seq : Int) win (acc.map (toS win) ++ [(⟨bt.1, bt.2.1, bt.2.2.1, bt.2.2.2.1, bt.2.2.2.2.1⟩ : S73)])) else none) else some ((0 : Int), (0 : Int), ([] : List S73), bt.2.2.2.2.2.2)) (fun k => ?_) (Ev.bind hE (Ev.congr (fun k => if_pos rfl) (Ev.congr (fun k => if_pos (by rw [List.length_map]; omega)) ?_)))
          · rw [odometerref20_Decode.l0, if_pos (by omega)]
          · have hu : IntKind.u64.wrap ((i : Int) + 1) = ((i + 1 : Nat) : Int) := by rw [uw _ (by omega) (by omega)]; omega
            rw [hu]
            have hmp : (acc ++ [r]).map (toS win) = acc.map (toS win) ++ [(⟨r.name, win, r.inc, r.rate, r.over⟩ : S73)] := by rw [List.map_append]; rfl
            rw [hmp] at hv
            exact hv
        refine ⟨fun h => ?_, fun h => ?_⟩
        · have h9 := hgo _ (hih.1 h)
          rw [List.append_assoc] at h9
          exact h9
        · obtain ⟨e, he, h9⟩ := hih.2 h
          exact ⟨e, he, hgo _ h9⟩
      · have hrr : (recsP (m + 1) (b.drop at_, 0)).2.2 ≠ 0 := by
          unfold recsP
          rw [if_neg (by simp)]
          exact recsP_err _ _ hR
        refine ⟨fun h => absurd h hrr, fun _ => ⟨e, he, ?_⟩⟩
        refine Ev.step (f := fun k => (odometerref20_record.f k (nb b) (at_ : Int) win).bind fun bt => if bt.2.2.2.2.2.2 = 0 then (if (acc.map (toS win)).length < 2932031007402 then (odometerref20_Decode.l0 k (nb b) bt.2.2.2.2.2.1 (many : Int) (IntKind.u64.wrap ((i : Int) + 1)) 0 0 (seq : Int) win (acc.map (toS win) ++ [(⟨bt.1, bt.2.1, bt.2.2.1, bt.2.2.2.1, bt.2.2.2.2.1⟩ : S73)])) else none) else some ((0 : Int), (0 : Int), ([] : List S73), bt.2.2.2.2.2.2)) (fun k => ?_) (Ev.bind hE (Ev.congr (fun k => if_neg he) (Ev.now _)))
        rw [odometerref20_Decode.l0, if_pos (by omega)]
/-- What is answered of a frame, plainly. -/
def Says (g : Nat → Option R4) (F : Frm × Int) : Prop := (F.2 = 0 → Ev g ((F.1.seq : Int), F.1.win, F.1.recs.map (toS F.1.win), 0)) ∧ (F.2 ≠ 0 → ∃ a b c e, e ≠ 0 ∧ Ev g (a, b, c, e))
theorem Says.err {g : Nat → Option R4} {F : Frm × Int} (hF : F.2 ≠ 0) {a b : Int} {c : List S73} {e : Int} (he : e ≠ 0) (h : Ev g (a, b, c, e)) : Says g F := ⟨fun h0 => absurd h0 hF, fun _ => ⟨a, b, c, e, he, h⟩⟩
/-- The frame's own road, behind its sum. -/
def road (k : Nat) (l : List Int) : Option R4 := ((odometerref20_number.f k l 4).bind fun bt297 => (if bt297.2.2 = 0 then ((odometerref20_number.f k l bt297.2.1).bind fun bt300 => (if bt300.2.2 = 0 then (if (Int.tmod bt300.1 2) = 1 then (odometerref20_Decode.j1 k l bt300.2.1 0 0 bt297.1 (wrap64 ((-1) - (wrap64 (IntKind.u64.wrap (Int.tdiv bt300.1 2)))))) else (odometerref20_Decode.j1 k l bt300.2.1 0 0 bt297.1 (wrap64 (IntKind.u64.wrap (Int.tdiv bt300.1 2))))) else (some (0, 0, ([] : List (S73)), bt300.2.2)))) else (some (0, 0, ([] : List (S73)), bt297.2.2))))
def ansP (b : List UInt8) : Frm × Int := let f := frmP (b.drop 4); if f.2 = 11 then (⟨0, 0, []⟩, 11) else if f.2 ≠ 0 ∨ mayP f.1 = false then (⟨0, 0, []⟩, 2) else (f.1, 0)
theorem ans_err (b : List UInt8) (h : (frmP (b.drop 4)).2 ≠ 0) : (ansP b).2 ≠ 0 := by
  unfold ansP
  dsimp only
  split
  · simp
  · rw [if_pos (.inl h)]
    simp
theorem road_ev (b : List UInt8) (hb : b.length ≤ 1000000) (h4 : 4 ≤ b.length) : Says (fun k => road k (nb b)) (ansP b) := by
  have hfr : frmP (b.drop 4) = (⟨(numP (b.drop 4, 0)).1, (sgP (numP (b.drop 4, 0)).2).1, (recsP (numP (sgP (numP (b.drop 4, 0)).2).2).1 (numP (sgP (numP (b.drop 4, 0)).2).2).2).1⟩, if (recsP (numP (sgP (numP (b.drop 4, 0)).2).2).1 (numP (sgP (numP (b.drop 4, 0)).2).2).2).2.2 = 0 ∧ 0 < (recsP (numP (sgP (numP (b.drop 4, 0)).2).2).1 (numP (sgP (numP (b.drop 4, 0)).2).2).2).2.1.length then 11 else (recsP (numP (sgP (numP (b.drop 4, 0)).2).2).1 (numP (sgP (numP (b.drop 4, 0)).2).2).2).2.2) := rfl
  have hbad : (recsP (numP (sgP (numP (b.drop 4, 0)).2).2).1 (numP (sgP (numP (b.drop 4, 0)).2).2).2).2.2 ≠ 0 → (ansP b).2 ≠ 0 := fun h => ans_err b (by rw [hfr]; dsimp only; rw [if_neg (fun h2 => h h2.1)]; exact h)
  rcases num_spec b hb 4 h4 with ⟨n, sz, hn, hs, hs0, hN, _, _, hE⟩ | ⟨hN, _, _, x0, m0, e0, he0, hE⟩
  · rw [hN] at hfr hbad
    dsimp only at hfr hbad
    rcases num_spec b hb (4 + sz) hs with ⟨n1, sz1, hn1, hs1, hs10, _, hS1, _, hE1⟩ | ⟨_, hS1, _, x1, m1, e1, he1, hE1⟩
    · rw [hS1] at hfr hbad
      dsimp only at hfr hbad
      have hgo : ∀ v, Ev (fun k => odometerref20_Decode.j1 k (nb b) ((4 + sz + sz1 : Nat) : Int) 0 0 (n : Int) (zig n1)) v → Ev (fun k => road k (nb b)) v := fun v hv => by
        refine Ev.bind hE ?_
        refine Ev.congr (fun k => if_pos rfl) ?_
        refine Ev.bind hE1 ?_
        refine Ev.congr (fun k => if_pos rfl) ?_
        have e1 : Int.tdiv (n1 : Int) 2 = ((n1 / 2 : Nat) : Int) := by rw [Int.tdiv_eq_ediv_of_nonneg (by omega)]; omega
        have e2 : Int.tmod (n1 : Int) 2 = ((n1 % 2 : Nat) : Int) := by rw [Int.tmod_eq_emod_of_nonneg (by omega)]; omega
        have e3 : wrap64 (IntKind.u64.wrap ((n1 / 2 : Nat) : Int)) = ((n1 / 2 : Nat) : Int) := by rw [uw _ (by omega) (by omega)]; unfold wrap64; omega
        by_cases c : n1 % 2 = 1
        · refine Ev.congr (fun k => ?_) hv
          show (if Int.tmod (n1 : Int) 2 = 1 then _ else _) = _
          rw [e2, if_pos (by omega), e1, e3]
          have : wrap64 (-1 - ((n1 / 2 : Nat) : Int)) = zig n1 := by unfold zig wrap64; rw [if_neg (by omega)]; omega
          rw [this]
        · refine Ev.congr (fun k => ?_) hv
          show (if Int.tmod (n1 : Int) 2 = 1 then _ else _) = _
          rw [e2, if_neg (by omega), e1]
          have e4 : IntKind.u64.wrap ((n1 / 2 : Nat) : Int) = ((n1 / 2 : Nat) : Int) := uw _ (by omega) (by omega)
          have : wrap64 ((n1 / 2 : Nat) : Int) = zig n1 := by unfold zig wrap64; rw [if_pos (by omega)]; omega
          rw [e4, this]
      rcases num_spec b hb (4 + sz + sz1) hs1 with ⟨n2, sz2, hn2, hs2, hs20, hN2, _, _, hE2⟩ | ⟨hN2, _, _, x2, m2, e2, he2, hE2⟩
      · rw [hN2] at hfr hbad
        dsimp only at hfr hbad
        have hgo2 : ∀ v, Ev (fun k => odometerref20_Decode.l0 k (nb b) ((4 + sz + sz1 + sz2 : Nat) : Int) (n2 : Int) ((0 : Nat) : Int) 0 0 (n : Int) (zig n1) (([] : List Rec).map (toS (zig n1)))) v → Ev (fun k => road k (nb b)) v := fun v hv => by
          refine hgo v (Ev.step (f := fun k => (odometerref20_number.f k (nb b) ((4 + sz + sz1 : Nat) : Int)).bind fun bt303 => (if bt303.2.2 = 0 then (odometerref20_Decode.l0 k (nb b) bt303.2.1 bt303.1 0 0 0 (n : Int) (zig n1) ([] : List (S73))) else (some (0, 0, ([] : List (S73)), bt303.2.2)))) (fun k => ?_) (Ev.bind hE2 (Ev.congr (fun k => if_pos rfl) hv)))
          rw [odometerref20_Decode.j1]
        have hlp := loop_ev b hb n (zig n1) n2 hn2 b.length (4 + sz + sz1 + sz2) n2 0 [] (by omega) hs2 (by simp) (by omega)
        rw [List.nil_append] at hlp
        by_cases hz : (recsP n2 (b.drop (4 + sz + sz1 + sz2), 0)).2.2 = 0
        · have h9 := hgo2 _ (hlp.1 hz)
          unfold fin at h9
          by_cases hr : 0 < (recsP n2 (b.drop (4 + sz + sz1 + sz2), 0)).2.1.length
          · rw [if_pos hr] at h9
            rw [if_pos ⟨hz, hr⟩] at hfr
            refine Says.err (ans_err b (by rw [hfr]; simp)) (by decide) h9
          · rw [if_neg hr] at h9
            rw [if_neg (fun h => hr h.2), hz] at hfr
            by_cases hm : mayP ⟨n, zig n1, (recsP n2 (b.drop (4 + sz + sz1 + sz2), 0)).1⟩ = true
            · rw [if_pos hm] at h9
              have ha : ansP b = (⟨n, zig n1, (recsP n2 (b.drop (4 + sz + sz1 + sz2), 0)).1⟩, 0) := by
                unfold ansP
                rw [hfr]
                dsimp only
                rw [if_neg (by simp), if_neg (by rw [hm]; simp)]
              rw [ha]
              exact ⟨fun _ => h9, fun h => absurd rfl h⟩
            · rw [if_neg hm] at h9
              have ha : (ansP b).2 ≠ 0 := by
                unfold ansP
                rw [hfr]
                dsimp only
                rw [if_neg (by simp), if_pos (.inr (by simpa using hm))]
                simp
              exact Says.err ha (by decide) h9
        · obtain ⟨e, he, h9⟩ := hlp.2 hz
          exact Says.err (hbad hz) he (hgo2 _ h9)
      · refine Says.err (hbad (recsP_err _ _ hN2)) he2 (hgo _ (Ev.step (f := fun k => (odometerref20_number.f k (nb b) ((4 + sz + sz1 : Nat) : Int)).bind fun bt303 => (if bt303.2.2 = 0 then (odometerref20_Decode.l0 k (nb b) bt303.2.1 bt303.1 0 0 0 (n : Int) (zig n1) ([] : List (S73))) else (some (0, 0, ([] : List (S73)), bt303.2.2)))) (fun k => ?_) (Ev.bind hE2 (Ev.congr (fun k => if_neg he2) (Ev.now _)))))
        rw [odometerref20_Decode.j1]
    · exact Says.err (hbad (recsP_err _ _ (numP_err _ hS1))) he1 (Ev.bind hE (Ev.congr (fun k => if_pos rfl) (Ev.bind hE1 (Ev.congr (fun k => if_neg he1) (Ev.now _)))))
  · exact Says.err (hbad (recsP_err _ _ (numP_err _ (sgP_err _ hN)))) he0 (Ev.bind hE (Ev.congr (fun k => if_neg he0) (Ev.now _)))
theorem bal_mk (l : List UInt8) : (⟨l.toArray⟩ : ByteArray).toList = l := by rw [ba_toList]
theorem str_eq (a b : List UInt8) : (strOfNums (nb a)).toList = (strOfNums (nb b)).toList ↔ a = b := by
  rw [strOf_nb, strOf_nb, bal_mk, bal_mk]
/-- The document's Decode. -/
theorem dec_ev (bs : List UInt8) (hb : bs.length ≤ 1000000) : Says (fun k => odometerref20_Decode.f k (nb bs)) (decP bs) := by
  have hnl := nb_len bs
  have hj : ∀ (c : Bool) (F : Frm × Int), Says (fun k => odometerref20_Decode.j0 k (nb bs) c 0 0) F → (∀ k, odometerref20_Decode.f k (nb bs) = odometerref20_Decode.j0 k (nb bs) c 0 0) → Says (fun k => odometerref20_Decode.f k (nb bs)) F := fun c F h e => ⟨fun h0 => Ev.congr e (h.1 h0), fun h0 => by
    obtain ⟨a, b, c, e9, h1, h2⟩ := h.2 h0
    exact ⟨a, b, c, e9, h1, Ev.congr e h2⟩⟩
  have hbad : ∀ (F : Frm × Int) (e : Int), e ≠ 0 → F.2 ≠ 0 → (∀ k, odometerref20_Decode.j0 (k + 1) (nb bs) true 0 0 = some (0, 0, [], 25)) → Says (fun k => odometerref20_Decode.j0 k (nb bs) true 0 0) F := fun F e he hF h => Says.err hF (show (25 : Int) ≠ 0 by decide) (Ev.step h (Ev.now _))
  have htrue : ∀ F : Frm × Int, F.2 ≠ 0 → Says (fun k => odometerref20_Decode.j0 k (nb bs) true 0 0) F := fun F hF => hbad F 25 (by decide) hF (fun k => by rw [odometerref20_Decode.j0, if_pos rfl])
  by_cases c1 : bs.take 4 ≠ [79, 68, 79, 1]
  · have hd : (decP bs).2 ≠ 0 := by unfold decP; rw [if_pos c1]; simp
    refine hj true _ (htrue _ hd) (fun k => ?_)
    unfold odometerref20_Decode.f
    by_cases h4 : bs.length < 4
    · rw [if_pos (by omega)]
    · rw [if_neg (by omega), if_pos (by omega), nb_take, strOf_nb, bal_mk]
      congr 1
      exact bne_iff_ne.2 c1
  · have h4 : ¬ bs.length < 4 := fun h => c1 (fun e => by have := congrArg List.length e; simp at this; omega)
    have c1' : bs.take 4 = [79, 68, 79, 1] := by simpa using c1
    refine hj false _ ?_ (fun k => ?_)
    rotate_left
    · unfold odometerref20_Decode.f
      rw [if_neg (by omega), if_pos (by omega), nb_take, strOf_nb, bal_mk, c1']
      rfl
    by_cases h8 : bs.length < 8
    · have hd : (decP bs).2 ≠ 0 := by unfold decP; rw [if_neg c1, if_pos h8]; simp
      refine Says.err hd (show (11 : Int) ≠ 0 by decide) (Ev.step (f := fun _ => some ((0 : Int), (0 : Int), ([] : List S73), (11 : Int))) (fun k => ?_) (Ev.now _))
      rw [odometerref20_Decode.j0, if_neg (by simp), if_pos (by omega)]
    · obtain ⟨b, hbb⟩ : ∃ b, b = bs.take (bs.length - 4) := ⟨_, rfl⟩
      have hbl : b.length = bs.length - 4 := by rw [hbb, List.length_take]; omega
      have hw : wrap64 (((nb bs).length : Int) - 4) = ((bs.length - 4 : Nat) : Int) := by unfold wrap64; omega
      have hsum : Ev (fun k => odometerref20_sum.f k (nb b)) (nb (be4 (crc b))) := by
        obtain ⟨k, hk⟩ := En.sum_ex b (by omega)
        exact Ev.of (fun k => odometerref20_sum.mono _ k) hk
      have hgo : ∀ v, Ev (fun k => if (strOfNums (nb (be4 (crc b)))).toList = (strOfNums (nb (bs.drop (bs.length - 4)))).toList then road k (nb b) else some ((0 : Int), (0 : Int), ([] : List S73), (24 : Int))) v → Ev (fun k => odometerref20_Decode.j0 k (nb bs) false 0 0) v := fun v hv => by
        refine Ev.step (f := fun k => (odometerref20_sum.f k (nb b)).bind fun t => if (strOfNums t).toList = (strOfNums (nb (bs.drop (bs.length - 4)))).toList then road k (nb b) else some ((0 : Int), (0 : Int), ([] : List S73), (24 : Int))) (fun k => ?_) (Ev.bind hsum hv)
        rw [odometerref20_Decode.j0, if_neg (by simp), if_neg (by omega), hw, if_pos (by omega), if_pos (by omega), Int.toNat_natCast, nb_take, nb_drop, ← hbb]
        rfl
      by_cases c2 : bs.drop (bs.length - 4) = be4 (crc b)
      · have hdec : decP bs = ansP b := by
          unfold decP ansP
          rw [if_neg c1, if_neg h8, ← hbb, if_neg (fun h => h c2)]
        rw [hdec]
        have hr := road_ev b (by omega) (by omega)
        have hcond : ∀ k, (if (strOfNums (nb (be4 (crc b)))).toList = (strOfNums (nb (bs.drop (bs.length - 4)))).toList then road k (nb b) else some ((0 : Int), (0 : Int), ([] : List S73), (24 : Int))) = road k (nb b) := fun k => if_pos ((str_eq _ _).2 c2.symm)
        refine ⟨fun h0 => hgo _ (Ev.congr hcond (hr.1 h0)), fun h0 => ?_⟩
        obtain ⟨x, y, z, e, h1, h2⟩ := hr.2 h0
        exact ⟨x, y, z, e, h1, hgo _ (Ev.congr hcond h2)⟩
      · have hd : (decP bs).2 ≠ 0 := by
          unfold decP
          rw [if_neg c1, if_neg h8, ← hbb, if_pos c2]
          simp
        refine Says.err hd (show (24 : Int) ≠ 0 by decide) (hgo _ (Ev.congr (fun k => if_neg (fun h => c2 ((str_eq _ _).1 h).symm)) (Ev.now _)))
end Go.Proofs.YtpihpkphhkcdlaaGreatDoor.Ri
