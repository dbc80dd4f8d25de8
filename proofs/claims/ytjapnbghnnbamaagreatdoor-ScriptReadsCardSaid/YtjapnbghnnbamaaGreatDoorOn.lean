/- The reference's word, number, Line, Unquote: what calls of them answer. -/
import Derived.Test.YtjapnbghnnbamaaGreatDoorZT
import Derived.Test.YtjapnbghnnbamaaGreatDoorPRx8
import Derived.Laws.Slices
namespace Go.Proofs.YtjapnbghnnbamaaGreatDoor.Nr
open Go.RowKit Go.Proofs.YtjapnbghnnbamaaGreatDoorW.PrintWords Go.Proofs.YtjapnbghnnbamaaGreatDoorW.PrintLast Go.Proofs.YtjapnbghnnbamaaGreatDoor.Ext Go.Proofs.YtjapnbghnnbamaaGreatDoor.Q Go.Proofs.YtjapnbghnnbamaaGreatDoor.S Go.Proofs.YtjapnbghnnbamaaGreatDoor.K Go.Proofs.YtjapnbghnnbamaaGreatDoor.L Go.Proofs.YtjapnbghnnbamaaGreatDoor.T Go.Proofs.YtjapnbghnnbamaaGreatDoor.W Go.Proofs.YtjapnbghnnbamaaGreatDoor.Rq Go.Proofs.YtjapnbghnnbamaaGreatDoor.PR Go.Proofs.YtjapnbghnnbamaaGreatDoor.ZT
open Go.Proofs.YtjapnbghnnbamaaGreatDoor.Rt (so may_ev line_ev word_eq)
open Go.Proofs.YtjapnbghnnbamaaGreatDoor.R (nbl wrap_next)
open Go.Proofs.YtjapnbghnnbamaaGreatDoor.Plain (quote)
set_option linter.unusedVariables false
set_option linter.unusedSimpArgs false
theorem word_ref (k : Int) (w : World) : Calls Tryz.prog 19 #[.int .i64 k] w fun e w' => e = .returned (.string (kn k)) ∧ Below w.heap.size w w' := odometerref23_word.calls k _ w (word_eq k)
theorem line_ref (k a n : Int) (b : List UInt8) (v : Value) (w : World) (hv : Byt w v b) (hm : MayE ⟨k, a, n, b⟩) : Calls Tryz.prog 18 #[.agg #[.int .i64 k, .int .i64 a, .int .i64 n, v]] w fun x w' => x = .returned (.string (ba (lineL ⟨k, a, n, b⟩))) ∧ Below w.heap.size w w' := by
  obtain ⟨A, c, rfl, h1, h2⟩ := byt_open hv
  obtain ⟨j, hj⟩ := (line_ev k a n b hm).rounds
  exact odometerref23_Line.calls j _ _ _ A c _ _ w h1 h2 hj
theorem unq_ref (q : ByteArray) (hm : q.size ≤ 1000000) (W : World) : Calls Tryz.prog 36 #[.string q] W fun e w' => (∃ A m c is, e = .returned (.tuple #[.slice A m c, .bool is]) ∧ ((is = true ∧ ∃ os, quote os = q.data.toList ∧ RV w' W.heap.size (.slice A m c) os) ∨ (is = false ∧ ∀ b, quote b ≠ q.data.toList))) ∧ Below W.heap.size W w' := by
  obtain ⟨l, is, hev, h⟩ := R.unq_ev q hm
  obtain ⟨k, hk⟩ := hev.rounds
  refine (odometerref23_Unquote.calls k q l is W hk).mono ?_
  rintro e w' ⟨v, rfl, hR, hb⟩
  refine ⟨?_, hb⟩
  rcases h with ⟨rfl, b, hq, rfl⟩ | ⟨rfl, rfl, hn⟩
  · obtain ⟨A, c, rfl⟩ := Kd.R_slice hR
    exact ⟨A, _, c, true, rfl, .inl ⟨rfl, b, hq, hR⟩⟩
  · obtain ⟨A, c, rfl⟩ := Kd.R_slice hR
    exact ⟨A, _, c, false, rfl, .inr ⟨rfl, hn⟩⟩
/-! ### number -/
def nv (acc : Nat) : List UInt8 → Int
  | [] => acc
  | c :: t => if c.toNat < 48 then -1 else if c.toNat > 57 then -1 else nv (10 * acc + (c.toNat - 48)) t
theorem nv_snoc (c : UInt8) : ∀ (l : List UInt8) (acc v : Nat), nv acc l = (v : Int) → nv acc (l ++ [c]) = nv v [c]
  | [], acc, v, h => by
    have : acc = v := by simp only [nv] at h; omega
    subst this; rfl
  | d :: l, acc, v, h => by
    rw [List.cons_append]
    unfold nv at h ⊢
    by_cases h1 : d.toNat < 48
    · rw [if_pos h1] at h; omega
    · rw [if_neg h1] at h ⊢
      by_cases h2 : d.toNat > 57
      · rw [if_pos h2] at h; omega
      · rw [if_neg h2] at h ⊢
        exact nv_snoc c l _ v h
theorem nv_dec (u : Nat) : nv 0 (Lib.decDigits u) = (u : Int) := by
  induction u using Nat.strongRecOn with
  | _ u ih =>
    by_cases hu : u < 10
    · rw [Lib.decDigits, dif_pos hu]
      have e : (UInt8.ofNat (48 + u)).toNat = 48 + u := by simp; omega
      simp only [nv, e]
      rw [if_neg (by omega), if_neg (by omega)]
      omega
    · rw [Lib.decDigits, dif_neg hu, nv_snoc _ _ 0 (u / 10) (ih (u / 10) (by omega))]
      have e : (UInt8.ofNat (48 + u % 10)).toNat = 48 + u % 10 := by simp; omega
      simp only [nv, e]
      rw [if_neg (by omega), if_neg (by omega)]
      omega
theorem dec_len : ∀ (n u : Nat), u < 10 ^ (n + 1) → (Lib.decDigits u).length ≤ n + 1 := by
  intro n
  induction n with
  | zero => intro u h; rw [Lib.decDigits, dif_pos (by simpa using h)]; simp
  | succ n ih =>
    intro u h
    by_cases hu : u < 10
    · rw [Lib.decDigits, dif_pos hu]; simp
    · rw [Lib.decDigits, dif_neg hu, List.length_append]
      have := ih (u / 10) (by rw [Nat.pow_succ] at h; omega)
      simp
      omega
theorem bt_at (X : ByteArray) (i : Nat) : bt X (i : Int) = ((X.data.toList.getD i 0).toNat : Int) := R.bt_list X i
theorem num_wrap (acc c : Nat) (h : acc < 100000000000000000) (h1 : 48 ≤ c) (h2 : c ≤ 57) : wrap64 ((wrap64 (10 * (acc : Int))) + (((c : Int) - 48) % 256)) = ((10 * acc + (c - 48) : Nat) : Int) := by
  have e1 : ((c : Int) - 48) % 256 = ((c - 48 : Nat) : Int) := by omega
  have e2 : wrap64 (10 * (acc : Int)) = ((10 * acc : Nat) : Int) := by unfold wrap64; omega
  rw [e1, e2]
  unfold wrap64
  omega
theorem num_step (k : Nat) (s : ByteArray) (acc i c : Nat) (hi : i < s.size) (hz : s.size ≤ 18) (hb : bt s (i : Int) = (c : Int)) (h1 : 48 ≤ c) (h2 : c ≤ 57) (h : acc < 100000000000000000) :
    odometerref23_number.l0 (k + 1) s (acc : Int) (i : Int) = odometerref23_number.l0 k s ((10 * acc + (c - 48) : Nat) : Int) ((i + 1 : Nat) : Int) := by
  rw [odometerref23_number.l0]
  rw [if_pos (show (i : Int) < (s.size : Int) by omega), if_pos (show (0 : Int) ≤ (i : Int) by omega), hb, if_neg (show ¬ (c : Int) < 48 by omega), if_neg (show ¬ (c : Int) > 57 by omega), wrap_next i (by omega), num_wrap acc c h h1 h2]
theorem num_stop (k : Nat) (s : ByteArray) (acc i c : Nat) (hi : i < s.size) (hb : bt s (i : Int) = (c : Int)) (h : c < 48 ∨ 57 < c) :
    odometerref23_number.l0 (k + 1) s (acc : Int) (i : Int) = some (-1) := by
  rw [odometerref23_number.l0]
  rw [if_pos (show (i : Int) < (s.size : Int) by omega), if_pos (show (0 : Int) ≤ (i : Int) by omega), hb]
  by_cases h1 : (c : Int) < 48
  · rw [if_pos h1]
  · rw [if_neg h1, if_pos (show (c : Int) > 57 by omega)]
theorem num_from (s : ByteArray) (hs : s.size ≤ 18) : ∀ (d i acc : Nat), s.size - i = d → i ≤ s.size → acc < 10 ^ i → Ev (fun k => odometerref23_number.l0 k s (acc : Int) (i : Int)) (nv acc (s.data.toList.drop i)) := by
  have hsz : s.data.toList.length = s.size := (Lib.size_eq s).symm
  intro d
  induction d with
  | zero =>
    intro i acc hd hi ha
    rw [List.drop_eq_nil_of_le (by omega)]
    refine Ev.step (f := fun _ => some (acc : Int)) (fun k => ?_) (Ev.now _)
    simp only [odometerref23_number.l0]
    rw [if_neg (by omega)]
  | succ d ih =>
    intro i acc hd hi ha
    have hlt : i < s.data.toList.length := by omega
    have hp : 10 ^ i ≤ 10 ^ 17 := Nat.pow_le_pow_right (by decide) (by omega)
    have hp2 : (10 : Nat) ^ 17 = 100000000000000000 := by decide
    have hb : bt s (i : Int) = ((s.data.toList[i]).toNat : Int) := by rw [bt_at, List.getD, List.getElem?_eq_getElem hlt, Option.getD_some]
    have hc := (s.data.toList[i]).toNat_lt
    rw [List.drop_eq_getElem_cons hlt]
    unfold nv
    by_cases h1 : (s.data.toList[i]).toNat < 48
    · rw [if_pos h1]
      exact Ev.step (f := fun _ => some (-1)) (fun k => num_stop k s acc i _ (by omega) hb (.inl h1)) (Ev.now _)
    · rw [if_neg h1]
      by_cases h2 : (s.data.toList[i]).toNat > 57
      · rw [if_pos h2]
        exact Ev.step (f := fun _ => some (-1)) (fun k => num_stop k s acc i _ (by omega) hb (.inr h2)) (Ev.now _)
      · rw [if_neg h2]
        exact Ev.step (fun k => num_step k s acc i _ (by omega) hs hb (by omega) (by omega) (by omega)) (ih (i + 1) (10 * acc + ((s.data.toList[i]).toNat - 48)) (by omega) (by omega) (by rw [Nat.pow_succ]; omega))
theorem j0_no (s : ByteArray) (i : Int) : Ev (fun k => odometerref23_number.j0 k s i true) (-1) := Ev.step (f := fun _ => some (-1)) (fun k => by simp [odometerref23_number.j0]) (Ev.now _)
theorem j0_go (s : ByteArray) (r : Int) (h : Ev (fun k => odometerref23_number.l0 k s 0 0) r) : Ev (fun k => odometerref23_number.j0 k s 0 false) r := Ev.step (f := fun k => odometerref23_number.l0 k s 0 0) (fun k => by simp [odometerref23_number.j0]) h
theorem num_nil (s : ByteArray) (h0 : s.toList = ([] : List UInt8)) : Ev (fun k => odometerref23_number.f k s) (-1) :=
  Ev.congr (f := fun k => odometerref23_number.j0 k s 0 true) (fun k => by unfold odometerref23_number.f; rw [if_pos h0]) (j0_no s 0)
theorem num_long (s : ByteArray) (h0 : ¬ s.toList = ([] : List UInt8)) (h18 : ¬ s.size ≤ 18) : Ev (fun k => odometerref23_number.f k s) (-1) :=
  Ev.congr (f := fun k => odometerref23_number.j0 k s 0 true) (fun k => by unfold odometerref23_number.f; rw [if_neg h0, decide_eq_true (by omega)]) (j0_no s 0)
theorem num_some (s : ByteArray) (h0 : ¬ s.toList = ([] : List UInt8)) (h18 : s.size ≤ 18) : Ev (fun k => odometerref23_number.f k s) (nv 0 s.data.toList) := by
  refine Ev.congr (f := fun k => odometerref23_number.j0 k s 0 false) (fun k => by unfold odometerref23_number.f; rw [if_neg h0, decide_eq_false (by omega)]) (j0_go s _ ?_)
  have := num_from s h18 s.size 0 0 rfl (Nat.zero_le _) (Nat.pos_of_ne_zero (by decide))
  rwa [List.drop_zero] at this
theorem big16 (v : Int) (h0 : 0 ≤ v) (h : v ≤ 1125899906842624) : (Lib.itoa v).length ≤ 16 := by
  have e2 : Lib.itoa v = Lib.decDigits v.toNat := by unfold Lib.itoa; rw [if_neg (by omega)]
  have e3 : (10 : Nat) ^ (15 + 1) = 10000000000000000 := by decide
  rw [e2]
  exact dec_len 15 v.toNat (by rw [e3]; omega)
theorem nv_itoa (v : Int) (h0 : 0 ≤ v) : nv 0 (Lib.itoa v) = v := by
  have e2 : Lib.itoa v = Lib.decDigits v.toNat := by unfold Lib.itoa; rw [if_neg (by omega)]
  rw [e2, nv_dec]
  omega
theorem num_ev (s : ByteArray) : ∃ r : Int, Ev (fun k => odometerref23_number.f k s) r ∧ ∀ v : Int, 0 ≤ v → v ≤ 1125899906842624 → s.data.toList = Lib.itoa v → r = v := by
  by_cases h0 : s.toList = ([] : List UInt8)
  · refine ⟨-1, num_nil s h0, fun v hv _ e => ?_⟩
    rw [Lib.toList_data] at h0
    rw [h0] at e
    exact absurd e.symm (itoa_ne v hv)
  · by_cases h18 : s.size ≤ 18
    · exact ⟨_, num_some s h0 h18, fun v hv hv2 e => by rw [e]; exact nv_itoa v hv⟩
    · refine ⟨-1, num_long s h0 h18, fun v hv hv2 e => ?_⟩
      have h4 := Lib.size_eq s
      have h5 := big16 v hv hv2
      rw [e] at h4
      omega
theorem num_ref (s : ByteArray) : ∃ r : Int, (∀ w : World, Calls Tryz.prog 35 #[.string s] w fun e w' => e = .returned (.int .i64 r) ∧ Below w.heap.size w w') ∧ ∀ v : Int, 0 ≤ v → v ≤ 1125899906842624 → s.data.toList = Lib.itoa v → r = v := by
  obtain ⟨r, h, hv⟩ := num_ev s
  obtain ⟨j, hj⟩ := h.rounds
  exact ⟨r, fun w => (odometerref23_number.calls j s r w hj).mono fun e w' ⟨h1, h2⟩ => ⟨h1, h2.below⟩, hv⟩
end Go.Proofs.YtjapnbghnnbamaaGreatDoor.Nr
namespace Go.Proofs.YtjapnbghnnbamaaGreatDoor.On
open Go.RowKit Go.Proofs.YtjapnbghnnbamaaGreatDoorW.PrintWords Go.Proofs.YtjapnbghnnbamaaGreatDoorW.PrintLast Go.Proofs.YtjapnbghnnbamaaGreatDoor.Ext Go.Proofs.YtjapnbghnnbamaaGreatDoor.Q Go.Proofs.YtjapnbghnnbamaaGreatDoor.S Go.Proofs.YtjapnbghnnbamaaGreatDoor.K Go.Proofs.YtjapnbghnnbamaaGreatDoor.L Go.Proofs.YtjapnbghnnbamaaGreatDoor.T Go.Proofs.YtjapnbghnnbamaaGreatDoor.W Go.Proofs.YtjapnbghnnbamaaGreatDoor.Rq Go.Proofs.YtjapnbghnnbamaaGreatDoor.ZT Go.Proofs.YtjapnbghnnbamaaGreatDoor.Nr Go.Proofs.YtjapnbghnnbamaaGreatDoor.U
open Go.Proofs.YtjapnbghnnbamaaGreatDoor.Plain (quote quote_inj)
set_option linter.unusedVariables false
set_option linter.unusedSimpArgs false
theorem to_str (D : ByteArray) (n : Nat) (i : Int) (hi : i = (n : Int)) (h : n ≤ D.size) : ∃ D2 : ByteArray, D2.data.toList = D.data.toList.take n ∧ ∀ W : World, (Instr.slice 9 (.string D) none (some (.int .i64 i)) none).run Tryz.prog W = .ok (.string D2) W := by
  refine ⟨D.extract 0 n, ?_, fun W => ?_⟩
  · rw [Lib.extract_data]; simp
  · subst hi
    have a1 : (0 : Int) ≤ (n : Int) := by omega
    have a2 : (n : Int) ≤ (D.size : Int) := by omega
    go_simp
theorem at_str {t : ByteArray} {i : Nat} {c : UInt8} (h : t.data.toList[i]? = some c) (W : World) : (Instr.index 9 (.string t) (.int .i64 (i : Int))).run Tryz.prog W = .ok (.int .u8 (c.toNat : Int)) W := by
  obtain ⟨hi, hc⟩ := List.getElem?_eq_some_iff.1 h
  have h0 : i < t.size := by rw [Lib.size_eq]; exact hi
  have hg : t[i]'h0 = c := hc
  rw [← hg]
  go_simp
theorem kind_take {l : List UInt8} {i : Nat} (hc : l[i]? = some 32) (hn : ∀ x ∈ l.take i, x ≠ 32) : wordOf l = l.take i ∧ restOf l = l.drop (i + 1) := by
  obtain ⟨hi, he⟩ := List.getElem?_eq_some_iff.1 hc
  have e : l = l.take i ++ 32 :: l.drop (i + 1) := by rw [← he, List.getElem_cons_drop, List.take_append_drop]
  unfold wordOf restOf
  conv => lhs; lhs; rw [e, cut_at hn]
  conv => rhs; lhs; rw [e, cut_at hn]
  exact ⟨rfl, rfl⟩
theorem why0 {l : List UInt8} (h : kindOf (wordOf l) = 0) (en : En) (h1 : MayE en) (h2 : lineL en = l) : False := by
  have := (parsed h1).1
  rw [h2] at this
  rw [this, kindOf_kn ⟨h1.1, h1.2.1⟩] at h
  have := h1.1
  omega
theorem whyS {l : List UInt8} (h : ∀ x ∈ l, x ≠ 32) (en : En) (h1 : MayE en) (h2 : lineL en = l) : False := by
  refine h 32 ?_ rfl
  rw [← h2, lineL_eq]
  simp
theorem kind_en {l : List UInt8} (en : En) (h1 : MayE en) (h2 : lineL en = l) : en.k = kindOf (wordOf l) := by
  have := (parsed h1).1
  rw [h2] at this
  rw [this, kindOf_kn ⟨h1.1, h1.2.1⟩]
theorem why7 {l : List UInt8} (h7 : kindOf (wordOf l) = 7) (en : En) (h1 : MayE en) (h2 : lineL en = l) : (restOf l = [121, 101, 115] → en = ⟨7, 0, 1, []⟩) ∧ (restOf l ≠ [121, 101, 115] → en = ⟨7, 0, 0, []⟩) := by
  have e := (kind_en en h1 h2).trans h7
  have hs := may_sink h1 e
  have hr := (parsed h1).2.1 e
  rw [h2] at hr
  refine ⟨fun hy => En.ext' e hs.1 ?_ hs.2.2, fun hy => En.ext' e hs.1 ?_ hs.2.2⟩
  · rcases hs.2.1 with h0 | h0
    · rw [if_pos h0, hy] at hr; exact absurd hr (by decide)
    · exact h0
  · rcases hs.2.1 with h0 | h0
    · exact h0
    · rw [if_neg (by omega)] at hr; exact absurd hr hy
theorem whyn {l : List UInt8} {r : Int} (hv : ∀ v : Int, 0 ≤ v → v ≤ 1125899906842624 → atOf l = Lib.itoa v → r = v) (h7 : kindOf (wordOf l) ≠ 7) (en : En) (h1 : MayE en) (h2 : lineL en = l) :
    en.k = kindOf (wordOf l) ∧ 0 ≤ r ∧ (en.k = 1 → en = ⟨1, 0, r, []⟩) ∧ (en.k ≠ 1 → r ≤ 2147483647 ∧ (en.k ≠ 6 → en = ⟨en.k, r, 0, []⟩) ∧ (en.k = 6 → en = ⟨6, r, 0, en.b⟩ ∧ quote en.b = quotedOf l)) := by
  have e := kind_en en h1 h2
  have hp := parsed h1
  rw [h2] at hp
  by_cases k1 : en.k = 1
  · have ht := may_tick h1 k1
    have hr := hv en.n ht.2.1 ht.2.2.1 (hp.2.2.1 k1).2
    exact ⟨e, by omega, fun _ => En.ext' k1 ht.1 hr.symm ht.2.2.2, fun h => absurd k1 h⟩
  · have ha := h1.2.2.1
    have ha2 := h1.2.2.2.1
    have hr := hv en.a ha (by omega) (hp.2.2.2.1 k1 (by omega)).2
    refine ⟨e, by omega, fun h => absurd h k1, fun _ => ⟨by omega, fun k6 => ?_, fun k6 => ?_⟩⟩
    · have ho := may_other h1 k1 (by omega) k6
      exact En.ext' rfl hr.symm ho.1 ho.2
    · have hb := may_bytes h1 k6
      exact ⟨En.ext' k6 hr.symm hb.1 rfl, (hp.2.2.2.2 k6).symm⟩
theorem exit_at {y : List UInt8} {e : Nat} (hn : ∀ x ∈ y.take e, x ≠ 32) (h : e = y.length ∨ y[e]? = some 32) : (Lib.cut y [32]).1 = y.take e ∧ (Lib.cut y [32]).2.1 = y.drop (e + 1) := by
  rcases h with h | h
  · subst h
    rw [List.take_length] at hn ⊢
    rw [cut_none hn, List.drop_eq_nil_of_le (by omega)]
    exact ⟨rfl, rfl⟩
  · exact kind_take h hn
theorem min_drop (D : ByteArray) (e : Nat) : (D.extract (min ((e : Int) + 1) (D.size : Int)).toNat D.size).data.toList = D.data.toList.drop (e + 1) := by
  rw [Lib.extract_to_end]
  have hz := Lib.size_eq D
  by_cases h : e + 1 ≤ D.size
  · rw [show (min ((e : Int) + 1) (D.size : Int)).toNat = e + 1 by omega]
  · rw [show (min ((e : Int) + 1) (D.size : Int)).toNat = D.size by omega, List.drop_eq_nil_of_le (by omega), List.drop_eq_nil_of_le (by omega)]
theorem is_cases {DL : ByteArray} {en : En} (h : DL = ba (lineL en)) (s : ByteArray) : ((DL.toList == s.toList) = true ∧ lineL en = s.data.toList) ∨ ((DL.toList == s.toList) = false ∧ lineL en ≠ s.data.toList) := by
  have e : DL.toList = lineL en := by rw [h, Lib.toList_data]
  rw [e, Lib.toList_data]
  by_cases hl : lineL en = s.data.toList
  · exact .inl ⟨beq_iff_eq.2 hl, hl⟩
  · exact .inr ⟨beq_eq_false_iff_ne.mpr hl, hl⟩
variable {w0 w : World} {g : Nat}
theorem put4 (h : w.heap[g]? = some (.cells #[.int .i64 0, .int .i64 0, .int .i64 0, .slice none 0 0] 35 (0, 0))) (a b c d : Value) : ((((w.setCell ⟨g, 0, none⟩ a).setCell ⟨g, 1, none⟩ b).setCell ⟨g, 2, none⟩ c).setCell ⟨g, 3, none⟩ d).heap[g]? = some (.cells #[a, b, c, d] 35 (0, 0)) :=
  blk_put (blk_put (blk_put (blk_put h 0 _ rfl) 1 _ rfl) 2 _ rfl) 3 _ rfl
theorem put4_below (hg : g = w0.heap.size) (h : Below g w0 w) (a b c d : Value) : Below w0.heap.size w0 ((((w.setCell ⟨g, 0, none⟩ a).setCell ⟨g, 1, none⟩ b).setCell ⟨g, 2, none⟩ c).setCell ⟨g, 3, none⟩ d) := by
  rw [← hg]
  exact (((h.setCell (p := ⟨g, 0, none⟩) (Nat.le_refl _) _).setCell (p := ⟨g, 1, none⟩) (Nat.le_refl _) _).setCell (p := ⟨g, 2, none⟩) (Nat.le_refl _) _).setCell (p := ⟨g, 3, none⟩) (Nat.le_refl _) _
/-- What one leaves. -/
def PostN (s : ByteArray) (w : World) (e : Ending) (w' : World) : Prop :=
  Below w.heap.size w w' ∧ ∃ k a n A m c is, e = .returned (.tuple #[.agg #[.int .i64 k, .int .i64 a, .int .i64 n, .slice A m c], .bool is]) ∧ ((is = true ∧ ∃ b, RV w' w.heap.size (.slice A m c) b ∧ MayE ⟨k, a, n, b⟩ ∧ lineL ⟨k, a, n, b⟩ = s.data.toList) ∨ (is = false ∧ ∀ en, MayE en → lineL en ≠ s.data.toList))
set_option maxHeartbeats 16000000 in
set_option maxRecDepth 1000000 in
theorem one_calls (s : ByteArray) (hm : s.size ≤ 100000) (w : World) : Calls Tryz.prog 17 #[.string s] w (PostN s w) := by
  obtain ⟨l, hl⟩ : ∃ l, l = s.data.toList := ⟨_, rfl⟩
  have HL := Aside0.mk hl
  have HSZ := Aside0.mk (show s.size = l.length from by rw [hl]; exact Lib.size_eq s)
  have HM := Aside0.mk hm
  clear hm hl
  go_enter Tryz.func17, Tryz.ntmps17
  go_upto_region 1 with (fail)
  obtain ⟨W1, hW1⟩ : ∃ W1, W1 = w.alloc (Obj.cells #[.int .i64 0, .int .i64 0, .int .i64 0, .slice none 0 0] 35) := ⟨_, rfl⟩
  obtain ⟨g, hg⟩ : ∃ g, g = w.heap.size := ⟨_, rfl⟩
  have HQ1 := Aside0.mk (show W1.heap[g]? = some (.cells #[.int .i64 0, .int .i64 0, .int .i64 0, .slice none 0 0] 35 (0, 0)) from by rw [hW1, hg]; exact blk_new w _)
  have HB1 := Aside0.mk (show Below g w W1 from by rw [hW1, hg]; exact below_alloc (Below.refl _ _) _)
  have HGE := Aside0.mk hg
  rw [← hW1, ← hg]
  clear hW1 hg
  go_wp2
  go_loopg [4] (s.size + 1) (fun kq v4 w' => ∃ i : Nat, v4 = .int .i64 (i : Int) ∧ Aside0 (s.size - i < kq ∧ i ≤ s.size ∧ ∀ x ∈ l.take i, x ≠ 32) ∧ w' = W1)
  case atStart => exact ⟨0, rfl, ⟨by omega, by omega, by simp⟩, rfl⟩
  case round =>
    obtain ⟨i, rfl, HI, hw⟩ := hrel
    rw [hw]
    clear hw
    have hbi : (i : Int) ≤ 100000 := by have := HI.out.2.1; have := HM.out; omega
    have hwi : wrap64 ((i : Int) + 1) = ((i + 1 : Nat) : Int) := by unfold wrap64; omega
    by_cases hi : i < s.size
    · obtain ⟨c, hc⟩ : ∃ c, l[i]? = some c := ⟨l[i]'(by have := HSZ.out; omega), List.getElem?_eq_getElem _⟩
      have hidx := at_str (t := s) (i := i) (c := c) (by rw [← HL.out]; exact hc)
      have hc0 : ((i : Int) < (s.size : Int)) = True := eq_true (Int.ofNat_lt.2 hi)
      have hc1 : decide ((i : Int) < (s.size : Int)) = true := decide_eq_true (Int.ofNat_lt.2 hi)
      have HI2 := Aside0.mk hi
      by_cases h32 : c = 32
      · subst h32
        have HC := Aside0.mk hc
        have hge : decide ((i : Int) ≥ (s.size : Int)) = false := decide_eq_false (by omega)
        have hge2 : ((s.size : Int) ≤ (i : Int)) = False := eq_false (by omega)
        obtain ⟨Y, hY, hslY⟩ := from_str W1 s (i + 1) (((i : Int) + 1)) (by omega) (by omega)
        have HY := Aside0.mk hY
        go_upto_region 8 with (fail)
        obtain ⟨X, hX, hslX⟩ := to_str s i (i : Int) rfl (by omega)
        have hkt := kind_take hc HI.out.2.2
        have HX := Aside0.mk (show X.data.toList = wordOf l from by rw [hX, ← HL.out]; exact hkt.1.symm)
        have HYR := Aside0.mk (show Y.data.toList = restOf l from by rw [HY.out, ← HL.out]; exact hkt.2.symm)
        obtain ⟨KD, hKD⟩ : ∃ KD, KD = kindOf (wordOf l) := ⟨_, rfl⟩
        have HK := Aside0.mk hKD
        have HKB := Aside0.mk (show 0 ≤ KD ∧ KD ≤ 7 from by rw [hKD]; exact kindOf_le _)
        obtain ⟨g2, hg2⟩ : ∃ g2, g2 = W1.heap.size := ⟨_, rfl⟩
        have HG2 := Aside0.mk hg2
        have HGG := Aside0.mk (show g < g2 from by rw [hg2]; exact blk_lt HQ1.out)
        have HBB := Aside0.mk (show Below g2 W1 W1 from Below.refl _ _)
        clear hi hc hX hKD hg2 hkt HC HI HI2 hidx hc0 hc1 hge hge2
        clear hslY
        go_loopg [6] 9 (fun kq v6 w' => ∃ k : Nat, v6 = .int .i64 (k : Int) ∧ Aside0 (8 - k < kq ∧ 1 ≤ k ∧ k ≤ 8 ∧ (KD = 0 ∨ (k : Int) ≤ KD)) ∧ Aside0 (Below g2 W1 w'))
        case atStart => exact ⟨1, rfl, ⟨by omega, by omega, by omega, by have := HKB.out; omega⟩, HBB⟩
        case round =>
          clear HBB
          obtain ⟨k, rfl, HI, HB⟩ := hrel
          have HQ := Aside0.mk ((HB.out.block g HGG.out).trans HQ1.out)
          have HBW := Aside0.mk (show Below g w wr from HB1.out.trans (HB.out.mono (Nat.le_of_lt HGG.out)))
          by_cases h8 : k = 8
          · subst h8
            have d0 := (blk_cell HQ.out 0).trans (rfl : _ = some (Value.int .i64 0))
            have d1 := (blk_cell HQ.out 1).trans (rfl : _ = some (Value.int .i64 0))
            have d2 := (blk_cell HQ.out 2).trans (rfl : _ = some (Value.int .i64 0))
            have d3 := (blk_cell HQ.out 3).trans (rfl : _ = some (Value.slice none 0 0))
            have r0 := blk_frozen HQ.out 0
            have r1 := blk_frozen HQ.out 1
            have r2 := blk_frozen HQ.out 2
            have r3 := blk_frozen HQ.out 3
            go_wp2
            try simp only [Exit.inBlock, Exit.then]
            exact bodyPost_ret (results_ct9 rfl _ _ g 35 _ (0, 0) _ rfl (put4 HQ.out _ _ _ _) Tryz.underlying35 rfl (by kernel_rfl)) rfl ⟨put4_below HGE.out HBW.out _ _ _ _, _, _, _, _, _, _, _, rfl, .inr ⟨rfl, fun en h1 h2 => why0 (by rw [← HK.out]; have := HI.out; have := HKB.out; omega) en h1 (by rw [HL.out]; exact h2)⟩⟩
          · have HK7 := Aside0.mk (show k ≤ 7 from by have := HI.out; omega)
            have c8 : decide ((k : Int) ≤ 7) = true := decide_eq_true (by have := HK7.out; omega)
            have hwk : wrap64 ((k : Int) + 1) = ((k + 1 : Nat) : Int) := by have := HK7.out; unfold wrap64; omega
            obtain ⟨D, hD⟩ : ∃ D, D = kn (k : Int) := ⟨_, rfl⟩
            have HD := Aside0.mk hD
            have HWD := Aside0.mk (fun (W : World) => show Calls Tryz.prog 19 #[.int .i64 (k : Int)] W fun e w' => e = .returned (.string D) ∧ Below W.heap.size W w' from hD ▸ word_ref (k : Int) W)
            clear h8 hD
            go_upto_region 10 with (fail)
            refine start_ (n := 6) (S := fun w' => Below wr.heap.size wr w') (ds := []) #[false, false, false, false, false, false] (by kernel_rfl) rfl rfl (below_drew1 (Below.refl _ _)) (fun hHeld => ?_)
            have hS0 := Aside0.mk (show Below wr.heap.size wr wr.drew from below_drew1 (Below.refl _ _))
            refine pure_ (i := 0) (N := some 37) (v := ?_) (a' := ?_) #[true, false, false, false, false, false] rfl rfl (by kernel_rfl) (fun _ _ _ h => h) (Or.inl ⟨by rfl, ?_⟩) ?_ ?_
            rotate_left
            · intro w'
              go_simp
              with_reducible rfl
            rotate_left
            · simp only [Act.put, List.setIfInBounds_toArray, List.set_cons_zero, List.set_cons_succ, i64_w, i32_w]
              rfl
            refine pure_ (i := 2) (N := some 39) (v := ?_) (a' := ?_) #[true, false, true, false, false, false] rfl rfl (by kernel_rfl) (fun _ _ _ h => h) (Or.inl ⟨by rfl, ?_⟩) ?_ ?_
            rotate_left
            · intro w'
              go_simp
              with_reducible rfl
            rotate_left
            · simp only [Act.put, List.setIfInBounds_toArray, List.set_cons_zero, List.set_cons_succ, i64_w, i32_w]
              rfl
            refine pure_ (i := 3) (N := some 40) (v := ?_) (a' := ?_) #[true, false, true, true, false, false] rfl rfl (by kernel_rfl) (fun _ _ _ h => h) (Or.inl ⟨by rfl, ?_⟩) ?_ ?_
            rotate_left
            · intro w'
              go_simp
              with_reducible rfl
            rotate_left
            · simp only [Act.put, List.setIfInBounds_toArray, List.set_cons_zero, List.set_cons_succ, i64_w, i32_w]
              rfl
            refine pure_ (i := 4) (N := some 41) (v := ?_) (a' := ?_) #[true, false, true, true, true, false] rfl rfl (by kernel_rfl) (fun _ _ _ h => h) (Or.inl ⟨by rfl, ?_⟩) ?_ ?_
            rotate_left
            · intro w'
              go_simp
              with_reducible rfl
            rotate_left
            · simp only [Act.put, List.setIfInBounds_toArray, List.set_cons_zero, List.set_cons_succ, i64_w, i32_w]
              rfl
            refine one_ (i := 1) (N := some 38) #[true, true, true, true, true, false] rfl rfl (by kernel_rfl) (by decide) (fun K hK => ?_)
            refine goes_ Tryz.func19 (by kernel_rfl) rfl #[.int .i64 (k : Int)] (by rfl) rfl rfl (by simp [Act.eval]) ?_
            refine (HWD.out _).mono ?_
            rintro e x1 ⟨rfl, hb⟩
            refine ⟨_, rfl, ?_⟩
            have hSa := Aside0.mk (hS0.out.trans (hb.mono hS0.out.size))
            refine hK.out _ _ hSa.out (fun hHeld => ?_)
            clear hK K hb hHeld
            refine norm_ (a' := ?_) ?_ ?_
            rotate_left
            · show Act.put _ (some 38) _ = _
              simp only [Act.put, List.setIfInBounds_toArray, List.set_cons_zero, List.set_cons_succ, i64_w, i32_w]
              rfl
            by_cases hDX : D = X
            · subst hDX
              refine pure_ (i := 5) (N := some 42) (v := ?_) (a' := ?_) #[true, true, true, true, true, true] rfl rfl (by kernel_rfl) (fun _ _ _ h => h) (Or.inl ⟨by rfl, ?_⟩) ?_ ?_
              rotate_left
              · intro w'
                go_simp
                with_reducible rfl
              rotate_left
              · simp only [Act.put, List.setIfInBounds_toArray, List.set_cons_zero, List.set_cons_succ, i64_w, i32_w]
                rfl
              refine done_ (by kernel_rfl) ?_
              have HKK := Aside0.mk (show KD = (k : Int) from by rw [HK.out, ← HX.out, HD.out]; exact kindOf_kn (by have := HI.out; have := HK7.out; omega))
              have HBX := Aside0.mk (show Below g w x1 from HBW.out.trans (hSa.out.mono (Nat.le_of_lt (blk_lt HQ.out))))
              have HQX := Aside0.mk (blk_below HQ.out hSa.out)
              go_upto_region 12 with (fail)
              obtain ⟨W2, hW2⟩ : ∃ W2, W2 = x1.alloc (Obj.cells #[.int .i64 (k : Int), .int .i64 0, .int .i64 0, .slice none 0 0] 35) := ⟨_, rfl⟩
              obtain ⟨p, hp⟩ : ∃ p, p = x1.heap.size := ⟨_, rfl⟩
              have hgp : g < p := by rw [hp]; exact blk_lt HQX.out
              have HS := Aside0.mk (show St w W2 g p (k : Int) 0 0 (.slice none 0 0) [] w.heap.size from ⟨hgp, HGE.out, by rw [hW2, hp]; exact blk_new x1 _, by rw [hW2]; exact blk_alloc HQX.out _, by rw [hW2]; exact HBX.out.trans ((below_alloc (Below.refl _ _) _).mono (by rw [hp] at hgp; omega)), Kd.R_nil _ _ _ _ _⟩)
              rw [← hW2, ← hp]
              obtain ⟨kz, hkz⟩ : ∃ kz, kz = (k : Int) := ⟨_, rfl⟩
              rw [← hkz] at HS HKK ⊢
              have HKZ := Aside0.mk (show kindOf (wordOf l) = kz from by rw [← HK.out]; exact HKK.out)
              have hk1 : 1 ≤ kz ∧ kz ≤ 7 := by rw [hkz]; have := HI.out; have := HK7.out; omega
              have HK17 := Aside0.mk hk1
              clear hW2 hp hgp hkz hk1 hwk c8 hSa hS0 HB HQ HBW HBX HQX HD HWD HKK HK HKB HI HK7
              by_cases h7 : kz = 7
              · subst h7
                by_cases hY : Y = ⟨#[121, 101, 115]⟩
                · have HYY := Aside0.mk (show restOf l = [121, 101, 115] from by rw [← HYR.out, hY])
                  subst hY
                  have c0 := HS.out.c0
                  have c1 := HS.out.c1
                  have c2 := HS.out.c2
                  have c3 := HS.out.c3
                  have q1 := HS.out.fp 1
                  have q2 := HS.out.fp 2
                  have q3 := HS.out.fp 3
                  go_upto_region 15 with (fail)
                  clear c0 c1 c2 c3 q1 q2 q3
                  obtain ⟨W5, hW5⟩ : ∃ W5, W5 = W2.setCell ⟨p, 2, none⟩ (.int .i64 1) := ⟨_, rfl⟩
                  have HT := Aside0.mk (show St w W5 g p 7 0 1 (.slice none 0 0) [] w.heap.size from by rw [hW5]; exact HS.out.set2 1)
                  rw [← hW5]
                  clear hW5
                  have HMY := Aside0.mk (show MayE ⟨7, 0, 1, []⟩ from by unfold MayE; simp)
                  obtain ⟨DL, hDL⟩ : ∃ DL, DL = ba (lineL ⟨7, 0, 1, []⟩) := ⟨_, rfl⟩
                  have HDL := Aside0.mk hDL.symm
                  clear hDL
                  refine start_ (n := 7) (S := fun w' => w'.heap[p]? = some (.cells #[.int .i64 7, .int .i64 0, .int .i64 1, .slice none 0 0] 35 (0, 0))) (ds := []) #[false, false, false, false, false, false, false] (by kernel_rfl) rfl rfl HT.out.P (fun hHeld => ?_)
                  have HT0 := Aside0.mk (HT.out.below (show Below W5.heap.size W5 W5.drew from below_drew1 (Below.refl _ _)))
                  refine pure_ (i := 3) (N := some 53) (v := ?_) (a' := ?_) #[false, false, false, true, false, false, false] rfl rfl (by kernel_rfl) (fun _ _ _ h => h) (Or.inl ⟨by rfl, ?_⟩) ?_ ?_
                  rotate_left
                  · intro w'
                    go_simp
                    with_reducible rfl
                  rotate_left
                  · simp only [Act.put, List.setIfInBounds_toArray, List.set_cons_zero, List.set_cons_succ, i64_w, i32_w]
                    rfl
                  refine take_ (i := 0) (N := some 50) (v := ?_) (a' := ?_) #[true, false, false, true, false, false, false] rfl rfl (by kernel_rfl) (fun _ _ _ h => h) (Or.inl ⟨by rfl, ?_⟩) hHeld ?_ ?_
                  rotate_left
                  · intro w' hS'
                    have c0 : w'.cell? ⟨p, 0, none⟩ = some (.int .i64 7) := (blk_cell hS' 0).trans rfl; have c1 : w'.cell? ⟨p, 1, none⟩ = some (.int .i64 0) := (blk_cell hS' 1).trans rfl; have c2 : w'.cell? ⟨p, 2, none⟩ = some (.int .i64 1) := (blk_cell hS' 2).trans rfl; have c3 : w'.cell? ⟨p, 3, none⟩ = some (.slice none 0 0) := (blk_cell hS' 3).trans rfl
                    go_simp
                    with_reducible rfl
                  rotate_left
                  · simp only [Act.put, List.setIfInBounds_toArray, List.set_cons_zero, List.set_cons_succ, i64_w, i32_w]
                    rfl
                  refine take_ (i := 1) (N := some 51) (v := ?_) (a' := ?_) #[true, true, false, true, false, false, false] rfl rfl (by kernel_rfl) (fun _ _ _ h => h) (Or.inl ⟨by rfl, ?_⟩) hHeld ?_ ?_
                  rotate_left
                  · intro w' hS'
                    have c0 : w'.cell? ⟨p, 0, none⟩ = some (.int .i64 7) := (blk_cell hS' 0).trans rfl; have c1 : w'.cell? ⟨p, 1, none⟩ = some (.int .i64 0) := (blk_cell hS' 1).trans rfl; have c2 : w'.cell? ⟨p, 2, none⟩ = some (.int .i64 1) := (blk_cell hS' 2).trans rfl; have c3 : w'.cell? ⟨p, 3, none⟩ = some (.slice none 0 0) := (blk_cell hS' 3).trans rfl
                    go_simp
                    with_reducible rfl
                  rotate_left
                  · simp only [Act.put, List.setIfInBounds_toArray, List.set_cons_zero, List.set_cons_succ, i64_w, i32_w]
                    rfl
                  refine one_ (i := 2) (N := some 52) #[true, true, true, true, false, false, false] rfl rfl (by kernel_rfl) (by decide) (fun K hK => ?_)
                  refine goes_ Tryz.func18 (by kernel_rfl) rfl #[.agg #[.int .i64 7, .int .i64 0, .int .i64 1, .slice none 0 0]] (by rfl) rfl rfl (by simp [Act.eval]) ?_
                  refine (show Calls Tryz.prog 18 #[.agg #[.int .i64 7, .int .i64 0, .int .i64 1, .slice none 0 0]] _ (fun x w' => x = .returned (.string DL) ∧ Below _ _ w') from HDL.out ▸ line_ref 7 0 1 [] (.slice none 0 0) _ HT0.out.V.byt HMY.out).mono ?_
                  rintro e y2 ⟨rfl, hb⟩
                  refine ⟨_, rfl, ?_⟩
                  have HTa := Aside0.mk (HT0.out.below hb)
                  refine hK.out _ _ HTa.out.P (fun hHeld => ?_)
                  clear hK K hb
                  refine norm_ (a' := ?_) ?_ ?_
                  rotate_left
                  · show Act.put _ (some 52) _ = _
                    simp only [Act.put, List.setIfInBounds_toArray, List.set_cons_zero, List.set_cons_succ, i64_w, i32_w]
                    rfl
                  refine pure_ (i := 4) (N := some 54) (v := ?_) (a' := ?_) #[true, true, true, true, true, false, false] rfl rfl (by kernel_rfl) (fun _ _ _ h => h) (Or.inl ⟨by rfl, ?_⟩) ?_ ?_
                  rotate_left
                  · intro w'
                    go_simp
                    with_reducible rfl
                  rotate_left
                  · simp only [Act.put, List.setIfInBounds_toArray, List.set_cons_zero, List.set_cons_succ, i64_w, i32_w]
                    rfl
                  refine one_ (i := 5) (N := none) #[true, true, true, true, true, true, false] rfl rfl (by kernel_rfl) (by decide) (fun K hK => ?_)
                  have d0 := HTa.out.d0
                  have d1 := HTa.out.d1
                  have d2 := HTa.out.d2
                  have d3 := HTa.out.d3
                  have r0 := HTa.out.fg 0
                  have r1 := HTa.out.fg 1
                  have r2 := HTa.out.fg 2
                  have r3 := HTa.out.fg 3
                  refine skip_ (w1 := ?_) (by rfl) rfl ?_ ?_
                  rotate_left
                  · go_simp
                    rfl
                  refine hK.out _ _ (blk_far (blk_far (blk_far (blk_far HTa.out.P (p := ⟨g, 0, none⟩) (Ne.symm HTa.out.far) _) (p := ⟨g, 1, none⟩) (Ne.symm HTa.out.far) _) (p := ⟨g, 2, none⟩) (Ne.symm HTa.out.far) _) (p := ⟨g, 3, none⟩) (Ne.symm HTa.out.far) _) (fun hHeld => ?_)
                  clear hK K d0 d1 d2 d3 r0 r1 r2 r3
                  refine pure_ (i := 6) (N := some 3) (v := ?_) (a' := ?_) #[true, true, true, true, true, true, true] rfl rfl (by kernel_rfl) (fun _ _ _ h => h) (Or.inl ⟨by rfl, ?_⟩) ?_ ?_
                  rotate_left
                  · intro w'
                    go_simp
                    with_reducible rfl
                  rotate_left
                  · simp only [Act.put, List.setIfInBounds_toArray, List.set_cons_zero, List.set_cons_succ, i64_w, i32_w]
                    rfl
                  refine done_ (by kernel_rfl) ?_
                  go_wp2
                  try simp only [Exit.inBlock, Exit.then]
                  exact bodyPost_ret (results_ct9 rfl _ _ g 35 _ (0, 0) _ rfl HTa.out.full Tryz.underlying35 rfl (by kernel_rfl)) rfl ⟨HTa.out.ret.1, _, _, _, _, _, _, _, rfl, (is_cases HDL.out.symm s).elim (fun h => .inl ⟨h.1, [], HTa.out.ret.2, HMY.out, h.2⟩) (fun h => .inr ⟨h.1, fun en h1 h2 => h.2 ((show en = ⟨7, 0, 1, []⟩ from by rw [← HL.out] at h2; exact ((why7 HKZ.out en h1 h2).1 HYY.out)) ▸ h2)⟩)⟩
                · have HYY := Aside0.mk (show restOf l ≠ [121, 101, 115] from fun e => hY (ByteArray.ext (Array.toList_inj.1 (by rw [HYR.out, e]))))
                  have y2 : (Y.toList == [121, 101, 115]) = false := beq_eq_false_iff_ne.mpr (fun e => hY (ByteArray.ext (Array.toList_inj.1 (by rw [Lib.toList_data] at e; exact e))))
                  have c0 := HS.out.c0
                  have c1 := HS.out.c1
                  have c2 := HS.out.c2
                  have c3 := HS.out.c3
                  have q1 := HS.out.fp 1
                  have q2 := HS.out.fp 2
                  have q3 := HS.out.fp 3
                  go_upto_region 15 with (fail)
                  clear c0 c1 c2 c3 q1 q2 q3
                  obtain ⟨W5, hW5⟩ : ∃ W5, W5 = W2 := ⟨_, rfl⟩
                  have HT := Aside0.mk (show St w W5 g p 7 0 0 (.slice none 0 0) [] w.heap.size from by rw [hW5]; exact HS.out)
                  rw [← hW5]
                  clear hW5
                  have HMY := Aside0.mk (show MayE ⟨7, 0, 0, []⟩ from by unfold MayE; simp)
                  obtain ⟨DL, hDL⟩ : ∃ DL, DL = ba (lineL ⟨7, 0, 0, []⟩) := ⟨_, rfl⟩
                  have HDL := Aside0.mk hDL.symm
                  clear hDL
                  refine start_ (n := 7) (S := fun w' => w'.heap[p]? = some (.cells #[.int .i64 7, .int .i64 0, .int .i64 0, .slice none 0 0] 35 (0, 0))) (ds := []) #[false, false, false, false, false, false, false] (by kernel_rfl) rfl rfl HT.out.P (fun hHeld => ?_)
                  have HT0 := Aside0.mk (HT.out.below (show Below W5.heap.size W5 W5.drew from below_drew1 (Below.refl _ _)))
                  refine pure_ (i := 3) (N := some 53) (v := ?_) (a' := ?_) #[false, false, false, true, false, false, false] rfl rfl (by kernel_rfl) (fun _ _ _ h => h) (Or.inl ⟨by rfl, ?_⟩) ?_ ?_
                  rotate_left
                  · intro w'
                    go_simp
                    with_reducible rfl
                  rotate_left
                  · simp only [Act.put, List.setIfInBounds_toArray, List.set_cons_zero, List.set_cons_succ, i64_w, i32_w]
                    rfl
                  refine take_ (i := 0) (N := some 50) (v := ?_) (a' := ?_) #[true, false, false, true, false, false, false] rfl rfl (by kernel_rfl) (fun _ _ _ h => h) (Or.inl ⟨by rfl, ?_⟩) hHeld ?_ ?_
                  rotate_left
                  · intro w' hS'
                    have c0 : w'.cell? ⟨p, 0, none⟩ = some (.int .i64 7) := (blk_cell hS' 0).trans rfl; have c1 : w'.cell? ⟨p, 1, none⟩ = some (.int .i64 0) := (blk_cell hS' 1).trans rfl; have c2 : w'.cell? ⟨p, 2, none⟩ = some (.int .i64 0) := (blk_cell hS' 2).trans rfl; have c3 : w'.cell? ⟨p, 3, none⟩ = some (.slice none 0 0) := (blk_cell hS' 3).trans rfl
                    go_simp
                    with_reducible rfl
                  rotate_left
                  · simp only [Act.put, List.setIfInBounds_toArray, List.set_cons_zero, List.set_cons_succ, i64_w, i32_w]
                    rfl
                  refine take_ (i := 1) (N := some 51) (v := ?_) (a' := ?_) #[true, true, false, true, false, false, false] rfl rfl (by kernel_rfl) (fun _ _ _ h => h) (Or.inl ⟨by rfl, ?_⟩) hHeld ?_ ?_
                  rotate_left
                  · intro w' hS'
                    have c0 : w'.cell? ⟨p, 0, none⟩ = some (.int .i64 7) := (blk_cell hS' 0).trans rfl; have c1 : w'.cell? ⟨p, 1, none⟩ = some (.int .i64 0) := (blk_cell hS' 1).trans rfl; have c2 : w'.cell? ⟨p, 2, none⟩ = some (.int .i64 0) := (blk_cell hS' 2).trans rfl; have c3 : w'.cell? ⟨p, 3, none⟩ = some (.slice none 0 0) := (blk_cell hS' 3).trans rfl
                    go_simp
                    with_reducible rfl
                  rotate_left
                  · simp only [Act.put, List.setIfInBounds_toArray, List.set_cons_zero, List.set_cons_succ, i64_w, i32_w]
                    rfl
                  refine one_ (i := 2) (N := some 52) #[true, true, true, true, false, false, false] rfl rfl (by kernel_rfl) (by decide) (fun K hK => ?_)
                  refine goes_ Tryz.func18 (by kernel_rfl) rfl #[.agg #[.int .i64 7, .int .i64 0, .int .i64 0, .slice none 0 0]] (by rfl) rfl rfl (by simp [Act.eval]) ?_
                  refine (show Calls Tryz.prog 18 #[.agg #[.int .i64 7, .int .i64 0, .int .i64 0, .slice none 0 0]] _ (fun x w' => x = .returned (.string DL) ∧ Below _ _ w') from HDL.out ▸ line_ref 7 0 0 [] (.slice none 0 0) _ HT0.out.V.byt HMY.out).mono ?_
                  rintro e y2 ⟨rfl, hb⟩
                  refine ⟨_, rfl, ?_⟩
                  have HTa := Aside0.mk (HT0.out.below hb)
                  refine hK.out _ _ HTa.out.P (fun hHeld => ?_)
                  clear hK K hb
                  refine norm_ (a' := ?_) ?_ ?_
                  rotate_left
                  · show Act.put _ (some 52) _ = _
                    simp only [Act.put, List.setIfInBounds_toArray, List.set_cons_zero, List.set_cons_succ, i64_w, i32_w]
                    rfl
                  refine pure_ (i := 4) (N := some 54) (v := ?_) (a' := ?_) #[true, true, true, true, true, false, false] rfl rfl (by kernel_rfl) (fun _ _ _ h => h) (Or.inl ⟨by rfl, ?_⟩) ?_ ?_
                  rotate_left
                  · intro w'
                    go_simp
                    with_reducible rfl
                  rotate_left
                  · simp only [Act.put, List.setIfInBounds_toArray, List.set_cons_zero, List.set_cons_succ, i64_w, i32_w]
                    rfl
                  refine one_ (i := 5) (N := none) #[true, true, true, true, true, true, false] rfl rfl (by kernel_rfl) (by decide) (fun K hK => ?_)
                  have d0 := HTa.out.d0
                  have d1 := HTa.out.d1
                  have d2 := HTa.out.d2
                  have d3 := HTa.out.d3
                  have r0 := HTa.out.fg 0
                  have r1 := HTa.out.fg 1
                  have r2 := HTa.out.fg 2
                  have r3 := HTa.out.fg 3
                  refine skip_ (w1 := ?_) (by rfl) rfl ?_ ?_
                  rotate_left
                  · go_simp
                    rfl
                  refine hK.out _ _ (blk_far (blk_far (blk_far (blk_far HTa.out.P (p := ⟨g, 0, none⟩) (Ne.symm HTa.out.far) _) (p := ⟨g, 1, none⟩) (Ne.symm HTa.out.far) _) (p := ⟨g, 2, none⟩) (Ne.symm HTa.out.far) _) (p := ⟨g, 3, none⟩) (Ne.symm HTa.out.far) _) (fun hHeld => ?_)
                  clear hK K d0 d1 d2 d3 r0 r1 r2 r3
                  refine pure_ (i := 6) (N := some 3) (v := ?_) (a' := ?_) #[true, true, true, true, true, true, true] rfl rfl (by kernel_rfl) (fun _ _ _ h => h) (Or.inl ⟨by rfl, ?_⟩) ?_ ?_
                  rotate_left
                  · intro w'
                    go_simp
                    with_reducible rfl
                  rotate_left
                  · simp only [Act.put, List.setIfInBounds_toArray, List.set_cons_zero, List.set_cons_succ, i64_w, i32_w]
                    rfl
                  refine done_ (by kernel_rfl) ?_
                  go_wp2
                  try simp only [Exit.inBlock, Exit.then]
                  exact bodyPost_ret (results_ct9 rfl _ _ g 35 _ (0, 0) _ rfl HTa.out.full Tryz.underlying35 rfl (by kernel_rfl)) rfl ⟨HTa.out.ret.1, _, _, _, _, _, _, _, rfl, (is_cases HDL.out.symm s).elim (fun h => .inl ⟨h.1, [], HTa.out.ret.2, HMY.out, h.2⟩) (fun h => .inr ⟨h.1, fun en h1 h2 => h.2 ((show en = ⟨7, 0, 0, []⟩ from by rw [← HL.out] at h2; exact ((why7 HKZ.out en h1 h2).2 HYY.out)) ▸ h2)⟩)⟩
              · have n7 : (kz == 7) = false := beq_eq_false_iff_ne.mpr h7
                have HN7 := Aside0.mk (show kindOf (wordOf l) ≠ 7 from by rw [HKZ.out]; exact h7)
                obtain ⟨y, hy⟩ : ∃ y, y = Y.data.toList := ⟨_, rfl⟩
                have HYL := Aside0.mk hy
                have HYS := Aside0.mk (show Y.size = y.length ∧ Y.size ≤ 100000 from by have h1 := Lib.size_eq Y; have h2 := word_len l; rw [HYR.out] at h1; have := HSZ.out; have := HM.out; exact ⟨by rw [hy]; exact Lib.size_eq Y, by omega⟩)
                clear h7 hy
                go_wp2
                clear n7
                go_loopg [8] (Y.size + 1) (fun kq v8 w' => ∃ e : Nat, v8 = .int .i64 (e : Int) ∧ Aside0 (Y.size - e < kq ∧ e ≤ Y.size ∧ ∀ x ∈ y.take e, x ≠ 32) ∧ w' = W2)
                case atStart => exact ⟨0, rfl, ⟨by omega, by omega, by simp⟩, rfl⟩
                case round =>
                  obtain ⟨e, rfl, HI, hw⟩ := hrel
                  rw [hw]
                  clear hw
                  have hbe : (e : Int) ≤ 100000 := by have := HI.out.2.1; have := HYS.out; omega
                  have hwe : wrap64 ((e : Int) + 1) = ((e + 1 : Nat) : Int) := by unfold wrap64; omega
                  obtain ⟨Z, hZ, hslZ⟩ := to_str Y e (e : Int) rfl HI.out.2.1
                  obtain ⟨Q, hQE⟩ : ∃ Q, Q = Y.extract (min ((e : Int) + 1) (Y.size : Int)).toNat Y.size := ⟨_, rfl⟩
                  have hQ : Q.data.toList = Y.data.toList.drop (e + 1) := by rw [hQE]; exact min_drop Y e
                  have HQE := Aside0.mk hQE.symm
                  have HQZ := Aside0.mk (show Q.size ≤ 100000 from by have h1 := Lib.size_eq Q; have h2 := Lib.size_eq Y; have h3 := HYS.out.2; rw [hQ, List.length_drop] at h1; omega)
                  obtain ⟨r, hcr, hvr⟩ := num_ref Z
                  have HCR := Aside0.mk hcr
                  have HZQ := Aside0.mk (show (e = y.length ∨ y[e]? = some 32) → Z.data.toList = atOf l ∧ Q.data.toList = quotedOf l from fun h => by
                    have h1 := exit_at HI.out.2.2 h
                    have e1 : y = restOf l := HYL.out.trans HYR.out
                    unfold atOf quotedOf
                    rw [← e1, h1.1, h1.2, hZ, hQ, HYL.out]
                    exact ⟨rfl, rfl⟩)
                  have HVR := Aside0.mk hvr
                  clear hZ hQ hQE hcr hvr
                  by_cases hi : e < Y.size
                  · obtain ⟨c, hc⟩ : ∃ c, y[e]? = some c := ⟨y[e]'(by have := HYS.out; omega), List.getElem?_eq_getElem _⟩
                    have hidx := at_str (t := Y) (i := e) (c := c) (by rw [← HYL.out]; exact hc)
                    have hc0 : ((e : Int) < (Y.size : Int)) = True := eq_true (Int.ofNat_lt.2 hi)
                    have hc1 : decide ((e : Int) < (Y.size : Int)) = true := decide_eq_true (Int.ofNat_lt.2 hi)
                    have HI2 := Aside0.mk hi
                    by_cases h32 : c = 32
                    · subst h32
                      have HZA := Aside0.mk (show Z.data.toList = atOf l from (HZQ.out (.inr hc)).1)
                      have HQA := Aside0.mk (show Q.data.toList = quotedOf l from (HZQ.out (.inr hc)).2)
                      clear hi hc
                      have HW := Aside0.mk (fun en h1 h2 => whyn (r := r) (fun v a b c => HVR.out v a b (HZA.out.trans c)) HN7.out en h1 h2)
                      go_upto_region 20 with (first | (go_at_call 35; (with_reducible refine (HCR.out _).mono ?_); rintro x w9 ⟨rfl, hb⟩; have HS9 := Aside0.mk (HS.out.below hb); clear hb))
                      clear hslZ
                      by_cases hr0 : r < 0
                      · have hr1 : decide (r < 0) = true := decide_eq_true hr0
                        have d0 := HS9.out.d0
                        have d1 := HS9.out.d1
                        have d2 := HS9.out.d2
                        have d3 := HS9.out.d3
                        have r0 := HS9.out.fg 0
                        have r1 := HS9.out.fg 1
                        have r2 := HS9.out.fg 2
                        have r3 := HS9.out.fg 3
                        have gp := HS9.out.far
                        have pg := Ne.symm HS9.out.far
                        go_wp2
                        try simp only [Exit.inBlock, Exit.then]
                        exact bodyPost_ret (results_ct9 rfl _ _ g 35 _ (0, 0) _ rfl (put4 HS9.out.Q _ _ _ _) Tryz.underlying35 rfl (by kernel_rfl)) rfl ⟨put4_below HGE.out HS9.out.B _ _ _ _, _, _, _, _, _, _, _, rfl, .inr ⟨rfl, fun en h1 h2 => by rw [← HL.out] at h2; have := (HW.out en h1 h2).2.1; omega⟩⟩
                      have hr1 : decide (r < 0) = false := decide_eq_false hr0
                      by_cases k1 : kz = 1
                      · subst k1
                        have c0 := HS9.out.c0
                        have c1 := HS9.out.c1
                        have c2 := HS9.out.c2
                        have c3 := HS9.out.c3
                        have q1 := HS9.out.fp 1
                        have q2 := HS9.out.fp 2
                        have q3 := HS9.out.fp 3
                        go_upto_region 30 with (fail)
                        clear c0 c1 c2 c3 q1 q2 q3
                        obtain ⟨W5, hW5⟩ : ∃ W5, W5 = w9.setCell ⟨p, 2, none⟩ (.int .i64 r) := ⟨_, rfl⟩
                        have HT := Aside0.mk (show St w W5 g p 1 0 r (.slice none 0 0) [] w.heap.size from by rw [hW5]; exact HS9.out.set2 r)
                        rw [← hW5]
                        clear hW5
                        by_cases hm : MayE ⟨1, 0, r, []⟩
                        · have HMY := Aside0.mk hm
                          have HMB := Aside0.mk ((mayB_iff ⟨1, 0, r, []⟩).2 hm)
                          clear hm
                          obtain ⟨DL, hDL⟩ : ∃ DL, DL = ba (lineL ⟨1, 0, r, []⟩) := ⟨_, rfl⟩
                          have HDL := Aside0.mk hDL.symm
                          clear hDL
                          refine start_ (n := 11) (S := fun w' => w'.heap[p]? = some (.cells #[.int .i64 1, .int .i64 0, .int .i64 r, .slice none 0 0] 35 (0, 0))) (ds := []) #[false, false, false, false, false, false, false, false, false, false, false] (by kernel_rfl) rfl rfl HT.out.P (fun hHeld => ?_)
                          have HT0 := Aside0.mk (HT.out.below (show Below W5.heap.size W5 W5.drew from below_drew1 (Below.refl _ _)))
                          refine take_ (i := 0) (N := some 106) (v := ?_) (a' := ?_) #[true, false, false, false, false, false, false, false, false, false, false] rfl rfl (by kernel_rfl) (fun _ _ _ h => h) (Or.inl ⟨by rfl, ?_⟩) hHeld ?_ ?_
                          rotate_left
                          · intro w' hS'
                            have c0 : w'.cell? ⟨p, 0, none⟩ = some (.int .i64 1) := (blk_cell hS' 0).trans rfl; have c1 : w'.cell? ⟨p, 1, none⟩ = some (.int .i64 0) := (blk_cell hS' 1).trans rfl; have c2 : w'.cell? ⟨p, 2, none⟩ = some (.int .i64 r) := (blk_cell hS' 2).trans rfl; have c3 : w'.cell? ⟨p, 3, none⟩ = some (.slice none 0 0) := (blk_cell hS' 3).trans rfl
                            go_simp
                            with_reducible rfl
                          rotate_left
                          · simp only [Act.put, List.setIfInBounds_toArray, List.set_cons_zero, List.set_cons_succ, i64_w, i32_w]
                            rfl
                          refine take_ (i := 1) (N := some 107) (v := ?_) (a' := ?_) #[true, true, false, false, false, false, false, false, false, false, false] rfl rfl (by kernel_rfl) (fun _ _ _ h => h) (Or.inl ⟨by rfl, ?_⟩) hHeld ?_ ?_
                          rotate_left
                          · intro w' hS'
                            have c0 : w'.cell? ⟨p, 0, none⟩ = some (.int .i64 1) := (blk_cell hS' 0).trans rfl; have c1 : w'.cell? ⟨p, 1, none⟩ = some (.int .i64 0) := (blk_cell hS' 1).trans rfl; have c2 : w'.cell? ⟨p, 2, none⟩ = some (.int .i64 r) := (blk_cell hS' 2).trans rfl; have c3 : w'.cell? ⟨p, 3, none⟩ = some (.slice none 0 0) := (blk_cell hS' 3).trans rfl
                            go_simp
                            with_reducible rfl
                          rotate_left
                          · simp only [Act.put, List.setIfInBounds_toArray, List.set_cons_zero, List.set_cons_succ, i64_w, i32_w]
                            rfl
                          refine one_ (i := 2) (N := some 108) #[true, true, true, false, false, false, false, false, false, false, false] rfl rfl (by kernel_rfl) (by decide) (fun K hK => ?_)
                          refine goes_ Tryz.func11 (by kernel_rfl) rfl #[.agg #[.int .i64 1, .int .i64 0, .int .i64 r, .slice none 0 0]] (by rfl) rfl rfl (by simp [Act.eval]) ?_
                          refine (show Calls Tryz.prog 11 #[.agg #[.int .i64 1, .int .i64 0, .int .i64 r, .slice none 0 0]] _ (fun x w' => x = .returned (.bool true) ∧ Below _ _ w') from HMB.out ▸ may_ref ⟨1, 0, r, []⟩ (.slice none 0 0) _ HT0.out.V.byt).mono ?_
                          rintro e y2 ⟨rfl, hb⟩
                          refine ⟨_, rfl, ?_⟩
                          have HTa := Aside0.mk (HT0.out.below hb)
                          refine hK.out _ _ HTa.out.P (fun hHeld => ?_)
                          clear hK K hb
                          refine norm_ (a' := ?_) ?_ ?_
                          rotate_left
                          · show Act.put _ (some 108) _ = _
                            simp only [Act.put, List.setIfInBounds_toArray, List.set_cons_zero, List.set_cons_succ, i64_w, i32_w]
                            rfl
                          refine pure_ (i := 3) (N := some 109) (v := ?_) (a' := ?_) #[true, true, true, true, false, false, false, false, false, false, false] rfl rfl (by kernel_rfl) (fun _ _ _ h => h) (Or.inl ⟨by rfl, ?_⟩) ?_ ?_
                          rotate_left
                          · intro w'
                            go_simp
                            with_reducible rfl
                          rotate_left
                          · simp only [Act.put, List.setIfInBounds_toArray, List.set_cons_zero, List.set_cons_succ, i64_w, i32_w]
                            rfl
                          refine pure_ (i := 6) (N := some 112) (v := ?_) (a' := ?_) #[true, true, true, true, false, false, true, false, false, false, false] rfl rfl (by kernel_rfl) (fun _ _ _ h => h) (Or.inl ⟨by rfl, ?_⟩) ?_ ?_
                          rotate_left
                          · intro w'
                            go_simp
                            with_reducible rfl
                          rotate_left
                          · simp only [Act.put, List.setIfInBounds_toArray, List.set_cons_zero, List.set_cons_succ, i64_w, i32_w]
                            rfl
                          refine take_ (i := 4) (N := some 110) (v := ?_) (a' := ?_) #[true, true, true, true, true, false, true, false, false, false, false] rfl rfl (by kernel_rfl) (fun _ _ _ h => h) (Or.inl ⟨by rfl, ?_⟩) hHeld ?_ ?_
                          rotate_left
                          · intro w' hS'
                            have c0 : w'.cell? ⟨p, 0, none⟩ = some (.int .i64 1) := (blk_cell hS' 0).trans rfl; have c1 : w'.cell? ⟨p, 1, none⟩ = some (.int .i64 0) := (blk_cell hS' 1).trans rfl; have c2 : w'.cell? ⟨p, 2, none⟩ = some (.int .i64 r) := (blk_cell hS' 2).trans rfl; have c3 : w'.cell? ⟨p, 3, none⟩ = some (.slice none 0 0) := (blk_cell hS' 3).trans rfl
                            go_simp
                            with_reducible rfl
                          rotate_left
                          · simp only [Act.put, List.setIfInBounds_toArray, List.set_cons_zero, List.set_cons_succ, i64_w, i32_w]
                            rfl
                          refine one_ (i := 5) (N := some 111) #[true, true, true, true, true, true, true, false, false, false, false] rfl rfl (by kernel_rfl) (by decide) (fun K hK => ?_)
                          refine goes_ Tryz.func18 (by kernel_rfl) rfl #[.agg #[.int .i64 1, .int .i64 0, .int .i64 r, .slice none 0 0]] (by rfl) rfl rfl (by simp [Act.eval]) ?_
                          refine (show Calls Tryz.prog 18 #[.agg #[.int .i64 1, .int .i64 0, .int .i64 r, .slice none 0 0]] _ (fun x w' => x = .returned (.string DL) ∧ Below _ _ w') from HDL.out ▸ line_ref 1 0 r [] (.slice none 0 0) _ HTa.out.V.byt HMY.out).mono ?_
                          rintro e y5 ⟨rfl, hb⟩
                          refine ⟨_, rfl, ?_⟩
                          have HTb := Aside0.mk (HTa.out.below hb)
                          refine hK.out _ _ HTb.out.P (fun hHeld => ?_)
                          clear hK K hb
                          refine norm_ (a' := ?_) ?_ ?_
                          rotate_left
                          · show Act.put _ (some 111) _ = _
                            simp only [Act.put, List.setIfInBounds_toArray, List.set_cons_zero, List.set_cons_succ, i64_w, i32_w]
                            rfl
                          refine pure_ (i := 7) (N := some 113) (v := ?_) (a' := ?_) #[true, true, true, true, true, true, true, true, false, false, false] rfl rfl (by kernel_rfl) (fun _ _ _ h => h) (Or.inl ⟨by rfl, ?_⟩) ?_ ?_
                          rotate_left
                          · intro w'
                            go_simp
                            with_reducible rfl
                          rotate_left
                          · simp only [Act.put, List.setIfInBounds_toArray, List.set_cons_zero, List.set_cons_succ, i64_w, i32_w]
                            rfl
                          refine pure_ (i := 8) (N := some 114) (v := ?_) (a' := ?_) #[true, true, true, true, true, true, true, true, true, false, false] rfl rfl (by kernel_rfl) (fun _ _ _ h => h) (Or.inl ⟨by rfl, ?_⟩) ?_ ?_
                          rotate_left
                          · intro w'
                            go_simp
                            with_reducible rfl
                          rotate_left
                          · simp only [Act.put, List.setIfInBounds_toArray, List.set_cons_zero, List.set_cons_succ, i64_w, i32_w]
                            rfl
                          refine one_ (i := 9) (N := none) #[true, true, true, true, true, true, true, true, true, true, false] rfl rfl (by kernel_rfl) (by decide) (fun K hK => ?_)
                          have d0 := HTb.out.d0
                          have d1 := HTb.out.d1
                          have d2 := HTb.out.d2
                          have d3 := HTb.out.d3
                          have r0 := HTb.out.fg 0
                          have r1 := HTb.out.fg 1
                          have r2 := HTb.out.fg 2
                          have r3 := HTb.out.fg 3
                          refine skip_ (w1 := ?_) (by rfl) rfl ?_ ?_
                          rotate_left
                          · go_simp
                            rfl
                          refine hK.out _ _ (blk_far (blk_far (blk_far (blk_far HTb.out.P (p := ⟨g, 0, none⟩) (Ne.symm HTb.out.far) _) (p := ⟨g, 1, none⟩) (Ne.symm HTb.out.far) _) (p := ⟨g, 2, none⟩) (Ne.symm HTb.out.far) _) (p := ⟨g, 3, none⟩) (Ne.symm HTb.out.far) _) (fun hHeld => ?_)
                          clear hK K d0 d1 d2 d3 r0 r1 r2 r3
                          refine pure_ (i := 10) (N := some 3) (v := ?_) (a' := ?_) #[true, true, true, true, true, true, true, true, true, true, true] rfl rfl (by kernel_rfl) (fun _ _ _ h => h) (Or.inl ⟨by rfl, ?_⟩) ?_ ?_
                          rotate_left
                          · intro w'
                            go_simp
                            with_reducible rfl
                          rotate_left
                          · simp only [Act.put, List.setIfInBounds_toArray, List.set_cons_zero, List.set_cons_succ, i64_w, i32_w]
                            rfl
                          refine done_ (by kernel_rfl) ?_
                          go_wp2
                          try simp only [Exit.inBlock, Exit.then]
                          exact bodyPost_ret (results_ct9 rfl _ _ g 35 _ (0, 0) _ rfl HTb.out.full Tryz.underlying35 rfl (by kernel_rfl)) rfl ⟨HTb.out.ret.1, _, _, _, _, _, _, _, rfl, (is_cases HDL.out.symm s).elim (fun h => .inl ⟨h.1, [], HTb.out.ret.2, HMY.out, h.2⟩) (fun h => .inr ⟨h.1, fun en h1 h2 => h.2 ((show en = ⟨1, 0, r, []⟩ from by rw [← HL.out] at h2; exact ((HW.out en h1 h2).2.2.1 ((HW.out en h1 h2).1.trans HKZ.out))) ▸ h2)⟩)⟩
                        · have HMY := Aside0.mk hm
                          have HMB := Aside0.mk (show mayB ⟨1, 0, r, []⟩ = false from by rw [Bool.eq_false_iff]; exact fun h => hm ((mayB_iff _).1 h))
                          clear hm
                          refine start_ (n := 11) (S := fun w' => w'.heap[p]? = some (.cells #[.int .i64 1, .int .i64 0, .int .i64 r, .slice none 0 0] 35 (0, 0))) (ds := []) #[false, false, false, false, false, false, false, false, false, false, false] (by kernel_rfl) rfl rfl HT.out.P (fun hHeld => ?_)
                          have HT0 := Aside0.mk (HT.out.below (show Below W5.heap.size W5 W5.drew from below_drew1 (Below.refl _ _)))
                          refine take_ (i := 0) (N := some 106) (v := ?_) (a' := ?_) #[true, false, false, false, false, false, false, false, false, false, false] rfl rfl (by kernel_rfl) (fun _ _ _ h => h) (Or.inl ⟨by rfl, ?_⟩) hHeld ?_ ?_
                          rotate_left
                          · intro w' hS'
                            have c0 : w'.cell? ⟨p, 0, none⟩ = some (.int .i64 1) := (blk_cell hS' 0).trans rfl; have c1 : w'.cell? ⟨p, 1, none⟩ = some (.int .i64 0) := (blk_cell hS' 1).trans rfl; have c2 : w'.cell? ⟨p, 2, none⟩ = some (.int .i64 r) := (blk_cell hS' 2).trans rfl; have c3 : w'.cell? ⟨p, 3, none⟩ = some (.slice none 0 0) := (blk_cell hS' 3).trans rfl
                            go_simp
                            with_reducible rfl
                          rotate_left
                          · simp only [Act.put, List.setIfInBounds_toArray, List.set_cons_zero, List.set_cons_succ, i64_w, i32_w]
                            rfl
                          refine take_ (i := 1) (N := some 107) (v := ?_) (a' := ?_) #[true, true, false, false, false, false, false, false, false, false, false] rfl rfl (by kernel_rfl) (fun _ _ _ h => h) (Or.inl ⟨by rfl, ?_⟩) hHeld ?_ ?_
                          rotate_left
                          · intro w' hS'
                            have c0 : w'.cell? ⟨p, 0, none⟩ = some (.int .i64 1) := (blk_cell hS' 0).trans rfl; have c1 : w'.cell? ⟨p, 1, none⟩ = some (.int .i64 0) := (blk_cell hS' 1).trans rfl; have c2 : w'.cell? ⟨p, 2, none⟩ = some (.int .i64 r) := (blk_cell hS' 2).trans rfl; have c3 : w'.cell? ⟨p, 3, none⟩ = some (.slice none 0 0) := (blk_cell hS' 3).trans rfl
                            go_simp
                            with_reducible rfl
                          rotate_left
                          · simp only [Act.put, List.setIfInBounds_toArray, List.set_cons_zero, List.set_cons_succ, i64_w, i32_w]
                            rfl
                          refine one_ (i := 2) (N := some 108) #[true, true, true, false, false, false, false, false, false, false, false] rfl rfl (by kernel_rfl) (by decide) (fun K hK => ?_)
                          refine goes_ Tryz.func11 (by kernel_rfl) rfl #[.agg #[.int .i64 1, .int .i64 0, .int .i64 r, .slice none 0 0]] (by rfl) rfl rfl (by simp [Act.eval]) ?_
                          refine (show Calls Tryz.prog 11 #[.agg #[.int .i64 1, .int .i64 0, .int .i64 r, .slice none 0 0]] _ (fun x w' => x = .returned (.bool false) ∧ Below _ _ w') from HMB.out ▸ may_ref ⟨1, 0, r, []⟩ (.slice none 0 0) _ HT0.out.V.byt).mono ?_
                          rintro e y2 ⟨rfl, hb⟩
                          refine ⟨_, rfl, ?_⟩
                          have HTa := Aside0.mk (HT0.out.below hb)
                          refine hK.out _ _ HTa.out.P (fun hHeld => ?_)
                          clear hK K hb
                          refine norm_ (a' := ?_) ?_ ?_
                          rotate_left
                          · show Act.put _ (some 108) _ = _
                            simp only [Act.put, List.setIfInBounds_toArray, List.set_cons_zero, List.set_cons_succ, i64_w, i32_w]
                            rfl
                          refine pure_ (i := 3) (N := some 109) (v := ?_) (a' := ?_) #[true, true, true, true, false, false, false, false, false, false, false] rfl rfl (by kernel_rfl) (fun _ _ _ h => h) (Or.inl ⟨by rfl, ?_⟩) ?_ ?_
                          rotate_left
                          · intro w'
                            go_simp
                            with_reducible rfl
                          rotate_left
                          · simp only [Act.put, List.setIfInBounds_toArray, List.set_cons_zero, List.set_cons_succ, i64_w, i32_w]
                            rfl
                          refine pure_ (i := 6) (N := some 112) (v := undef) (a' := ?_) #[true, true, true, true, false, false, true, false, false, false, false] rfl rfl (by kernel_rfl) (fun _ _ _ h => h) (Or.inr ⟨by rfl, rfl⟩) ?_ ?_
                          rotate_left
                          · simp only [Act.put, List.setIfInBounds_toArray, List.set_cons_zero, List.set_cons_succ, i64_w, i32_w]
                            rfl
                          refine pure_ (i := 4) (N := some 110) (v := undef) (a' := ?_) #[true, true, true, true, true, false, true, false, false, false, false] rfl rfl (by kernel_rfl) (fun _ _ _ h => h) (Or.inr ⟨by rfl, rfl⟩) ?_ ?_
                          rotate_left
                          · simp only [Act.put, List.setIfInBounds_toArray, List.set_cons_zero, List.set_cons_succ, i64_w, i32_w]
                            rfl
                          refine pure_ (i := 5) (N := some 111) (v := undef) (a' := ?_) #[true, true, true, true, true, true, true, false, false, false, false] rfl rfl (by kernel_rfl) (fun _ _ _ h => h) (Or.inr ⟨by rfl, rfl⟩) ?_ ?_
                          rotate_left
                          · simp only [Act.put, List.setIfInBounds_toArray, List.set_cons_zero, List.set_cons_succ, i64_w, i32_w]
                            rfl
                          refine pure_ (i := 7) (N := some 113) (v := undef) (a' := ?_) #[true, true, true, true, true, true, true, true, false, false, false] rfl rfl (by kernel_rfl) (fun _ _ _ h => h) (Or.inr ⟨by rfl, rfl⟩) ?_ ?_
                          rotate_left
                          · simp only [Act.put, List.setIfInBounds_toArray, List.set_cons_zero, List.set_cons_succ, i64_w, i32_w]
                            rfl
                          refine pure_ (i := 8) (N := some 114) (v := ?_) (a' := ?_) #[true, true, true, true, true, true, true, true, true, false, false] rfl rfl (by kernel_rfl) (fun _ _ _ h => h) (Or.inl ⟨by rfl, ?_⟩) ?_ ?_
                          rotate_left
                          · intro w'
                            go_simp
                            with_reducible rfl
                          rotate_left
                          · simp only [Act.put, List.setIfInBounds_toArray, List.set_cons_zero, List.set_cons_succ, i64_w, i32_w]
                            rfl
                          refine one_ (i := 9) (N := none) #[true, true, true, true, true, true, true, true, true, true, false] rfl rfl (by kernel_rfl) (by decide) (fun K hK => ?_)
                          have d0 := HTa.out.d0
                          have d1 := HTa.out.d1
                          have d2 := HTa.out.d2
                          have d3 := HTa.out.d3
                          have r0 := HTa.out.fg 0
                          have r1 := HTa.out.fg 1
                          have r2 := HTa.out.fg 2
                          have r3 := HTa.out.fg 3
                          refine skip_ (w1 := ?_) (by rfl) rfl ?_ ?_
                          rotate_left
                          · go_simp
                            rfl
                          refine hK.out _ _ (blk_far (blk_far (blk_far (blk_far HTa.out.P (p := ⟨g, 0, none⟩) (Ne.symm HTa.out.far) _) (p := ⟨g, 1, none⟩) (Ne.symm HTa.out.far) _) (p := ⟨g, 2, none⟩) (Ne.symm HTa.out.far) _) (p := ⟨g, 3, none⟩) (Ne.symm HTa.out.far) _) (fun hHeld => ?_)
                          clear hK K d0 d1 d2 d3 r0 r1 r2 r3
                          refine pure_ (i := 10) (N := some 3) (v := ?_) (a' := ?_) #[true, true, true, true, true, true, true, true, true, true, true] rfl rfl (by kernel_rfl) (fun _ _ _ h => h) (Or.inl ⟨by rfl, ?_⟩) ?_ ?_
                          rotate_left
                          · intro w'
                            go_simp
                            with_reducible rfl
                          rotate_left
                          · simp only [Act.put, List.setIfInBounds_toArray, List.set_cons_zero, List.set_cons_succ, i64_w, i32_w]
                            rfl
                          refine done_ (by kernel_rfl) ?_
                          go_wp2
                          try simp only [Exit.inBlock, Exit.then]
                          exact bodyPost_ret (results_ct9 rfl _ _ g 35 _ (0, 0) _ rfl HTa.out.full Tryz.underlying35 rfl (by kernel_rfl)) rfl ⟨HTa.out.ret.1, _, _, _, _, _, _, _, rfl, .inr ⟨rfl, fun en h1 h2 => by rw [← HL.out] at h2; exact HMY.out (((HW.out en h1 h2).2.2.1 ((HW.out en h1 h2).1.trans HKZ.out)) ▸ h1)⟩⟩
                      have n1 : (kz == 1) = false := beq_eq_false_iff_ne.mpr k1
                      have n1b : (kz != 1) = true := by simp [bne, n1]
                      by_cases hmx : 2147483647 < r
                      · have hm1 : decide (2147483647 < r) = true := decide_eq_true hmx
                        have hm2 : decide (r > 2147483647) = true := decide_eq_true hmx
                        have d0 := HS9.out.d0
                        have d1 := HS9.out.d1
                        have d2 := HS9.out.d2
                        have d3 := HS9.out.d3
                        have r0 := HS9.out.fg 0
                        have r1 := HS9.out.fg 1
                        have r2 := HS9.out.fg 2
                        have r3 := HS9.out.fg 3
                        have gp := HS9.out.far
                        have pg := Ne.symm HS9.out.far
                        go_wp2
                        try simp only [Exit.inBlock, Exit.then]
                        exact bodyPost_ret (results_ct9 rfl _ _ g 35 _ (0, 0) _ rfl (put4 HS9.out.Q _ _ _ _) Tryz.underlying35 rfl (by kernel_rfl)) rfl ⟨put4_below HGE.out HS9.out.B _ _ _ _, _, _, _, _, _, _, _, rfl, .inr ⟨rfl, fun en h1 h2 => by rw [← HL.out] at h2; have h3 := HW.out en h1 h2; have h4 := h3.2.2.2 (by rw [h3.1, HKZ.out]; exact k1); omega⟩⟩
                      have hm1 : decide (2147483647 < r) = false := decide_eq_false hmx
                      have hm2 : decide (r > 2147483647) = false := decide_eq_false hmx
                      have HK1 := Aside0.mk k1
                      by_cases k6 : kz = 6
                      · subst k6
                        have c0 := HS9.out.c0
                        have c1 := HS9.out.c1
                        have c2 := HS9.out.c2
                        have c3 := HS9.out.c3
                        have q1 := HS9.out.fp 1
                        have q2 := HS9.out.fp 2
                        have q3 := HS9.out.fp 3
                        clear k1
                        go_upto_region 26 with (fail)
                        clear c0 c1 c2 c3 q1 q2 q3 n1 n1b hm1 hm2
                        obtain ⟨W6, hW6⟩ : ∃ W6, W6 = w9.setCell ⟨p, 1, none⟩ (.int .i64 r) := ⟨_, rfl⟩
                        have HS6 := Aside0.mk (show St w W6 g p 6 r 0 (.slice none 0 0) [] w.heap.size from by rw [hW6]; exact HS9.out.set1 r)
                        rw [← hW6]
                        clear hW6
                        go_upto_region 27 with (first | (go_at_call 36; rw [HQE.out]; (with_reducible refine (unq_ref Q (by have := HQZ.out; omega) W6).mono ?_); rintro x w7 ⟨⟨A6, m6, c6, is, rfl, hu⟩, hb⟩; have HS7 := Aside0.mk (HS6.out.below hb); have HU := Aside0.mk hu; clear hb hu))
                        rcases HU.out with ⟨rfl, os, hq, hv⟩ | ⟨rfl, hq⟩
                        · have HQO := Aside0.mk hq
                          have HV := Aside0.mk (show RV w7 w.heap.size (.slice A6 m6 c6) os from Kd.R_lower hv HS6.out.B.size)
                          clear hq hv
                          have c0 := HS7.out.c0
                          have c1 := HS7.out.c1
                          have c2 := HS7.out.c2
                          have c3 := HS7.out.c3
                          have q1 := HS7.out.fp 1
                          have q2 := HS7.out.fp 2
                          have q3 := HS7.out.fp 3
                          go_upto_region 30 with (fail)
                          clear c0 c1 c2 c3 q1 q2 q3
                          obtain ⟨W5, hW5⟩ : ∃ W5, W5 = w7.setCell ⟨p, 3, none⟩ (.slice A6 m6 c6) := ⟨_, rfl⟩
                          have HT := Aside0.mk (show St w W5 g p 6 r 0 (.slice A6 m6 c6) os w.heap.size from by rw [hW5]; exact HS7.out.set3 HV.out)
                          rw [← hW5]
                          clear hW5
                          by_cases hm : MayE ⟨6, r, 0, os⟩
                          · have HMY := Aside0.mk hm
                            have HMB := Aside0.mk ((mayB_iff ⟨6, r, 0, os⟩).2 hm)
                            clear hm
                            obtain ⟨DL, hDL⟩ : ∃ DL, DL = ba (lineL ⟨6, r, 0, os⟩) := ⟨_, rfl⟩
                            have HDL := Aside0.mk hDL.symm
                            clear hDL
                            refine start_ (n := 11) (S := fun w' => w'.heap[p]? = some (.cells #[.int .i64 6, .int .i64 r, .int .i64 0, .slice A6 m6 c6] 35 (0, 0))) (ds := []) #[false, false, false, false, false, false, false, false, false, false, false] (by kernel_rfl) rfl rfl HT.out.P (fun hHeld => ?_)
                            have HT0 := Aside0.mk (HT.out.below (show Below W5.heap.size W5 W5.drew from below_drew1 (Below.refl _ _)))
                            refine take_ (i := 0) (N := some 106) (v := ?_) (a' := ?_) #[true, false, false, false, false, false, false, false, false, false, false] rfl rfl (by kernel_rfl) (fun _ _ _ h => h) (Or.inl ⟨by rfl, ?_⟩) hHeld ?_ ?_
                            rotate_left
                            · intro w' hS'
                              have c0 : w'.cell? ⟨p, 0, none⟩ = some (.int .i64 6) := (blk_cell hS' 0).trans rfl; have c1 : w'.cell? ⟨p, 1, none⟩ = some (.int .i64 r) := (blk_cell hS' 1).trans rfl; have c2 : w'.cell? ⟨p, 2, none⟩ = some (.int .i64 0) := (blk_cell hS' 2).trans rfl; have c3 : w'.cell? ⟨p, 3, none⟩ = some (.slice A6 m6 c6) := (blk_cell hS' 3).trans rfl
                              go_simp
                              with_reducible rfl
                            rotate_left
                            · simp only [Act.put, List.setIfInBounds_toArray, List.set_cons_zero, List.set_cons_succ, i64_w, i32_w]
                              rfl
                            refine take_ (i := 1) (N := some 107) (v := ?_) (a' := ?_) #[true, true, false, false, false, false, false, false, false, false, false] rfl rfl (by kernel_rfl) (fun _ _ _ h => h) (Or.inl ⟨by rfl, ?_⟩) hHeld ?_ ?_
                            rotate_left
                            · intro w' hS'
                              have c0 : w'.cell? ⟨p, 0, none⟩ = some (.int .i64 6) := (blk_cell hS' 0).trans rfl; have c1 : w'.cell? ⟨p, 1, none⟩ = some (.int .i64 r) := (blk_cell hS' 1).trans rfl; have c2 : w'.cell? ⟨p, 2, none⟩ = some (.int .i64 0) := (blk_cell hS' 2).trans rfl; have c3 : w'.cell? ⟨p, 3, none⟩ = some (.slice A6 m6 c6) := (blk_cell hS' 3).trans rfl
                              go_simp
                              with_reducible rfl
                            rotate_left
                            · simp only [Act.put, List.setIfInBounds_toArray, List.set_cons_zero, List.set_cons_succ, i64_w, i32_w]
                              rfl
                            refine one_ (i := 2) (N := some 108) #[true, true, true, false, false, false, false, false, false, false, false] rfl rfl (by kernel_rfl) (by decide) (fun K hK => ?_)
                            refine goes_ Tryz.func11 (by kernel_rfl) rfl #[.agg #[.int .i64 6, .int .i64 r, .int .i64 0, .slice A6 m6 c6]] (by rfl) rfl rfl (by simp [Act.eval]) ?_
                            refine (show Calls Tryz.prog 11 #[.agg #[.int .i64 6, .int .i64 r, .int .i64 0, .slice A6 m6 c6]] _ (fun x w' => x = .returned (.bool true) ∧ Below _ _ w') from HMB.out ▸ may_ref ⟨6, r, 0, os⟩ (.slice A6 m6 c6) _ HT0.out.V.byt).mono ?_
                            rintro e y2 ⟨rfl, hb⟩
                            refine ⟨_, rfl, ?_⟩
                            have HTa := Aside0.mk (HT0.out.below hb)
                            refine hK.out _ _ HTa.out.P (fun hHeld => ?_)
                            clear hK K hb
                            refine norm_ (a' := ?_) ?_ ?_
                            rotate_left
                            · show Act.put _ (some 108) _ = _
                              simp only [Act.put, List.setIfInBounds_toArray, List.set_cons_zero, List.set_cons_succ, i64_w, i32_w]
                              rfl
                            refine pure_ (i := 3) (N := some 109) (v := ?_) (a' := ?_) #[true, true, true, true, false, false, false, false, false, false, false] rfl rfl (by kernel_rfl) (fun _ _ _ h => h) (Or.inl ⟨by rfl, ?_⟩) ?_ ?_
                            rotate_left
                            · intro w'
                              go_simp
                              with_reducible rfl
                            rotate_left
                            · simp only [Act.put, List.setIfInBounds_toArray, List.set_cons_zero, List.set_cons_succ, i64_w, i32_w]
                              rfl
                            refine pure_ (i := 6) (N := some 112) (v := ?_) (a' := ?_) #[true, true, true, true, false, false, true, false, false, false, false] rfl rfl (by kernel_rfl) (fun _ _ _ h => h) (Or.inl ⟨by rfl, ?_⟩) ?_ ?_
                            rotate_left
                            · intro w'
                              go_simp
                              with_reducible rfl
                            rotate_left
                            · simp only [Act.put, List.setIfInBounds_toArray, List.set_cons_zero, List.set_cons_succ, i64_w, i32_w]
                              rfl
                            refine take_ (i := 4) (N := some 110) (v := ?_) (a' := ?_) #[true, true, true, true, true, false, true, false, false, false, false] rfl rfl (by kernel_rfl) (fun _ _ _ h => h) (Or.inl ⟨by rfl, ?_⟩) hHeld ?_ ?_
                            rotate_left
                            · intro w' hS'
                              have c0 : w'.cell? ⟨p, 0, none⟩ = some (.int .i64 6) := (blk_cell hS' 0).trans rfl; have c1 : w'.cell? ⟨p, 1, none⟩ = some (.int .i64 r) := (blk_cell hS' 1).trans rfl; have c2 : w'.cell? ⟨p, 2, none⟩ = some (.int .i64 0) := (blk_cell hS' 2).trans rfl; have c3 : w'.cell? ⟨p, 3, none⟩ = some (.slice A6 m6 c6) := (blk_cell hS' 3).trans rfl
                              go_simp
                              with_reducible rfl
                            rotate_left
                            · simp only [Act.put, List.setIfInBounds_toArray, List.set_cons_zero, List.set_cons_succ, i64_w, i32_w]
                              rfl
                            refine one_ (i := 5) (N := some 111) #[true, true, true, true, true, true, true, false, false, false, false] rfl rfl (by kernel_rfl) (by decide) (fun K hK => ?_)
                            refine goes_ Tryz.func18 (by kernel_rfl) rfl #[.agg #[.int .i64 6, .int .i64 r, .int .i64 0, .slice A6 m6 c6]] (by rfl) rfl rfl (by simp [Act.eval]) ?_
                            refine (show Calls Tryz.prog 18 #[.agg #[.int .i64 6, .int .i64 r, .int .i64 0, .slice A6 m6 c6]] _ (fun x w' => x = .returned (.string DL) ∧ Below _ _ w') from HDL.out ▸ line_ref 6 r 0 os (.slice A6 m6 c6) _ HTa.out.V.byt HMY.out).mono ?_
                            rintro e y5 ⟨rfl, hb⟩
                            refine ⟨_, rfl, ?_⟩
                            have HTb := Aside0.mk (HTa.out.below hb)
                            refine hK.out _ _ HTb.out.P (fun hHeld => ?_)
                            clear hK K hb
                            refine norm_ (a' := ?_) ?_ ?_
                            rotate_left
                            · show Act.put _ (some 111) _ = _
                              simp only [Act.put, List.setIfInBounds_toArray, List.set_cons_zero, List.set_cons_succ, i64_w, i32_w]
                              rfl
                            refine pure_ (i := 7) (N := some 113) (v := ?_) (a' := ?_) #[true, true, true, true, true, true, true, true, false, false, false] rfl rfl (by kernel_rfl) (fun _ _ _ h => h) (Or.inl ⟨by rfl, ?_⟩) ?_ ?_
                            rotate_left
                            · intro w'
                              go_simp
                              with_reducible rfl
                            rotate_left
                            · simp only [Act.put, List.setIfInBounds_toArray, List.set_cons_zero, List.set_cons_succ, i64_w, i32_w]
                              rfl
                            refine pure_ (i := 8) (N := some 114) (v := ?_) (a' := ?_) #[true, true, true, true, true, true, true, true, true, false, false] rfl rfl (by kernel_rfl) (fun _ _ _ h => h) (Or.inl ⟨by rfl, ?_⟩) ?_ ?_
                            rotate_left
                            · intro w'
                              go_simp
                              with_reducible rfl
                            rotate_left
                            · simp only [Act.put, List.setIfInBounds_toArray, List.set_cons_zero, List.set_cons_succ, i64_w, i32_w]
                              rfl
                            refine one_ (i := 9) (N := none) #[true, true, true, true, true, true, true, true, true, true, false] rfl rfl (by kernel_rfl) (by decide) (fun K hK => ?_)
                            have d0 := HTb.out.d0
                            have d1 := HTb.out.d1
                            have d2 := HTb.out.d2
                            have d3 := HTb.out.d3
                            have r0 := HTb.out.fg 0
                            have r1 := HTb.out.fg 1
                            have r2 := HTb.out.fg 2
                            have r3 := HTb.out.fg 3
                            refine skip_ (w1 := ?_) (by rfl) rfl ?_ ?_
                            rotate_left
                            · go_simp
                              rfl
                            refine hK.out _ _ (blk_far (blk_far (blk_far (blk_far HTb.out.P (p := ⟨g, 0, none⟩) (Ne.symm HTb.out.far) _) (p := ⟨g, 1, none⟩) (Ne.symm HTb.out.far) _) (p := ⟨g, 2, none⟩) (Ne.symm HTb.out.far) _) (p := ⟨g, 3, none⟩) (Ne.symm HTb.out.far) _) (fun hHeld => ?_)
                            clear hK K d0 d1 d2 d3 r0 r1 r2 r3
                            refine pure_ (i := 10) (N := some 3) (v := ?_) (a' := ?_) #[true, true, true, true, true, true, true, true, true, true, true] rfl rfl (by kernel_rfl) (fun _ _ _ h => h) (Or.inl ⟨by rfl, ?_⟩) ?_ ?_
                            rotate_left
                            · intro w'
                              go_simp
                              with_reducible rfl
                            rotate_left
                            · simp only [Act.put, List.setIfInBounds_toArray, List.set_cons_zero, List.set_cons_succ, i64_w, i32_w]
                              rfl
                            refine done_ (by kernel_rfl) ?_
                            go_wp2
                            try simp only [Exit.inBlock, Exit.then]
                            exact bodyPost_ret (results_ct9 rfl _ _ g 35 _ (0, 0) _ rfl HTb.out.full Tryz.underlying35 rfl (by kernel_rfl)) rfl ⟨HTb.out.ret.1, _, _, _, _, _, _, _, rfl, (is_cases HDL.out.symm s).elim (fun h => .inl ⟨h.1, os, HTb.out.ret.2, HMY.out, h.2⟩) (fun h => .inr ⟨h.1, fun en h1 h2 => h.2 ((show en = ⟨6, r, 0, os⟩ from by rw [← HL.out] at h2; exact (by have h3 := HW.out en h1 h2; have h5 := h3.1.trans HKZ.out; have h4 := (h3.2.2.2 (by omega)).2.2 h5; have h6 := quote_inj (h4.2.trans (HQA.out.symm.trans HQO.out.symm)); rw [h6] at h4; exact h4.1)) ▸ h2)⟩)⟩
                          · have HMY := Aside0.mk hm
                            have HMB := Aside0.mk (show mayB ⟨6, r, 0, os⟩ = false from by rw [Bool.eq_false_iff]; exact fun h => hm ((mayB_iff _).1 h))
                            clear hm
                            refine start_ (n := 11) (S := fun w' => w'.heap[p]? = some (.cells #[.int .i64 6, .int .i64 r, .int .i64 0, .slice A6 m6 c6] 35 (0, 0))) (ds := []) #[false, false, false, false, false, false, false, false, false, false, false] (by kernel_rfl) rfl rfl HT.out.P (fun hHeld => ?_)
                            have HT0 := Aside0.mk (HT.out.below (show Below W5.heap.size W5 W5.drew from below_drew1 (Below.refl _ _)))
                            refine take_ (i := 0) (N := some 106) (v := ?_) (a' := ?_) #[true, false, false, false, false, false, false, false, false, false, false] rfl rfl (by kernel_rfl) (fun _ _ _ h => h) (Or.inl ⟨by rfl, ?_⟩) hHeld ?_ ?_
                            rotate_left
                            · intro w' hS'
                              have c0 : w'.cell? ⟨p, 0, none⟩ = some (.int .i64 6) := (blk_cell hS' 0).trans rfl; have c1 : w'.cell? ⟨p, 1, none⟩ = some (.int .i64 r) := (blk_cell hS' 1).trans rfl; have c2 : w'.cell? ⟨p, 2, none⟩ = some (.int .i64 0) := (blk_cell hS' 2).trans rfl; have c3 : w'.cell? ⟨p, 3, none⟩ = some (.slice A6 m6 c6) := (blk_cell hS' 3).trans rfl
                              go_simp
                              with_reducible rfl
                            rotate_left
                            · simp only [Act.put, List.setIfInBounds_toArray, List.set_cons_zero, List.set_cons_succ, i64_w, i32_w]
                              rfl
                            refine take_ (i := 1) (N := some 107) (v := ?_) (a' := ?_) #[true, true, false, false, false, false, false, false, false, false, false] rfl rfl (by kernel_rfl) (fun _ _ _ h => h) (Or.inl ⟨by rfl, ?_⟩) hHeld ?_ ?_
                            rotate_left
                            · intro w' hS'
                              have c0 : w'.cell? ⟨p, 0, none⟩ = some (.int .i64 6) := (blk_cell hS' 0).trans rfl; have c1 : w'.cell? ⟨p, 1, none⟩ = some (.int .i64 r) := (blk_cell hS' 1).trans rfl; have c2 : w'.cell? ⟨p, 2, none⟩ = some (.int .i64 0) := (blk_cell hS' 2).trans rfl; have c3 : w'.cell? ⟨p, 3, none⟩ = some (.slice A6 m6 c6) := (blk_cell hS' 3).trans rfl
                              go_simp
                              with_reducible rfl
                            rotate_left
                            · simp only [Act.put, List.setIfInBounds_toArray, List.set_cons_zero, List.set_cons_succ, i64_w, i32_w]
                              rfl
                            refine one_ (i := 2) (N := some 108) #[true, true, true, false, false, false, false, false, false, false, false] rfl rfl (by kernel_rfl) (by decide) (fun K hK => ?_)
                            refine goes_ Tryz.func11 (by kernel_rfl) rfl #[.agg #[.int .i64 6, .int .i64 r, .int .i64 0, .slice A6 m6 c6]] (by rfl) rfl rfl (by simp [Act.eval]) ?_
                            refine (show Calls Tryz.prog 11 #[.agg #[.int .i64 6, .int .i64 r, .int .i64 0, .slice A6 m6 c6]] _ (fun x w' => x = .returned (.bool false) ∧ Below _ _ w') from HMB.out ▸ may_ref ⟨6, r, 0, os⟩ (.slice A6 m6 c6) _ HT0.out.V.byt).mono ?_
                            rintro e y2 ⟨rfl, hb⟩
                            refine ⟨_, rfl, ?_⟩
                            have HTa := Aside0.mk (HT0.out.below hb)
                            refine hK.out _ _ HTa.out.P (fun hHeld => ?_)
                            clear hK K hb
                            refine norm_ (a' := ?_) ?_ ?_
                            rotate_left
                            · show Act.put _ (some 108) _ = _
                              simp only [Act.put, List.setIfInBounds_toArray, List.set_cons_zero, List.set_cons_succ, i64_w, i32_w]
                              rfl
                            refine pure_ (i := 3) (N := some 109) (v := ?_) (a' := ?_) #[true, true, true, true, false, false, false, false, false, false, false] rfl rfl (by kernel_rfl) (fun _ _ _ h => h) (Or.inl ⟨by rfl, ?_⟩) ?_ ?_
                            rotate_left
                            · intro w'
                              go_simp
                              with_reducible rfl
                            rotate_left
                            · simp only [Act.put, List.setIfInBounds_toArray, List.set_cons_zero, List.set_cons_succ, i64_w, i32_w]
                              rfl
                            refine pure_ (i := 6) (N := some 112) (v := undef) (a' := ?_) #[true, true, true, true, false, false, true, false, false, false, false] rfl rfl (by kernel_rfl) (fun _ _ _ h => h) (Or.inr ⟨by rfl, rfl⟩) ?_ ?_
                            rotate_left
                            · simp only [Act.put, List.setIfInBounds_toArray, List.set_cons_zero, List.set_cons_succ, i64_w, i32_w]
                              rfl
                            refine pure_ (i := 4) (N := some 110) (v := undef) (a' := ?_) #[true, true, true, true, true, false, true, false, false, false, false] rfl rfl (by kernel_rfl) (fun _ _ _ h => h) (Or.inr ⟨by rfl, rfl⟩) ?_ ?_
                            rotate_left
                            · simp only [Act.put, List.setIfInBounds_toArray, List.set_cons_zero, List.set_cons_succ, i64_w, i32_w]
                              rfl
                            refine pure_ (i := 5) (N := some 111) (v := undef) (a' := ?_) #[true, true, true, true, true, true, true, false, false, false, false] rfl rfl (by kernel_rfl) (fun _ _ _ h => h) (Or.inr ⟨by rfl, rfl⟩) ?_ ?_
                            rotate_left
                            · simp only [Act.put, List.setIfInBounds_toArray, List.set_cons_zero, List.set_cons_succ, i64_w, i32_w]
                              rfl
                            refine pure_ (i := 7) (N := some 113) (v := undef) (a' := ?_) #[true, true, true, true, true, true, true, true, false, false, false] rfl rfl (by kernel_rfl) (fun _ _ _ h => h) (Or.inr ⟨by rfl, rfl⟩) ?_ ?_
                            rotate_left
                            · simp only [Act.put, List.setIfInBounds_toArray, List.set_cons_zero, List.set_cons_succ, i64_w, i32_w]
                              rfl
                            refine pure_ (i := 8) (N := some 114) (v := ?_) (a' := ?_) #[true, true, true, true, true, true, true, true, true, false, false] rfl rfl (by kernel_rfl) (fun _ _ _ h => h) (Or.inl ⟨by rfl, ?_⟩) ?_ ?_
                            rotate_left
                            · intro w'
                              go_simp
                              with_reducible rfl
                            rotate_left
                            · simp only [Act.put, List.setIfInBounds_toArray, List.set_cons_zero, List.set_cons_succ, i64_w, i32_w]
                              rfl
                            refine one_ (i := 9) (N := none) #[true, true, true, true, true, true, true, true, true, true, false] rfl rfl (by kernel_rfl) (by decide) (fun K hK => ?_)
                            have d0 := HTa.out.d0
                            have d1 := HTa.out.d1
                            have d2 := HTa.out.d2
                            have d3 := HTa.out.d3
                            have r0 := HTa.out.fg 0
                            have r1 := HTa.out.fg 1
                            have r2 := HTa.out.fg 2
                            have r3 := HTa.out.fg 3
                            refine skip_ (w1 := ?_) (by rfl) rfl ?_ ?_
                            rotate_left
                            · go_simp
                              rfl
                            refine hK.out _ _ (blk_far (blk_far (blk_far (blk_far HTa.out.P (p := ⟨g, 0, none⟩) (Ne.symm HTa.out.far) _) (p := ⟨g, 1, none⟩) (Ne.symm HTa.out.far) _) (p := ⟨g, 2, none⟩) (Ne.symm HTa.out.far) _) (p := ⟨g, 3, none⟩) (Ne.symm HTa.out.far) _) (fun hHeld => ?_)
                            clear hK K d0 d1 d2 d3 r0 r1 r2 r3
                            refine pure_ (i := 10) (N := some 3) (v := ?_) (a' := ?_) #[true, true, true, true, true, true, true, true, true, true, true] rfl rfl (by kernel_rfl) (fun _ _ _ h => h) (Or.inl ⟨by rfl, ?_⟩) ?_ ?_
                            rotate_left
                            · intro w'
                              go_simp
                              with_reducible rfl
                            rotate_left
                            · simp only [Act.put, List.setIfInBounds_toArray, List.set_cons_zero, List.set_cons_succ, i64_w, i32_w]
                              rfl
                            refine done_ (by kernel_rfl) ?_
                            go_wp2
                            try simp only [Exit.inBlock, Exit.then]
                            exact bodyPost_ret (results_ct9 rfl _ _ g 35 _ (0, 0) _ rfl HTa.out.full Tryz.underlying35 rfl (by kernel_rfl)) rfl ⟨HTa.out.ret.1, _, _, _, _, _, _, _, rfl, .inr ⟨rfl, fun en h1 h2 => by rw [← HL.out] at h2; exact HMY.out ((by have h3 := HW.out en h1 h2; have h5 := h3.1.trans HKZ.out; have h4 := (h3.2.2.2 (by omega)).2.2 h5; have h6 := quote_inj (h4.2.trans (HQA.out.symm.trans HQO.out.symm)); rw [h6] at h4; exact h4.1) ▸ h1)⟩⟩
                        · have HQO := Aside0.mk hq
                          clear hq
                          have d0 := HS7.out.d0
                          have d1 := HS7.out.d1
                          have d2 := HS7.out.d2
                          have d3 := HS7.out.d3
                          have r0 := HS7.out.fg 0
                          have r1 := HS7.out.fg 1
                          have r2 := HS7.out.fg 2
                          have r3 := HS7.out.fg 3
                          have gp := HS7.out.far
                          have pg := Ne.symm HS7.out.far
                          go_wp2
                          try simp only [Exit.inBlock, Exit.then]
                          exact bodyPost_ret (results_ct9 rfl _ _ g 35 _ (0, 0) _ rfl (put4 HS7.out.Q _ _ _ _) Tryz.underlying35 rfl (by kernel_rfl)) rfl ⟨put4_below HGE.out HS7.out.B _ _ _ _, _, _, _, _, _, _, _, rfl, .inr ⟨rfl, fun en h1 h2 => by rw [← HL.out] at h2; have h3 := HW.out en h1 h2; have h5 := h3.1.trans HKZ.out; have h4 := (h3.2.2.2 (by omega)).2.2 h5; exact HQO.out en.b (h4.2.trans HQA.out.symm)⟩⟩
                      have n6 : (kz == 6) = false := beq_eq_false_iff_ne.mpr k6
                      have HK6 := Aside0.mk k6
                      clear k1 k6
                      have c0 := HS9.out.c0
                      have c1 := HS9.out.c1
                      have c2 := HS9.out.c2
                      have c3 := HS9.out.c3
                      have q1 := HS9.out.fp 1
                      have q2 := HS9.out.fp 2
                      have q3 := HS9.out.fp 3
                      go_upto_region 30 with (fail)
                      clear c0 c1 c2 c3 q1 q2 q3 n1 n1b n6 hm1 hm2 hr1
                      obtain ⟨W5, hW5⟩ : ∃ W5, W5 = w9.setCell ⟨p, 1, none⟩ (.int .i64 r) := ⟨_, rfl⟩
                      have HT := Aside0.mk (show St w W5 g p kz r 0 (.slice none 0 0) [] w.heap.size from by rw [hW5]; exact HS9.out.set1 r)
                      rw [← hW5]
                      clear hW5
                      by_cases hm : MayE ⟨kz, r, 0, []⟩
                      · have HMY := Aside0.mk hm
                        have HMB := Aside0.mk ((mayB_iff ⟨kz, r, 0, []⟩).2 hm)
                        clear hm
                        obtain ⟨DL, hDL⟩ : ∃ DL, DL = ba (lineL ⟨kz, r, 0, []⟩) := ⟨_, rfl⟩
                        have HDL := Aside0.mk hDL.symm
                        clear hDL
                        refine start_ (n := 11) (S := fun w' => w'.heap[p]? = some (.cells #[.int .i64 kz, .int .i64 r, .int .i64 0, .slice none 0 0] 35 (0, 0))) (ds := []) #[false, false, false, false, false, false, false, false, false, false, false] (by kernel_rfl) rfl rfl HT.out.P (fun hHeld => ?_)
                        have HT0 := Aside0.mk (HT.out.below (show Below W5.heap.size W5 W5.drew from below_drew1 (Below.refl _ _)))
                        refine take_ (i := 0) (N := some 106) (v := ?_) (a' := ?_) #[true, false, false, false, false, false, false, false, false, false, false] rfl rfl (by kernel_rfl) (fun _ _ _ h => h) (Or.inl ⟨by rfl, ?_⟩) hHeld ?_ ?_
                        rotate_left
                        · intro w' hS'
                          have c0 : w'.cell? ⟨p, 0, none⟩ = some (.int .i64 kz) := (blk_cell hS' 0).trans rfl; have c1 : w'.cell? ⟨p, 1, none⟩ = some (.int .i64 r) := (blk_cell hS' 1).trans rfl; have c2 : w'.cell? ⟨p, 2, none⟩ = some (.int .i64 0) := (blk_cell hS' 2).trans rfl; have c3 : w'.cell? ⟨p, 3, none⟩ = some (.slice none 0 0) := (blk_cell hS' 3).trans rfl
                          go_simp
                          with_reducible rfl
                        rotate_left
                        · simp only [Act.put, List.setIfInBounds_toArray, List.set_cons_zero, List.set_cons_succ, i64_w, i32_w]
                          rfl
                        refine take_ (i := 1) (N := some 107) (v := ?_) (a' := ?_) #[true, true, false, false, false, false, false, false, false, false, false] rfl rfl (by kernel_rfl) (fun _ _ _ h => h) (Or.inl ⟨by rfl, ?_⟩) hHeld ?_ ?_
                        rotate_left
                        · intro w' hS'
                          have c0 : w'.cell? ⟨p, 0, none⟩ = some (.int .i64 kz) := (blk_cell hS' 0).trans rfl; have c1 : w'.cell? ⟨p, 1, none⟩ = some (.int .i64 r) := (blk_cell hS' 1).trans rfl; have c2 : w'.cell? ⟨p, 2, none⟩ = some (.int .i64 0) := (blk_cell hS' 2).trans rfl; have c3 : w'.cell? ⟨p, 3, none⟩ = some (.slice none 0 0) := (blk_cell hS' 3).trans rfl
                          go_simp
                          with_reducible rfl
                        rotate_left
                        · simp only [Act.put, List.setIfInBounds_toArray, List.set_cons_zero, List.set_cons_succ, i64_w, i32_w]
                          rfl
                        refine one_ (i := 2) (N := some 108) #[true, true, true, false, false, false, false, false, false, false, false] rfl rfl (by kernel_rfl) (by decide) (fun K hK => ?_)
                        refine goes_ Tryz.func11 (by kernel_rfl) rfl #[.agg #[.int .i64 kz, .int .i64 r, .int .i64 0, .slice none 0 0]] (by rfl) rfl rfl (by simp [Act.eval]) ?_
                        refine (show Calls Tryz.prog 11 #[.agg #[.int .i64 kz, .int .i64 r, .int .i64 0, .slice none 0 0]] _ (fun x w' => x = .returned (.bool true) ∧ Below _ _ w') from HMB.out ▸ may_ref ⟨kz, r, 0, []⟩ (.slice none 0 0) _ HT0.out.V.byt).mono ?_
                        rintro e y2 ⟨rfl, hb⟩
                        refine ⟨_, rfl, ?_⟩
                        have HTa := Aside0.mk (HT0.out.below hb)
                        refine hK.out _ _ HTa.out.P (fun hHeld => ?_)
                        clear hK K hb
                        refine norm_ (a' := ?_) ?_ ?_
                        rotate_left
                        · show Act.put _ (some 108) _ = _
                          simp only [Act.put, List.setIfInBounds_toArray, List.set_cons_zero, List.set_cons_succ, i64_w, i32_w]
                          rfl
                        refine pure_ (i := 3) (N := some 109) (v := ?_) (a' := ?_) #[true, true, true, true, false, false, false, false, false, false, false] rfl rfl (by kernel_rfl) (fun _ _ _ h => h) (Or.inl ⟨by rfl, ?_⟩) ?_ ?_
                        rotate_left
                        · intro w'
                          go_simp
                          with_reducible rfl
                        rotate_left
                        · simp only [Act.put, List.setIfInBounds_toArray, List.set_cons_zero, List.set_cons_succ, i64_w, i32_w]
                          rfl
                        refine pure_ (i := 6) (N := some 112) (v := ?_) (a' := ?_) #[true, true, true, true, false, false, true, false, false, false, false] rfl rfl (by kernel_rfl) (fun _ _ _ h => h) (Or.inl ⟨by rfl, ?_⟩) ?_ ?_
                        rotate_left
                        · intro w'
                          go_simp
                          with_reducible rfl
                        rotate_left
                        · simp only [Act.put, List.setIfInBounds_toArray, List.set_cons_zero, List.set_cons_succ, i64_w, i32_w]
                          rfl
                        refine take_ (i := 4) (N := some 110) (v := ?_) (a' := ?_) #[true, true, true, true, true, false, true, false, false, false, false] rfl rfl (by kernel_rfl) (fun _ _ _ h => h) (Or.inl ⟨by rfl, ?_⟩) hHeld ?_ ?_
                        rotate_left
                        · intro w' hS'
                          have c0 : w'.cell? ⟨p, 0, none⟩ = some (.int .i64 kz) := (blk_cell hS' 0).trans rfl; have c1 : w'.cell? ⟨p, 1, none⟩ = some (.int .i64 r) := (blk_cell hS' 1).trans rfl; have c2 : w'.cell? ⟨p, 2, none⟩ = some (.int .i64 0) := (blk_cell hS' 2).trans rfl; have c3 : w'.cell? ⟨p, 3, none⟩ = some (.slice none 0 0) := (blk_cell hS' 3).trans rfl
                          go_simp
                          with_reducible rfl
                        rotate_left
                        · simp only [Act.put, List.setIfInBounds_toArray, List.set_cons_zero, List.set_cons_succ, i64_w, i32_w]
                          rfl
                        refine one_ (i := 5) (N := some 111) #[true, true, true, true, true, true, true, false, false, false, false] rfl rfl (by kernel_rfl) (by decide) (fun K hK => ?_)
                        refine goes_ Tryz.func18 (by kernel_rfl) rfl #[.agg #[.int .i64 kz, .int .i64 r, .int .i64 0, .slice none 0 0]] (by rfl) rfl rfl (by simp [Act.eval]) ?_
                        refine (show Calls Tryz.prog 18 #[.agg #[.int .i64 kz, .int .i64 r, .int .i64 0, .slice none 0 0]] _ (fun x w' => x = .returned (.string DL) ∧ Below _ _ w') from HDL.out ▸ line_ref kz r 0 [] (.slice none 0 0) _ HTa.out.V.byt HMY.out).mono ?_
                        rintro e y5 ⟨rfl, hb⟩
                        refine ⟨_, rfl, ?_⟩
                        have HTb := Aside0.mk (HTa.out.below hb)
                        refine hK.out _ _ HTb.out.P (fun hHeld => ?_)
                        clear hK K hb
                        refine norm_ (a' := ?_) ?_ ?_
                        rotate_left
                        · show Act.put _ (some 111) _ = _
                          simp only [Act.put, List.setIfInBounds_toArray, List.set_cons_zero, List.set_cons_succ, i64_w, i32_w]
                          rfl
                        refine pure_ (i := 7) (N := some 113) (v := ?_) (a' := ?_) #[true, true, true, true, true, true, true, true, false, false, false] rfl rfl (by kernel_rfl) (fun _ _ _ h => h) (Or.inl ⟨by rfl, ?_⟩) ?_ ?_
                        rotate_left
                        · intro w'
                          go_simp
                          with_reducible rfl
                        rotate_left
                        · simp only [Act.put, List.setIfInBounds_toArray, List.set_cons_zero, List.set_cons_succ, i64_w, i32_w]
                          rfl
                        refine pure_ (i := 8) (N := some 114) (v := ?_) (a' := ?_) #[true, true, true, true, true, true, true, true, true, false, false] rfl rfl (by kernel_rfl) (fun _ _ _ h => h) (Or.inl ⟨by rfl, ?_⟩) ?_ ?_
                        rotate_left
                        · intro w'
                          go_simp
                          with_reducible rfl
                        rotate_left
                        · simp only [Act.put, List.setIfInBounds_toArray, List.set_cons_zero, List.set_cons_succ, i64_w, i32_w]
                          rfl
                        refine one_ (i := 9) (N := none) #[true, true, true, true, true, true, true, true, true, true, false] rfl rfl (by kernel_rfl) (by decide) (fun K hK => ?_)
                        have d0 := HTb.out.d0
                        have d1 := HTb.out.d1
                        have d2 := HTb.out.d2
                        have d3 := HTb.out.d3
                        have r0 := HTb.out.fg 0
                        have r1 := HTb.out.fg 1
                        have r2 := HTb.out.fg 2
                        have r3 := HTb.out.fg 3
                        refine skip_ (w1 := ?_) (by rfl) rfl ?_ ?_
                        rotate_left
                        · go_simp
                          rfl
                        refine hK.out _ _ (blk_far (blk_far (blk_far (blk_far HTb.out.P (p := ⟨g, 0, none⟩) (Ne.symm HTb.out.far) _) (p := ⟨g, 1, none⟩) (Ne.symm HTb.out.far) _) (p := ⟨g, 2, none⟩) (Ne.symm HTb.out.far) _) (p := ⟨g, 3, none⟩) (Ne.symm HTb.out.far) _) (fun hHeld => ?_)
                        clear hK K d0 d1 d2 d3 r0 r1 r2 r3
                        refine pure_ (i := 10) (N := some 3) (v := ?_) (a' := ?_) #[true, true, true, true, true, true, true, true, true, true, true] rfl rfl (by kernel_rfl) (fun _ _ _ h => h) (Or.inl ⟨by rfl, ?_⟩) ?_ ?_
                        rotate_left
                        · intro w'
                          go_simp
                          with_reducible rfl
                        rotate_left
                        · simp only [Act.put, List.setIfInBounds_toArray, List.set_cons_zero, List.set_cons_succ, i64_w, i32_w]
                          rfl
                        refine done_ (by kernel_rfl) ?_
                        go_wp2
                        try simp only [Exit.inBlock, Exit.then]
                        exact bodyPost_ret (results_ct9 rfl _ _ g 35 _ (0, 0) _ rfl HTb.out.full Tryz.underlying35 rfl (by kernel_rfl)) rfl ⟨HTb.out.ret.1, _, _, _, _, _, _, _, rfl, (is_cases HDL.out.symm s).elim (fun h => .inl ⟨h.1, [], HTb.out.ret.2, HMY.out, h.2⟩) (fun h => .inr ⟨h.1, fun en h1 h2 => h.2 ((show en = ⟨kz, r, 0, []⟩ from by rw [← HL.out] at h2; exact (by have h3 := HW.out en h1 h2; have h5 := h3.1.trans HKZ.out; have h4 := (h3.2.2.2 (by rw [h5]; exact HK1.out)).2.1 (by rw [h5]; exact HK6.out); rw [h5] at h4; exact h4)) ▸ h2)⟩)⟩
                      · have HMY := Aside0.mk hm
                        have HMB := Aside0.mk (show mayB ⟨kz, r, 0, []⟩ = false from by rw [Bool.eq_false_iff]; exact fun h => hm ((mayB_iff _).1 h))
                        clear hm
                        refine start_ (n := 11) (S := fun w' => w'.heap[p]? = some (.cells #[.int .i64 kz, .int .i64 r, .int .i64 0, .slice none 0 0] 35 (0, 0))) (ds := []) #[false, false, false, false, false, false, false, false, false, false, false] (by kernel_rfl) rfl rfl HT.out.P (fun hHeld => ?_)
                        have HT0 := Aside0.mk (HT.out.below (show Below W5.heap.size W5 W5.drew from below_drew1 (Below.refl _ _)))
                        refine take_ (i := 0) (N := some 106) (v := ?_) (a' := ?_) #[true, false, false, false, false, false, false, false, false, false, false] rfl rfl (by kernel_rfl) (fun _ _ _ h => h) (Or.inl ⟨by rfl, ?_⟩) hHeld ?_ ?_
                        rotate_left
                        · intro w' hS'
                          have c0 : w'.cell? ⟨p, 0, none⟩ = some (.int .i64 kz) := (blk_cell hS' 0).trans rfl; have c1 : w'.cell? ⟨p, 1, none⟩ = some (.int .i64 r) := (blk_cell hS' 1).trans rfl; have c2 : w'.cell? ⟨p, 2, none⟩ = some (.int .i64 0) := (blk_cell hS' 2).trans rfl; have c3 : w'.cell? ⟨p, 3, none⟩ = some (.slice none 0 0) := (blk_cell hS' 3).trans rfl
                          go_simp
                          with_reducible rfl
                        rotate_left
                        · simp only [Act.put, List.setIfInBounds_toArray, List.set_cons_zero, List.set_cons_succ, i64_w, i32_w]
                          rfl
                        refine take_ (i := 1) (N := some 107) (v := ?_) (a' := ?_) #[true, true, false, false, false, false, false, false, false, false, false] rfl rfl (by kernel_rfl) (fun _ _ _ h => h) (Or.inl ⟨by rfl, ?_⟩) hHeld ?_ ?_
                        rotate_left
                        · intro w' hS'
                          have c0 : w'.cell? ⟨p, 0, none⟩ = some (.int .i64 kz) := (blk_cell hS' 0).trans rfl; have c1 : w'.cell? ⟨p, 1, none⟩ = some (.int .i64 r) := (blk_cell hS' 1).trans rfl; have c2 : w'.cell? ⟨p, 2, none⟩ = some (.int .i64 0) := (blk_cell hS' 2).trans rfl; have c3 : w'.cell? ⟨p, 3, none⟩ = some (.slice none 0 0) := (blk_cell hS' 3).trans rfl
                          go_simp
                          with_reducible rfl
                        rotate_left
                        · simp only [Act.put, List.setIfInBounds_toArray, List.set_cons_zero, List.set_cons_succ, i64_w, i32_w]
                          rfl
                        refine one_ (i := 2) (N := some 108) #[true, true, true, false, false, false, false, false, false, false, false] rfl rfl (by kernel_rfl) (by decide) (fun K hK => ?_)
                        refine goes_ Tryz.func11 (by kernel_rfl) rfl #[.agg #[.int .i64 kz, .int .i64 r, .int .i64 0, .slice none 0 0]] (by rfl) rfl rfl (by simp [Act.eval]) ?_
                        refine (show Calls Tryz.prog 11 #[.agg #[.int .i64 kz, .int .i64 r, .int .i64 0, .slice none 0 0]] _ (fun x w' => x = .returned (.bool false) ∧ Below _ _ w') from HMB.out ▸ may_ref ⟨kz, r, 0, []⟩ (.slice none 0 0) _ HT0.out.V.byt).mono ?_
                        rintro e y2 ⟨rfl, hb⟩
                        refine ⟨_, rfl, ?_⟩
                        have HTa := Aside0.mk (HT0.out.below hb)
                        refine hK.out _ _ HTa.out.P (fun hHeld => ?_)
                        clear hK K hb
                        refine norm_ (a' := ?_) ?_ ?_
                        rotate_left
                        · show Act.put _ (some 108) _ = _
                          simp only [Act.put, List.setIfInBounds_toArray, List.set_cons_zero, List.set_cons_succ, i64_w, i32_w]
                          rfl
                        refine pure_ (i := 3) (N := some 109) (v := ?_) (a' := ?_) #[true, true, true, true, false, false, false, false, false, false, false] rfl rfl (by kernel_rfl) (fun _ _ _ h => h) (Or.inl ⟨by rfl, ?_⟩) ?_ ?_
                        rotate_left
                        · intro w'
                          go_simp
                          with_reducible rfl
                        rotate_left
                        · simp only [Act.put, List.setIfInBounds_toArray, List.set_cons_zero, List.set_cons_succ, i64_w, i32_w]
                          rfl
                        refine pure_ (i := 6) (N := some 112) (v := undef) (a' := ?_) #[true, true, true, true, false, false, true, false, false, false, false] rfl rfl (by kernel_rfl) (fun _ _ _ h => h) (Or.inr ⟨by rfl, rfl⟩) ?_ ?_
                        rotate_left
                        · simp only [Act.put, List.setIfInBounds_toArray, List.set_cons_zero, List.set_cons_succ, i64_w, i32_w]
                          rfl
                        refine pure_ (i := 4) (N := some 110) (v := undef) (a' := ?_) #[true, true, true, true, true, false, true, false, false, false, false] rfl rfl (by kernel_rfl) (fun _ _ _ h => h) (Or.inr ⟨by rfl, rfl⟩) ?_ ?_
                        rotate_left
                        · simp only [Act.put, List.setIfInBounds_toArray, List.set_cons_zero, List.set_cons_succ, i64_w, i32_w]
                          rfl
                        refine pure_ (i := 5) (N := some 111) (v := undef) (a' := ?_) #[true, true, true, true, true, true, true, false, false, false, false] rfl rfl (by kernel_rfl) (fun _ _ _ h => h) (Or.inr ⟨by rfl, rfl⟩) ?_ ?_
                        rotate_left
                        · simp only [Act.put, List.setIfInBounds_toArray, List.set_cons_zero, List.set_cons_succ, i64_w, i32_w]
                          rfl
                        refine pure_ (i := 7) (N := some 113) (v := undef) (a' := ?_) #[true, true, true, true, true, true, true, true, false, false, false] rfl rfl (by kernel_rfl) (fun _ _ _ h => h) (Or.inr ⟨by rfl, rfl⟩) ?_ ?_
                        rotate_left
                        · simp only [Act.put, List.setIfInBounds_toArray, List.set_cons_zero, List.set_cons_succ, i64_w, i32_w]
                          rfl
                        refine pure_ (i := 8) (N := some 114) (v := ?_) (a' := ?_) #[true, true, true, true, true, true, true, true, true, false, false] rfl rfl (by kernel_rfl) (fun _ _ _ h => h) (Or.inl ⟨by rfl, ?_⟩) ?_ ?_
                        rotate_left
                        · intro w'
                          go_simp
                          with_reducible rfl
                        rotate_left
                        · simp only [Act.put, List.setIfInBounds_toArray, List.set_cons_zero, List.set_cons_succ, i64_w, i32_w]
                          rfl
                        refine one_ (i := 9) (N := none) #[true, true, true, true, true, true, true, true, true, true, false] rfl rfl (by kernel_rfl) (by decide) (fun K hK => ?_)
                        have d0 := HTa.out.d0
                        have d1 := HTa.out.d1
                        have d2 := HTa.out.d2
                        have d3 := HTa.out.d3
                        have r0 := HTa.out.fg 0
                        have r1 := HTa.out.fg 1
                        have r2 := HTa.out.fg 2
                        have r3 := HTa.out.fg 3
                        refine skip_ (w1 := ?_) (by rfl) rfl ?_ ?_
                        rotate_left
                        · go_simp
                          rfl
                        refine hK.out _ _ (blk_far (blk_far (blk_far (blk_far HTa.out.P (p := ⟨g, 0, none⟩) (Ne.symm HTa.out.far) _) (p := ⟨g, 1, none⟩) (Ne.symm HTa.out.far) _) (p := ⟨g, 2, none⟩) (Ne.symm HTa.out.far) _) (p := ⟨g, 3, none⟩) (Ne.symm HTa.out.far) _) (fun hHeld => ?_)
                        clear hK K d0 d1 d2 d3 r0 r1 r2 r3
                        refine pure_ (i := 10) (N := some 3) (v := ?_) (a' := ?_) #[true, true, true, true, true, true, true, true, true, true, true] rfl rfl (by kernel_rfl) (fun _ _ _ h => h) (Or.inl ⟨by rfl, ?_⟩) ?_ ?_
                        rotate_left
                        · intro w'
                          go_simp
                          with_reducible rfl
                        rotate_left
                        · simp only [Act.put, List.setIfInBounds_toArray, List.set_cons_zero, List.set_cons_succ, i64_w, i32_w]
                          rfl
                        refine done_ (by kernel_rfl) ?_
                        go_wp2
                        try simp only [Exit.inBlock, Exit.then]
                        exact bodyPost_ret (results_ct9 rfl _ _ g 35 _ (0, 0) _ rfl HTa.out.full Tryz.underlying35 rfl (by kernel_rfl)) rfl ⟨HTa.out.ret.1, _, _, _, _, _, _, _, rfl, .inr ⟨rfl, fun en h1 h2 => by rw [← HL.out] at h2; exact HMY.out ((by have h3 := HW.out en h1 h2; have h5 := h3.1.trans HKZ.out; have h4 := (h3.2.2.2 (by rw [h5]; exact HK1.out)).2.1 (by rw [h5]; exact HK6.out); rw [h5] at h4; exact h4) ▸ h1)⟩⟩
                    · have x32 : ((c.toNat : Int) == 32) = false := beq_eq_false_iff_ne.mpr (fun e => h32 (UInt8.toNat_inj.1 (by show c.toNat = 32; omega)))
                      have HNX := Aside0.mk (show ∀ x ∈ y.take (e + 1), x ≠ 32 from fun x hx => by
                        rw [List.take_add_one, hc] at hx
                        rcases List.mem_append.1 hx with hx | hx
                        · exact HI.out.2.2 x hx
                        · simp at hx; rw [hx]; exact h32)
                      clear hi hc h32 hslZ
                      go_wp2
                      go_roundg (gk - 1)
                      case measure => have := HI.out; have := HI2.out; omega
                      case rel => exact ⟨e + 1, by first | rfl | (rw [hwe]), ⟨by have := HI.out; have := HI2.out; omega, HI2.out, HNX.out⟩, rfl⟩
                  · have hc0 : ((e : Int) < (Y.size : Int)) = False := eq_false (by omega)
                    have hc1 : decide ((e : Int) < (Y.size : Int)) = false := decide_eq_false (by omega)
                    have hee : e = y.length := by have := HI.out; have := HYS.out; omega
                    have HZA := Aside0.mk (show Z.data.toList = atOf l from (HZQ.out (.inl hee)).1)
                    have HQA := Aside0.mk (show Q.data.toList = quotedOf l from (HZQ.out (.inl hee)).2)
                    clear hi hee
                    have HW := Aside0.mk (fun en h1 h2 => whyn (r := r) (fun v a b c => HVR.out v a b (HZA.out.trans c)) HN7.out en h1 h2)
                    go_upto_region 20 with (first | (go_at_call 35; (with_reducible refine (HCR.out _).mono ?_); rintro x w9 ⟨rfl, hb⟩; have HS9 := Aside0.mk (HS.out.below hb); clear hb))
                    clear hslZ
                    by_cases hr0 : r < 0
                    · have hr1 : decide (r < 0) = true := decide_eq_true hr0
                      have d0 := HS9.out.d0
                      have d1 := HS9.out.d1
                      have d2 := HS9.out.d2
                      have d3 := HS9.out.d3
                      have r0 := HS9.out.fg 0
                      have r1 := HS9.out.fg 1
                      have r2 := HS9.out.fg 2
                      have r3 := HS9.out.fg 3
                      have gp := HS9.out.far
                      have pg := Ne.symm HS9.out.far
                      go_wp2
                      try simp only [Exit.inBlock, Exit.then]
                      exact bodyPost_ret (results_ct9 rfl _ _ g 35 _ (0, 0) _ rfl (put4 HS9.out.Q _ _ _ _) Tryz.underlying35 rfl (by kernel_rfl)) rfl ⟨put4_below HGE.out HS9.out.B _ _ _ _, _, _, _, _, _, _, _, rfl, .inr ⟨rfl, fun en h1 h2 => by rw [← HL.out] at h2; have := (HW.out en h1 h2).2.1; omega⟩⟩
                    have hr1 : decide (r < 0) = false := decide_eq_false hr0
                    by_cases k1 : kz = 1
                    · subst k1
                      have c0 := HS9.out.c0
                      have c1 := HS9.out.c1
                      have c2 := HS9.out.c2
                      have c3 := HS9.out.c3
                      have q1 := HS9.out.fp 1
                      have q2 := HS9.out.fp 2
                      have q3 := HS9.out.fp 3
                      go_upto_region 30 with (fail)
                      clear c0 c1 c2 c3 q1 q2 q3
                      obtain ⟨W5, hW5⟩ : ∃ W5, W5 = w9.setCell ⟨p, 2, none⟩ (.int .i64 r) := ⟨_, rfl⟩
                      have HT := Aside0.mk (show St w W5 g p 1 0 r (.slice none 0 0) [] w.heap.size from by rw [hW5]; exact HS9.out.set2 r)
                      rw [← hW5]
                      clear hW5
                      by_cases hm : MayE ⟨1, 0, r, []⟩
                      · have HMY := Aside0.mk hm
                        have HMB := Aside0.mk ((mayB_iff ⟨1, 0, r, []⟩).2 hm)
                        clear hm
                        obtain ⟨DL, hDL⟩ : ∃ DL, DL = ba (lineL ⟨1, 0, r, []⟩) := ⟨_, rfl⟩
                        have HDL := Aside0.mk hDL.symm
                        clear hDL
                        refine start_ (n := 11) (S := fun w' => w'.heap[p]? = some (.cells #[.int .i64 1, .int .i64 0, .int .i64 r, .slice none 0 0] 35 (0, 0))) (ds := []) #[false, false, false, false, false, false, false, false, false, false, false] (by kernel_rfl) rfl rfl HT.out.P (fun hHeld => ?_)
                        have HT0 := Aside0.mk (HT.out.below (show Below W5.heap.size W5 W5.drew from below_drew1 (Below.refl _ _)))
                        refine take_ (i := 0) (N := some 106) (v := ?_) (a' := ?_) #[true, false, false, false, false, false, false, false, false, false, false] rfl rfl (by kernel_rfl) (fun _ _ _ h => h) (Or.inl ⟨by rfl, ?_⟩) hHeld ?_ ?_
                        rotate_left
                        · intro w' hS'
                          have c0 : w'.cell? ⟨p, 0, none⟩ = some (.int .i64 1) := (blk_cell hS' 0).trans rfl; have c1 : w'.cell? ⟨p, 1, none⟩ = some (.int .i64 0) := (blk_cell hS' 1).trans rfl; have c2 : w'.cell? ⟨p, 2, none⟩ = some (.int .i64 r) := (blk_cell hS' 2).trans rfl; have c3 : w'.cell? ⟨p, 3, none⟩ = some (.slice none 0 0) := (blk_cell hS' 3).trans rfl
                          go_simp
                          with_reducible rfl
                        rotate_left
                        · simp only [Act.put, List.setIfInBounds_toArray, List.set_cons_zero, List.set_cons_succ, i64_w, i32_w]
                          rfl
                        refine take_ (i := 1) (N := some 107) (v := ?_) (a' := ?_) #[true, true, false, false, false, false, false, false, false, false, false] rfl rfl (by kernel_rfl) (fun _ _ _ h => h) (Or.inl ⟨by rfl, ?_⟩) hHeld ?_ ?_
                        rotate_left
                        · intro w' hS'
                          have c0 : w'.cell? ⟨p, 0, none⟩ = some (.int .i64 1) := (blk_cell hS' 0).trans rfl; have c1 : w'.cell? ⟨p, 1, none⟩ = some (.int .i64 0) := (blk_cell hS' 1).trans rfl; have c2 : w'.cell? ⟨p, 2, none⟩ = some (.int .i64 r) := (blk_cell hS' 2).trans rfl; have c3 : w'.cell? ⟨p, 3, none⟩ = some (.slice none 0 0) := (blk_cell hS' 3).trans rfl
                          go_simp
                          with_reducible rfl
                        rotate_left
                        · simp only [Act.put, List.setIfInBounds_toArray, List.set_cons_zero, List.set_cons_succ, i64_w, i32_w]
                          rfl
                        refine one_ (i := 2) (N := some 108) #[true, true, true, false, false, false, false, false, false, false, false] rfl rfl (by kernel_rfl) (by decide) (fun K hK => ?_)
                        refine goes_ Tryz.func11 (by kernel_rfl) rfl #[.agg #[.int .i64 1, .int .i64 0, .int .i64 r, .slice none 0 0]] (by rfl) rfl rfl (by simp [Act.eval]) ?_
                        refine (show Calls Tryz.prog 11 #[.agg #[.int .i64 1, .int .i64 0, .int .i64 r, .slice none 0 0]] _ (fun x w' => x = .returned (.bool true) ∧ Below _ _ w') from HMB.out ▸ may_ref ⟨1, 0, r, []⟩ (.slice none 0 0) _ HT0.out.V.byt).mono ?_
                        rintro e y2 ⟨rfl, hb⟩
                        refine ⟨_, rfl, ?_⟩
                        have HTa := Aside0.mk (HT0.out.below hb)
                        refine hK.out _ _ HTa.out.P (fun hHeld => ?_)
                        clear hK K hb
                        refine norm_ (a' := ?_) ?_ ?_
                        rotate_left
                        · show Act.put _ (some 108) _ = _
                          simp only [Act.put, List.setIfInBounds_toArray, List.set_cons_zero, List.set_cons_succ, i64_w, i32_w]
                          rfl
                        refine pure_ (i := 3) (N := some 109) (v := ?_) (a' := ?_) #[true, true, true, true, false, false, false, false, false, false, false] rfl rfl (by kernel_rfl) (fun _ _ _ h => h) (Or.inl ⟨by rfl, ?_⟩) ?_ ?_
                        rotate_left
                        · intro w'
                          go_simp
                          with_reducible rfl
                        rotate_left
                        · simp only [Act.put, List.setIfInBounds_toArray, List.set_cons_zero, List.set_cons_succ, i64_w, i32_w]
                          rfl
                        refine pure_ (i := 6) (N := some 112) (v := ?_) (a' := ?_) #[true, true, true, true, false, false, true, false, false, false, false] rfl rfl (by kernel_rfl) (fun _ _ _ h => h) (Or.inl ⟨by rfl, ?_⟩) ?_ ?_
                        rotate_left
                        · intro w'
                          go_simp
                          with_reducible rfl
                        rotate_left
                        · simp only [Act.put, List.setIfInBounds_toArray, List.set_cons_zero, List.set_cons_succ, i64_w, i32_w]
                          rfl
                        refine take_ (i := 4) (N := some 110) (v := ?_) (a' := ?_) #[true, true, true, true, true, false, true, false, false, false, false] rfl rfl (by kernel_rfl) (fun _ _ _ h => h) (Or.inl ⟨by rfl, ?_⟩) hHeld ?_ ?_
                        rotate_left
                        · intro w' hS'
                          have c0 : w'.cell? ⟨p, 0, none⟩ = some (.int .i64 1) := (blk_cell hS' 0).trans rfl; have c1 : w'.cell? ⟨p, 1, none⟩ = some (.int .i64 0) := (blk_cell hS' 1).trans rfl; have c2 : w'.cell? ⟨p, 2, none⟩ = some (.int .i64 r) := (blk_cell hS' 2).trans rfl; have c3 : w'.cell? ⟨p, 3, none⟩ = some (.slice none 0 0) := (blk_cell hS' 3).trans rfl
                          go_simp
                          with_reducible rfl
                        rotate_left
                        · simp only [Act.put, List.setIfInBounds_toArray, List.set_cons_zero, List.set_cons_succ, i64_w, i32_w]
                          rfl
                        refine one_ (i := 5) (N := some 111) #[true, true, true, true, true, true, true, false, false, false, false] rfl rfl (by kernel_rfl) (by decide) (fun K hK => ?_)
                        refine goes_ Tryz.func18 (by kernel_rfl) rfl #[.agg #[.int .i64 1, .int .i64 0, .int .i64 r, .slice none 0 0]] (by rfl) rfl rfl (by simp [Act.eval]) ?_
                        refine (show Calls Tryz.prog 18 #[.agg #[.int .i64 1, .int .i64 0, .int .i64 r, .slice none 0 0]] _ (fun x w' => x = .returned (.string DL) ∧ Below _ _ w') from HDL.out ▸ line_ref 1 0 r [] (.slice none 0 0) _ HTa.out.V.byt HMY.out).mono ?_
                        rintro e y5 ⟨rfl, hb⟩
                        refine ⟨_, rfl, ?_⟩
                        have HTb := Aside0.mk (HTa.out.below hb)
                        refine hK.out _ _ HTb.out.P (fun hHeld => ?_)
                        clear hK K hb
                        refine norm_ (a' := ?_) ?_ ?_
                        rotate_left
                        · show Act.put _ (some 111) _ = _
                          simp only [Act.put, List.setIfInBounds_toArray, List.set_cons_zero, List.set_cons_succ, i64_w, i32_w]
                          rfl
                        refine pure_ (i := 7) (N := some 113) (v := ?_) (a' := ?_) #[true, true, true, true, true, true, true, true, false, false, false] rfl rfl (by kernel_rfl) (fun _ _ _ h => h) (Or.inl ⟨by rfl, ?_⟩) ?_ ?_
                        rotate_left
                        · intro w'
                          go_simp
                          with_reducible rfl
                        rotate_left
                        · simp only [Act.put, List.setIfInBounds_toArray, List.set_cons_zero, List.set_cons_succ, i64_w, i32_w]
                          rfl
                        refine pure_ (i := 8) (N := some 114) (v := ?_) (a' := ?_) #[true, true, true, true, true, true, true, true, true, false, false] rfl rfl (by kernel_rfl) (fun _ _ _ h => h) (Or.inl ⟨by rfl, ?_⟩) ?_ ?_
                        rotate_left
                        · intro w'
                          go_simp
                          with_reducible rfl
                        rotate_left
                        · simp only [Act.put, List.setIfInBounds_toArray, List.set_cons_zero, List.set_cons_succ, i64_w, i32_w]
                          rfl
                        refine one_ (i := 9) (N := none) #[true, true, true, true, true, true, true, true, true, true, false] rfl rfl (by kernel_rfl) (by decide) (fun K hK => ?_)
                        have d0 := HTb.out.d0
                        have d1 := HTb.out.d1
                        have d2 := HTb.out.d2
                        have d3 := HTb.out.d3
                        have r0 := HTb.out.fg 0
                        have r1 := HTb.out.fg 1
                        have r2 := HTb.out.fg 2
                        have r3 := HTb.out.fg 3
                        refine skip_ (w1 := ?_) (by rfl) rfl ?_ ?_
                        rotate_left
                        · go_simp
                          rfl
                        refine hK.out _ _ (blk_far (blk_far (blk_far (blk_far HTb.out.P (p := ⟨g, 0, none⟩) (Ne.symm HTb.out.far) _) (p := ⟨g, 1, none⟩) (Ne.symm HTb.out.far) _) (p := ⟨g, 2, none⟩) (Ne.symm HTb.out.far) _) (p := ⟨g, 3, none⟩) (Ne.symm HTb.out.far) _) (fun hHeld => ?_)
                        clear hK K d0 d1 d2 d3 r0 r1 r2 r3
                        refine pure_ (i := 10) (N := some 3) (v := ?_) (a' := ?_) #[true, true, true, true, true, true, true, true, true, true, true] rfl rfl (by kernel_rfl) (fun _ _ _ h => h) (Or.inl ⟨by rfl, ?_⟩) ?_ ?_
                        rotate_left
                        · intro w'
                          go_simp
                          with_reducible rfl
                        rotate_left
                        · simp only [Act.put, List.setIfInBounds_toArray, List.set_cons_zero, List.set_cons_succ, i64_w, i32_w]
                          rfl
                        refine done_ (by kernel_rfl) ?_
                        go_wp2
                        try simp only [Exit.inBlock, Exit.then]
                        exact bodyPost_ret (results_ct9 rfl _ _ g 35 _ (0, 0) _ rfl HTb.out.full Tryz.underlying35 rfl (by kernel_rfl)) rfl ⟨HTb.out.ret.1, _, _, _, _, _, _, _, rfl, (is_cases HDL.out.symm s).elim (fun h => .inl ⟨h.1, [], HTb.out.ret.2, HMY.out, h.2⟩) (fun h => .inr ⟨h.1, fun en h1 h2 => h.2 ((show en = ⟨1, 0, r, []⟩ from by rw [← HL.out] at h2; exact ((HW.out en h1 h2).2.2.1 ((HW.out en h1 h2).1.trans HKZ.out))) ▸ h2)⟩)⟩
                      · have HMY := Aside0.mk hm
                        have HMB := Aside0.mk (show mayB ⟨1, 0, r, []⟩ = false from by rw [Bool.eq_false_iff]; exact fun h => hm ((mayB_iff _).1 h))
                        clear hm
                        refine start_ (n := 11) (S := fun w' => w'.heap[p]? = some (.cells #[.int .i64 1, .int .i64 0, .int .i64 r, .slice none 0 0] 35 (0, 0))) (ds := []) #[false, false, false, false, false, false, false, false, false, false, false] (by kernel_rfl) rfl rfl HT.out.P (fun hHeld => ?_)
                        have HT0 := Aside0.mk (HT.out.below (show Below W5.heap.size W5 W5.drew from below_drew1 (Below.refl _ _)))
                        refine take_ (i := 0) (N := some 106) (v := ?_) (a' := ?_) #[true, false, false, false, false, false, false, false, false, false, false] rfl rfl (by kernel_rfl) (fun _ _ _ h => h) (Or.inl ⟨by rfl, ?_⟩) hHeld ?_ ?_
                        rotate_left
                        · intro w' hS'
                          have c0 : w'.cell? ⟨p, 0, none⟩ = some (.int .i64 1) := (blk_cell hS' 0).trans rfl; have c1 : w'.cell? ⟨p, 1, none⟩ = some (.int .i64 0) := (blk_cell hS' 1).trans rfl; have c2 : w'.cell? ⟨p, 2, none⟩ = some (.int .i64 r) := (blk_cell hS' 2).trans rfl; have c3 : w'.cell? ⟨p, 3, none⟩ = some (.slice none 0 0) := (blk_cell hS' 3).trans rfl
                          go_simp
                          with_reducible rfl
                        rotate_left
                        · simp only [Act.put, List.setIfInBounds_toArray, List.set_cons_zero, List.set_cons_succ, i64_w, i32_w]
                          rfl
                        refine take_ (i := 1) (N := some 107) (v := ?_) (a' := ?_) #[true, true, false, false, false, false, false, false, false, false, false] rfl rfl (by kernel_rfl) (fun _ _ _ h => h) (Or.inl ⟨by rfl, ?_⟩) hHeld ?_ ?_
                        rotate_left
                        · intro w' hS'
                          have c0 : w'.cell? ⟨p, 0, none⟩ = some (.int .i64 1) := (blk_cell hS' 0).trans rfl; have c1 : w'.cell? ⟨p, 1, none⟩ = some (.int .i64 0) := (blk_cell hS' 1).trans rfl; have c2 : w'.cell? ⟨p, 2, none⟩ = some (.int .i64 r) := (blk_cell hS' 2).trans rfl; have c3 : w'.cell? ⟨p, 3, none⟩ = some (.slice none 0 0) := (blk_cell hS' 3).trans rfl
                          go_simp
                          with_reducible rfl
                        rotate_left
                        · simp only [Act.put, List.setIfInBounds_toArray, List.set_cons_zero, List.set_cons_succ, i64_w, i32_w]
                          rfl
                        refine one_ (i := 2) (N := some 108) #[true, true, true, false, false, false, false, false, false, false, false] rfl rfl (by kernel_rfl) (by decide) (fun K hK => ?_)
                        refine goes_ Tryz.func11 (by kernel_rfl) rfl #[.agg #[.int .i64 1, .int .i64 0, .int .i64 r, .slice none 0 0]] (by rfl) rfl rfl (by simp [Act.eval]) ?_
                        refine (show Calls Tryz.prog 11 #[.agg #[.int .i64 1, .int .i64 0, .int .i64 r, .slice none 0 0]] _ (fun x w' => x = .returned (.bool false) ∧ Below _ _ w') from HMB.out ▸ may_ref ⟨1, 0, r, []⟩ (.slice none 0 0) _ HT0.out.V.byt).mono ?_
                        rintro e y2 ⟨rfl, hb⟩
                        refine ⟨_, rfl, ?_⟩
                        have HTa := Aside0.mk (HT0.out.below hb)
                        refine hK.out _ _ HTa.out.P (fun hHeld => ?_)
                        clear hK K hb
                        refine norm_ (a' := ?_) ?_ ?_
                        rotate_left
                        · show Act.put _ (some 108) _ = _
                          simp only [Act.put, List.setIfInBounds_toArray, List.set_cons_zero, List.set_cons_succ, i64_w, i32_w]
                          rfl
                        refine pure_ (i := 3) (N := some 109) (v := ?_) (a' := ?_) #[true, true, true, true, false, false, false, false, false, false, false] rfl rfl (by kernel_rfl) (fun _ _ _ h => h) (Or.inl ⟨by rfl, ?_⟩) ?_ ?_
                        rotate_left
                        · intro w'
                          go_simp
                          with_reducible rfl
                        rotate_left
                        · simp only [Act.put, List.setIfInBounds_toArray, List.set_cons_zero, List.set_cons_succ, i64_w, i32_w]
                          rfl
                        refine pure_ (i := 6) (N := some 112) (v := undef) (a' := ?_) #[true, true, true, true, false, false, true, false, false, false, false] rfl rfl (by kernel_rfl) (fun _ _ _ h => h) (Or.inr ⟨by rfl, rfl⟩) ?_ ?_
                        rotate_left
                        · simp only [Act.put, List.setIfInBounds_toArray, List.set_cons_zero, List.set_cons_succ, i64_w, i32_w]
                          rfl
                        refine pure_ (i := 4) (N := some 110) (v := undef) (a' := ?_) #[true, true, true, true, true, false, true, false, false, false, false] rfl rfl (by kernel_rfl) (fun _ _ _ h => h) (Or.inr ⟨by rfl, rfl⟩) ?_ ?_
                        rotate_left
                        · simp only [Act.put, List.setIfInBounds_toArray, List.set_cons_zero, List.set_cons_succ, i64_w, i32_w]
                          rfl
                        refine pure_ (i := 5) (N := some 111) (v := undef) (a' := ?_) #[true, true, true, true, true, true, true, false, false, false, false] rfl rfl (by kernel_rfl) (fun _ _ _ h => h) (Or.inr ⟨by rfl, rfl⟩) ?_ ?_
                        rotate_left
                        · simp only [Act.put, List.setIfInBounds_toArray, List.set_cons_zero, List.set_cons_succ, i64_w, i32_w]
                          rfl
                        refine pure_ (i := 7) (N := some 113) (v := undef) (a' := ?_) #[true, true, true, true, true, true, true, true, false, false, false] rfl rfl (by kernel_rfl) (fun _ _ _ h => h) (Or.inr ⟨by rfl, rfl⟩) ?_ ?_
                        rotate_left
                        · simp only [Act.put, List.setIfInBounds_toArray, List.set_cons_zero, List.set_cons_succ, i64_w, i32_w]
                          rfl
                        refine pure_ (i := 8) (N := some 114) (v := ?_) (a' := ?_) #[true, true, true, true, true, true, true, true, true, false, false] rfl rfl (by kernel_rfl) (fun _ _ _ h => h) (Or.inl ⟨by rfl, ?_⟩) ?_ ?_
                        rotate_left
                        · intro w'
                          go_simp
                          with_reducible rfl
                        rotate_left
                        · simp only [Act.put, List.setIfInBounds_toArray, List.set_cons_zero, List.set_cons_succ, i64_w, i32_w]
                          rfl
                        refine one_ (i := 9) (N := none) #[true, true, true, true, true, true, true, true, true, true, false] rfl rfl (by kernel_rfl) (by decide) (fun K hK => ?_)
                        have d0 := HTa.out.d0
                        have d1 := HTa.out.d1
                        have d2 := HTa.out.d2
                        have d3 := HTa.out.d3
                        have r0 := HTa.out.fg 0
                        have r1 := HTa.out.fg 1
                        have r2 := HTa.out.fg 2
                        have r3 := HTa.out.fg 3
                        refine skip_ (w1 := ?_) (by rfl) rfl ?_ ?_
                        rotate_left
                        · go_simp
                          rfl
                        refine hK.out _ _ (blk_far (blk_far (blk_far (blk_far HTa.out.P (p := ⟨g, 0, none⟩) (Ne.symm HTa.out.far) _) (p := ⟨g, 1, none⟩) (Ne.symm HTa.out.far) _) (p := ⟨g, 2, none⟩) (Ne.symm HTa.out.far) _) (p := ⟨g, 3, none⟩) (Ne.symm HTa.out.far) _) (fun hHeld => ?_)
                        clear hK K d0 d1 d2 d3 r0 r1 r2 r3
                        refine pure_ (i := 10) (N := some 3) (v := ?_) (a' := ?_) #[true, true, true, true, true, true, true, true, true, true, true] rfl rfl (by kernel_rfl) (fun _ _ _ h => h) (Or.inl ⟨by rfl, ?_⟩) ?_ ?_
                        rotate_left
                        · intro w'
                          go_simp
                          with_reducible rfl
                        rotate_left
                        · simp only [Act.put, List.setIfInBounds_toArray, List.set_cons_zero, List.set_cons_succ, i64_w, i32_w]
                          rfl
                        refine done_ (by kernel_rfl) ?_
                        go_wp2
                        try simp only [Exit.inBlock, Exit.then]
                        exact bodyPost_ret (results_ct9 rfl _ _ g 35 _ (0, 0) _ rfl HTa.out.full Tryz.underlying35 rfl (by kernel_rfl)) rfl ⟨HTa.out.ret.1, _, _, _, _, _, _, _, rfl, .inr ⟨rfl, fun en h1 h2 => by rw [← HL.out] at h2; exact HMY.out (((HW.out en h1 h2).2.2.1 ((HW.out en h1 h2).1.trans HKZ.out)) ▸ h1)⟩⟩
                    have n1 : (kz == 1) = false := beq_eq_false_iff_ne.mpr k1
                    have n1b : (kz != 1) = true := by simp [bne, n1]
                    by_cases hmx : 2147483647 < r
                    · have hm1 : decide (2147483647 < r) = true := decide_eq_true hmx
                      have hm2 : decide (r > 2147483647) = true := decide_eq_true hmx
                      have d0 := HS9.out.d0
                      have d1 := HS9.out.d1
                      have d2 := HS9.out.d2
                      have d3 := HS9.out.d3
                      have r0 := HS9.out.fg 0
                      have r1 := HS9.out.fg 1
                      have r2 := HS9.out.fg 2
                      have r3 := HS9.out.fg 3
                      have gp := HS9.out.far
                      have pg := Ne.symm HS9.out.far
                      go_wp2
                      try simp only [Exit.inBlock, Exit.then]
                      exact bodyPost_ret (results_ct9 rfl _ _ g 35 _ (0, 0) _ rfl (put4 HS9.out.Q _ _ _ _) Tryz.underlying35 rfl (by kernel_rfl)) rfl ⟨put4_below HGE.out HS9.out.B _ _ _ _, _, _, _, _, _, _, _, rfl, .inr ⟨rfl, fun en h1 h2 => by rw [← HL.out] at h2; have h3 := HW.out en h1 h2; have h4 := h3.2.2.2 (by rw [h3.1, HKZ.out]; exact k1); omega⟩⟩
                    have hm1 : decide (2147483647 < r) = false := decide_eq_false hmx
                    have hm2 : decide (r > 2147483647) = false := decide_eq_false hmx
                    have HK1 := Aside0.mk k1
                    by_cases k6 : kz = 6
                    · subst k6
                      have c0 := HS9.out.c0
                      have c1 := HS9.out.c1
                      have c2 := HS9.out.c2
                      have c3 := HS9.out.c3
                      have q1 := HS9.out.fp 1
                      have q2 := HS9.out.fp 2
                      have q3 := HS9.out.fp 3
                      clear k1
                      go_upto_region 26 with (fail)
                      clear c0 c1 c2 c3 q1 q2 q3 n1 n1b hm1 hm2
                      obtain ⟨W6, hW6⟩ : ∃ W6, W6 = w9.setCell ⟨p, 1, none⟩ (.int .i64 r) := ⟨_, rfl⟩
                      have HS6 := Aside0.mk (show St w W6 g p 6 r 0 (.slice none 0 0) [] w.heap.size from by rw [hW6]; exact HS9.out.set1 r)
                      rw [← hW6]
                      clear hW6
                      go_upto_region 27 with (first | (go_at_call 36; rw [HQE.out]; (with_reducible refine (unq_ref Q (by have := HQZ.out; omega) W6).mono ?_); rintro x w7 ⟨⟨A6, m6, c6, is, rfl, hu⟩, hb⟩; have HS7 := Aside0.mk (HS6.out.below hb); have HU := Aside0.mk hu; clear hb hu))
                      rcases HU.out with ⟨rfl, os, hq, hv⟩ | ⟨rfl, hq⟩
                      · have HQO := Aside0.mk hq
                        have HV := Aside0.mk (show RV w7 w.heap.size (.slice A6 m6 c6) os from Kd.R_lower hv HS6.out.B.size)
                        clear hq hv
                        have c0 := HS7.out.c0
                        have c1 := HS7.out.c1
                        have c2 := HS7.out.c2
                        have c3 := HS7.out.c3
                        have q1 := HS7.out.fp 1
                        have q2 := HS7.out.fp 2
                        have q3 := HS7.out.fp 3
                        go_upto_region 30 with (fail)
                        clear c0 c1 c2 c3 q1 q2 q3
                        obtain ⟨W5, hW5⟩ : ∃ W5, W5 = w7.setCell ⟨p, 3, none⟩ (.slice A6 m6 c6) := ⟨_, rfl⟩
                        have HT := Aside0.mk (show St w W5 g p 6 r 0 (.slice A6 m6 c6) os w.heap.size from by rw [hW5]; exact HS7.out.set3 HV.out)
                        rw [← hW5]
                        clear hW5
                        by_cases hm : MayE ⟨6, r, 0, os⟩
                        · have HMY := Aside0.mk hm
                          have HMB := Aside0.mk ((mayB_iff ⟨6, r, 0, os⟩).2 hm)
                          clear hm
                          obtain ⟨DL, hDL⟩ : ∃ DL, DL = ba (lineL ⟨6, r, 0, os⟩) := ⟨_, rfl⟩
                          have HDL := Aside0.mk hDL.symm
                          clear hDL
                          refine start_ (n := 11) (S := fun w' => w'.heap[p]? = some (.cells #[.int .i64 6, .int .i64 r, .int .i64 0, .slice A6 m6 c6] 35 (0, 0))) (ds := []) #[false, false, false, false, false, false, false, false, false, false, false] (by kernel_rfl) rfl rfl HT.out.P (fun hHeld => ?_)
                          have HT0 := Aside0.mk (HT.out.below (show Below W5.heap.size W5 W5.drew from below_drew1 (Below.refl _ _)))
                          refine take_ (i := 0) (N := some 106) (v := ?_) (a' := ?_) #[true, false, false, false, false, false, false, false, false, false, false] rfl rfl (by kernel_rfl) (fun _ _ _ h => h) (Or.inl ⟨by rfl, ?_⟩) hHeld ?_ ?_
                          rotate_left
                          · intro w' hS'
                            have c0 : w'.cell? ⟨p, 0, none⟩ = some (.int .i64 6) := (blk_cell hS' 0).trans rfl; have c1 : w'.cell? ⟨p, 1, none⟩ = some (.int .i64 r) := (blk_cell hS' 1).trans rfl; have c2 : w'.cell? ⟨p, 2, none⟩ = some (.int .i64 0) := (blk_cell hS' 2).trans rfl; have c3 : w'.cell? ⟨p, 3, none⟩ = some (.slice A6 m6 c6) := (blk_cell hS' 3).trans rfl
                            go_simp
                            with_reducible rfl
                          rotate_left
                          · simp only [Act.put, List.setIfInBounds_toArray, List.set_cons_zero, List.set_cons_succ, i64_w, i32_w]
                            rfl
                          refine take_ (i := 1) (N := some 107) (v := ?_) (a' := ?_) #[true, true, false, false, false, false, false, false, false, false, false] rfl rfl (by kernel_rfl) (fun _ _ _ h => h) (Or.inl ⟨by rfl, ?_⟩) hHeld ?_ ?_
                          rotate_left
                          · intro w' hS'
                            have c0 : w'.cell? ⟨p, 0, none⟩ = some (.int .i64 6) := (blk_cell hS' 0).trans rfl; have c1 : w'.cell? ⟨p, 1, none⟩ = some (.int .i64 r) := (blk_cell hS' 1).trans rfl; have c2 : w'.cell? ⟨p, 2, none⟩ = some (.int .i64 0) := (blk_cell hS' 2).trans rfl; have c3 : w'.cell? ⟨p, 3, none⟩ = some (.slice A6 m6 c6) := (blk_cell hS' 3).trans rfl
                            go_simp
                            with_reducible rfl
                          rotate_left
                          · simp only [Act.put, List.setIfInBounds_toArray, List.set_cons_zero, List.set_cons_succ, i64_w, i32_w]
                            rfl
                          refine one_ (i := 2) (N := some 108) #[true, true, true, false, false, false, false, false, false, false, false] rfl rfl (by kernel_rfl) (by decide) (fun K hK => ?_)
                          refine goes_ Tryz.func11 (by kernel_rfl) rfl #[.agg #[.int .i64 6, .int .i64 r, .int .i64 0, .slice A6 m6 c6]] (by rfl) rfl rfl (by simp [Act.eval]) ?_
                          refine (show Calls Tryz.prog 11 #[.agg #[.int .i64 6, .int .i64 r, .int .i64 0, .slice A6 m6 c6]] _ (fun x w' => x = .returned (.bool true) ∧ Below _ _ w') from HMB.out ▸ may_ref ⟨6, r, 0, os⟩ (.slice A6 m6 c6) _ HT0.out.V.byt).mono ?_
                          rintro e y2 ⟨rfl, hb⟩
                          refine ⟨_, rfl, ?_⟩
                          have HTa := Aside0.mk (HT0.out.below hb)
                          refine hK.out _ _ HTa.out.P (fun hHeld => ?_)
                          clear hK K hb
                          refine norm_ (a' := ?_) ?_ ?_
                          rotate_left
                          · show Act.put _ (some 108) _ = _
                            simp only [Act.put, List.setIfInBounds_toArray, List.set_cons_zero, List.set_cons_succ, i64_w, i32_w]
                            rfl
                          refine pure_ (i := 3) (N := some 109) (v := ?_) (a' := ?_) #[true, true, true, true, false, false, false, false, false, false, false] rfl rfl (by kernel_rfl) (fun _ _ _ h => h) (Or.inl ⟨by rfl, ?_⟩) ?_ ?_
                          rotate_left
                          · intro w'
                            go_simp
                            with_reducible rfl
                          rotate_left
                          · simp only [Act.put, List.setIfInBounds_toArray, List.set_cons_zero, List.set_cons_succ, i64_w, i32_w]
                            rfl
                          refine pure_ (i := 6) (N := some 112) (v := ?_) (a' := ?_) #[true, true, true, true, false, false, true, false, false, false, false] rfl rfl (by kernel_rfl) (fun _ _ _ h => h) (Or.inl ⟨by rfl, ?_⟩) ?_ ?_
                          rotate_left
                          · intro w'
                            go_simp
                            with_reducible rfl
                          rotate_left
                          · simp only [Act.put, List.setIfInBounds_toArray, List.set_cons_zero, List.set_cons_succ, i64_w, i32_w]
                            rfl
                          refine take_ (i := 4) (N := some 110) (v := ?_) (a' := ?_) #[true, true, true, true, true, false, true, false, false, false, false] rfl rfl (by kernel_rfl) (fun _ _ _ h => h) (Or.inl ⟨by rfl, ?_⟩) hHeld ?_ ?_
                          rotate_left
                          · intro w' hS'
                            have c0 : w'.cell? ⟨p, 0, none⟩ = some (.int .i64 6) := (blk_cell hS' 0).trans rfl; have c1 : w'.cell? ⟨p, 1, none⟩ = some (.int .i64 r) := (blk_cell hS' 1).trans rfl; have c2 : w'.cell? ⟨p, 2, none⟩ = some (.int .i64 0) := (blk_cell hS' 2).trans rfl; have c3 : w'.cell? ⟨p, 3, none⟩ = some (.slice A6 m6 c6) := (blk_cell hS' 3).trans rfl
                            go_simp
                            with_reducible rfl
                          rotate_left
                          · simp only [Act.put, List.setIfInBounds_toArray, List.set_cons_zero, List.set_cons_succ, i64_w, i32_w]
                            rfl
                          refine one_ (i := 5) (N := some 111) #[true, true, true, true, true, true, true, false, false, false, false] rfl rfl (by kernel_rfl) (by decide) (fun K hK => ?_)
                          refine goes_ Tryz.func18 (by kernel_rfl) rfl #[.agg #[.int .i64 6, .int .i64 r, .int .i64 0, .slice A6 m6 c6]] (by rfl) rfl rfl (by simp [Act.eval]) ?_
                          refine (show Calls Tryz.prog 18 #[.agg #[.int .i64 6, .int .i64 r, .int .i64 0, .slice A6 m6 c6]] _ (fun x w' => x = .returned (.string DL) ∧ Below _ _ w') from HDL.out ▸ line_ref 6 r 0 os (.slice A6 m6 c6) _ HTa.out.V.byt HMY.out).mono ?_
                          rintro e y5 ⟨rfl, hb⟩
                          refine ⟨_, rfl, ?_⟩
                          have HTb := Aside0.mk (HTa.out.below hb)
                          refine hK.out _ _ HTb.out.P (fun hHeld => ?_)
                          clear hK K hb
                          refine norm_ (a' := ?_) ?_ ?_
                          rotate_left
                          · show Act.put _ (some 111) _ = _
                            simp only [Act.put, List.setIfInBounds_toArray, List.set_cons_zero, List.set_cons_succ, i64_w, i32_w]
                            rfl
                          refine pure_ (i := 7) (N := some 113) (v := ?_) (a' := ?_) #[true, true, true, true, true, true, true, true, false, false, false] rfl rfl (by kernel_rfl) (fun _ _ _ h => h) (Or.inl ⟨by rfl, ?_⟩) ?_ ?_
                          rotate_left
                          · intro w'
                            go_simp
                            with_reducible rfl
                          rotate_left
                          · simp only [Act.put, List.setIfInBounds_toArray, List.set_cons_zero, List.set_cons_succ, i64_w, i32_w]
                            rfl
                          refine pure_ (i := 8) (N := some 114) (v := ?_) (a' := ?_) #[true, true, true, true, true, true, true, true, true, false, false] rfl rfl (by kernel_rfl) (fun _ _ _ h => h) (Or.inl ⟨by rfl, ?_⟩) ?_ ?_
                          rotate_left
                          · intro w'
                            go_simp
                            with_reducible rfl
                          rotate_left
                          · simp only [Act.put, List.setIfInBounds_toArray, List.set_cons_zero, List.set_cons_succ, i64_w, i32_w]
                            rfl
                          refine one_ (i := 9) (N := none) #[true, true, true, true, true, true, true, true, true, true, false] rfl rfl (by kernel_rfl) (by decide) (fun K hK => ?_)
                          have d0 := HTb.out.d0
                          have d1 := HTb.out.d1
                          have d2 := HTb.out.d2
                          have d3 := HTb.out.d3
                          have r0 := HTb.out.fg 0
                          have r1 := HTb.out.fg 1
                          have r2 := HTb.out.fg 2
                          have r3 := HTb.out.fg 3
                          refine skip_ (w1 := ?_) (by rfl) rfl ?_ ?_
                          rotate_left
                          · go_simp
                            rfl
                          refine hK.out _ _ (blk_far (blk_far (blk_far (blk_far HTb.out.P (p := ⟨g, 0, none⟩) (Ne.symm HTb.out.far) _) (p := ⟨g, 1, none⟩) (Ne.symm HTb.out.far) _) (p := ⟨g, 2, none⟩) (Ne.symm HTb.out.far) _) (p := ⟨g, 3, none⟩) (Ne.symm HTb.out.far) _) (fun hHeld => ?_)
                          clear hK K d0 d1 d2 d3 r0 r1 r2 r3
                          refine pure_ (i := 10) (N := some 3) (v := ?_) (a' := ?_) #[true, true, true, true, true, true, true, true, true, true, true] rfl rfl (by kernel_rfl) (fun _ _ _ h => h) (Or.inl ⟨by rfl, ?_⟩) ?_ ?_
                          rotate_left
                          · intro w'
                            go_simp
                            with_reducible rfl
                          rotate_left
                          · simp only [Act.put, List.setIfInBounds_toArray, List.set_cons_zero, List.set_cons_succ, i64_w, i32_w]
                            rfl
                          refine done_ (by kernel_rfl) ?_
                          go_wp2
                          try simp only [Exit.inBlock, Exit.then]
                          exact bodyPost_ret (results_ct9 rfl _ _ g 35 _ (0, 0) _ rfl HTb.out.full Tryz.underlying35 rfl (by kernel_rfl)) rfl ⟨HTb.out.ret.1, _, _, _, _, _, _, _, rfl, (is_cases HDL.out.symm s).elim (fun h => .inl ⟨h.1, os, HTb.out.ret.2, HMY.out, h.2⟩) (fun h => .inr ⟨h.1, fun en h1 h2 => h.2 ((show en = ⟨6, r, 0, os⟩ from by rw [← HL.out] at h2; exact (by have h3 := HW.out en h1 h2; have h5 := h3.1.trans HKZ.out; have h4 := (h3.2.2.2 (by omega)).2.2 h5; have h6 := quote_inj (h4.2.trans (HQA.out.symm.trans HQO.out.symm)); rw [h6] at h4; exact h4.1)) ▸ h2)⟩)⟩
                        · have HMY := Aside0.mk hm
                          have HMB := Aside0.mk (show mayB ⟨6, r, 0, os⟩ = false from by rw [Bool.eq_false_iff]; exact fun h => hm ((mayB_iff _).1 h))
                          clear hm
                          refine start_ (n := 11) (S := fun w' => w'.heap[p]? = some (.cells #[.int .i64 6, .int .i64 r, .int .i64 0, .slice A6 m6 c6] 35 (0, 0))) (ds := []) #[false, false, false, false, false, false, false, false, false, false, false] (by kernel_rfl) rfl rfl HT.out.P (fun hHeld => ?_)
                          have HT0 := Aside0.mk (HT.out.below (show Below W5.heap.size W5 W5.drew from below_drew1 (Below.refl _ _)))
                          refine take_ (i := 0) (N := some 106) (v := ?_) (a' := ?_) #[true, false, false, false, false, false, false, false, false, false, false] rfl rfl (by kernel_rfl) (fun _ _ _ h => h) (Or.inl ⟨by rfl, ?_⟩) hHeld ?_ ?_
                          rotate_left
                          · intro w' hS'
                            have c0 : w'.cell? ⟨p, 0, none⟩ = some (.int .i64 6) := (blk_cell hS' 0).trans rfl; have c1 : w'.cell? ⟨p, 1, none⟩ = some (.int .i64 r) := (blk_cell hS' 1).trans rfl; have c2 : w'.cell? ⟨p, 2, none⟩ = some (.int .i64 0) := (blk_cell hS' 2).trans rfl; have c3 : w'.cell? ⟨p, 3, none⟩ = some (.slice A6 m6 c6) := (blk_cell hS' 3).trans rfl
                            go_simp
                            with_reducible rfl
                          rotate_left
                          · simp only [Act.put, List.setIfInBounds_toArray, List.set_cons_zero, List.set_cons_succ, i64_w, i32_w]
                            rfl
                          refine take_ (i := 1) (N := some 107) (v := ?_) (a' := ?_) #[true, true, false, false, false, false, false, false, false, false, false] rfl rfl (by kernel_rfl) (fun _ _ _ h => h) (Or.inl ⟨by rfl, ?_⟩) hHeld ?_ ?_
                          rotate_left
                          · intro w' hS'
                            have c0 : w'.cell? ⟨p, 0, none⟩ = some (.int .i64 6) := (blk_cell hS' 0).trans rfl; have c1 : w'.cell? ⟨p, 1, none⟩ = some (.int .i64 r) := (blk_cell hS' 1).trans rfl; have c2 : w'.cell? ⟨p, 2, none⟩ = some (.int .i64 0) := (blk_cell hS' 2).trans rfl; have c3 : w'.cell? ⟨p, 3, none⟩ = some (.slice A6 m6 c6) := (blk_cell hS' 3).trans rfl
                            go_simp
                            with_reducible rfl
                          rotate_left
                          · simp only [Act.put, List.setIfInBounds_toArray, List.set_cons_zero, List.set_cons_succ, i64_w, i32_w]
                            rfl
                          refine one_ (i := 2) (N := some 108) #[true, true, true, false, false, false, false, false, false, false, false] rfl rfl (by kernel_rfl) (by decide) (fun K hK => ?_)
                          refine goes_ Tryz.func11 (by kernel_rfl) rfl #[.agg #[.int .i64 6, .int .i64 r, .int .i64 0, .slice A6 m6 c6]] (by rfl) rfl rfl (by simp [Act.eval]) ?_
                          refine (show Calls Tryz.prog 11 #[.agg #[.int .i64 6, .int .i64 r, .int .i64 0, .slice A6 m6 c6]] _ (fun x w' => x = .returned (.bool false) ∧ Below _ _ w') from HMB.out ▸ may_ref ⟨6, r, 0, os⟩ (.slice A6 m6 c6) _ HT0.out.V.byt).mono ?_
                          rintro e y2 ⟨rfl, hb⟩
                          refine ⟨_, rfl, ?_⟩
                          have HTa := Aside0.mk (HT0.out.below hb)
                          refine hK.out _ _ HTa.out.P (fun hHeld => ?_)
                          clear hK K hb
                          refine norm_ (a' := ?_) ?_ ?_
                          rotate_left
                          · show Act.put _ (some 108) _ = _
                            simp only [Act.put, List.setIfInBounds_toArray, List.set_cons_zero, List.set_cons_succ, i64_w, i32_w]
                            rfl
                          refine pure_ (i := 3) (N := some 109) (v := ?_) (a' := ?_) #[true, true, true, true, false, false, false, false, false, false, false] rfl rfl (by kernel_rfl) (fun _ _ _ h => h) (Or.inl ⟨by rfl, ?_⟩) ?_ ?_
                          rotate_left
                          · intro w'
                            go_simp
                            with_reducible rfl
                          rotate_left
                          · simp only [Act.put, List.setIfInBounds_toArray, List.set_cons_zero, List.set_cons_succ, i64_w, i32_w]
                            rfl
                          refine pure_ (i := 6) (N := some 112) (v := undef) (a' := ?_) #[true, true, true, true, false, false, true, false, false, false, false] rfl rfl (by kernel_rfl) (fun _ _ _ h => h) (Or.inr ⟨by rfl, rfl⟩) ?_ ?_
                          rotate_left
                          · simp only [Act.put, List.setIfInBounds_toArray, List.set_cons_zero, List.set_cons_succ, i64_w, i32_w]
                            rfl
                          refine pure_ (i := 4) (N := some 110) (v := undef) (a' := ?_) #[true, true, true, true, true, false, true, false, false, false, false] rfl rfl (by kernel_rfl) (fun _ _ _ h => h) (Or.inr ⟨by rfl, rfl⟩) ?_ ?_
                          rotate_left
                          · simp only [Act.put, List.setIfInBounds_toArray, List.set_cons_zero, List.set_cons_succ, i64_w, i32_w]
                            rfl
                          refine pure_ (i := 5) (N := some 111) (v := undef) (a' := ?_) #[true, true, true, true, true, true, true, false, false, false, false] rfl rfl (by kernel_rfl) (fun _ _ _ h => h) (Or.inr ⟨by rfl, rfl⟩) ?_ ?_
                          rotate_left
                          · simp only [Act.put, List.setIfInBounds_toArray, List.set_cons_zero, List.set_cons_succ, i64_w, i32_w]
                            rfl
                          refine pure_ (i := 7) (N := some 113) (v := undef) (a' := ?_) #[true, true, true, true, true, true, true, true, false, false, false] rfl rfl (by kernel_rfl) (fun _ _ _ h => h) (Or.inr ⟨by rfl, rfl⟩) ?_ ?_
                          rotate_left
                          · simp only [Act.put, List.setIfInBounds_toArray, List.set_cons_zero, List.set_cons_succ, i64_w, i32_w]
                            rfl
                          refine pure_ (i := 8) (N := some 114) (v := ?_) (a' := ?_) #[true, true, true, true, true, true, true, true, true, false, false] rfl rfl (by kernel_rfl) (fun _ _ _ h => h) (Or.inl ⟨by rfl, ?_⟩) ?_ ?_
                          rotate_left
                          · intro w'
                            go_simp
                            with_reducible rfl
                          rotate_left
                          · simp only [Act.put, List.setIfInBounds_toArray, List.set_cons_zero, List.set_cons_succ, i64_w, i32_w]
                            rfl
                          refine one_ (i := 9) (N := none) #[true, true, true, true, true, true, true, true, true, true, false] rfl rfl (by kernel_rfl) (by decide) (fun K hK => ?_)
                          have d0 := HTa.out.d0
                          have d1 := HTa.out.d1
                          have d2 := HTa.out.d2
                          have d3 := HTa.out.d3
                          have r0 := HTa.out.fg 0
                          have r1 := HTa.out.fg 1
                          have r2 := HTa.out.fg 2
                          have r3 := HTa.out.fg 3
                          refine skip_ (w1 := ?_) (by rfl) rfl ?_ ?_
                          rotate_left
                          · go_simp
                            rfl
                          refine hK.out _ _ (blk_far (blk_far (blk_far (blk_far HTa.out.P (p := ⟨g, 0, none⟩) (Ne.symm HTa.out.far) _) (p := ⟨g, 1, none⟩) (Ne.symm HTa.out.far) _) (p := ⟨g, 2, none⟩) (Ne.symm HTa.out.far) _) (p := ⟨g, 3, none⟩) (Ne.symm HTa.out.far) _) (fun hHeld => ?_)
                          clear hK K d0 d1 d2 d3 r0 r1 r2 r3
                          refine pure_ (i := 10) (N := some 3) (v := ?_) (a' := ?_) #[true, true, true, true, true, true, true, true, true, true, true] rfl rfl (by kernel_rfl) (fun _ _ _ h => h) (Or.inl ⟨by rfl, ?_⟩) ?_ ?_
                          rotate_left
                          · intro w'
                            go_simp
                            with_reducible rfl
                          rotate_left
                          · simp only [Act.put, List.setIfInBounds_toArray, List.set_cons_zero, List.set_cons_succ, i64_w, i32_w]
                            rfl
                          refine done_ (by kernel_rfl) ?_
                          go_wp2
                          try simp only [Exit.inBlock, Exit.then]
                          exact bodyPost_ret (results_ct9 rfl _ _ g 35 _ (0, 0) _ rfl HTa.out.full Tryz.underlying35 rfl (by kernel_rfl)) rfl ⟨HTa.out.ret.1, _, _, _, _, _, _, _, rfl, .inr ⟨rfl, fun en h1 h2 => by rw [← HL.out] at h2; exact HMY.out ((by have h3 := HW.out en h1 h2; have h5 := h3.1.trans HKZ.out; have h4 := (h3.2.2.2 (by omega)).2.2 h5; have h6 := quote_inj (h4.2.trans (HQA.out.symm.trans HQO.out.symm)); rw [h6] at h4; exact h4.1) ▸ h1)⟩⟩
                      · have HQO := Aside0.mk hq
                        clear hq
                        have d0 := HS7.out.d0
                        have d1 := HS7.out.d1
                        have d2 := HS7.out.d2
                        have d3 := HS7.out.d3
                        have r0 := HS7.out.fg 0
                        have r1 := HS7.out.fg 1
                        have r2 := HS7.out.fg 2
                        have r3 := HS7.out.fg 3
                        have gp := HS7.out.far
                        have pg := Ne.symm HS7.out.far
                        go_wp2
                        try simp only [Exit.inBlock, Exit.then]
                        exact bodyPost_ret (results_ct9 rfl _ _ g 35 _ (0, 0) _ rfl (put4 HS7.out.Q _ _ _ _) Tryz.underlying35 rfl (by kernel_rfl)) rfl ⟨put4_below HGE.out HS7.out.B _ _ _ _, _, _, _, _, _, _, _, rfl, .inr ⟨rfl, fun en h1 h2 => by rw [← HL.out] at h2; have h3 := HW.out en h1 h2; have h5 := h3.1.trans HKZ.out; have h4 := (h3.2.2.2 (by omega)).2.2 h5; exact HQO.out en.b (h4.2.trans HQA.out.symm)⟩⟩
                    have n6 : (kz == 6) = false := beq_eq_false_iff_ne.mpr k6
                    have HK6 := Aside0.mk k6
                    clear k1 k6
                    have c0 := HS9.out.c0
                    have c1 := HS9.out.c1
                    have c2 := HS9.out.c2
                    have c3 := HS9.out.c3
                    have q1 := HS9.out.fp 1
                    have q2 := HS9.out.fp 2
                    have q3 := HS9.out.fp 3
                    go_upto_region 30 with (fail)
                    clear c0 c1 c2 c3 q1 q2 q3 n1 n1b n6 hm1 hm2 hr1
                    obtain ⟨W5, hW5⟩ : ∃ W5, W5 = w9.setCell ⟨p, 1, none⟩ (.int .i64 r) := ⟨_, rfl⟩
                    have HT := Aside0.mk (show St w W5 g p kz r 0 (.slice none 0 0) [] w.heap.size from by rw [hW5]; exact HS9.out.set1 r)
                    rw [← hW5]
                    clear hW5
                    by_cases hm : MayE ⟨kz, r, 0, []⟩
                    · have HMY := Aside0.mk hm
                      have HMB := Aside0.mk ((mayB_iff ⟨kz, r, 0, []⟩).2 hm)
                      clear hm
                      obtain ⟨DL, hDL⟩ : ∃ DL, DL = ba (lineL ⟨kz, r, 0, []⟩) := ⟨_, rfl⟩
                      have HDL := Aside0.mk hDL.symm
                      clear hDL
                      refine start_ (n := 11) (S := fun w' => w'.heap[p]? = some (.cells #[.int .i64 kz, .int .i64 r, .int .i64 0, .slice none 0 0] 35 (0, 0))) (ds := []) #[false, false, false, false, false, false, false, false, false, false, false] (by kernel_rfl) rfl rfl HT.out.P (fun hHeld => ?_)
                      have HT0 := Aside0.mk (HT.out.below (show Below W5.heap.size W5 W5.drew from below_drew1 (Below.refl _ _)))
                      refine take_ (i := 0) (N := some 106) (v := ?_) (a' := ?_) #[true, false, false, false, false, false, false, false, false, false, false] rfl rfl (by kernel_rfl) (fun _ _ _ h => h) (Or.inl ⟨by rfl, ?_⟩) hHeld ?_ ?_
                      rotate_left
                      · intro w' hS'
                        have c0 : w'.cell? ⟨p, 0, none⟩ = some (.int .i64 kz) := (blk_cell hS' 0).trans rfl; have c1 : w'.cell? ⟨p, 1, none⟩ = some (.int .i64 r) := (blk_cell hS' 1).trans rfl; have c2 : w'.cell? ⟨p, 2, none⟩ = some (.int .i64 0) := (blk_cell hS' 2).trans rfl; have c3 : w'.cell? ⟨p, 3, none⟩ = some (.slice none 0 0) := (blk_cell hS' 3).trans rfl
                        go_simp
                        with_reducible rfl
                      rotate_left
                      · simp only [Act.put, List.setIfInBounds_toArray, List.set_cons_zero, List.set_cons_succ, i64_w, i32_w]
                        rfl
                      refine take_ (i := 1) (N := some 107) (v := ?_) (a' := ?_) #[true, true, false, false, false, false, false, false, false, false, false] rfl rfl (by kernel_rfl) (fun _ _ _ h => h) (Or.inl ⟨by rfl, ?_⟩) hHeld ?_ ?_
                      rotate_left
                      · intro w' hS'
                        have c0 : w'.cell? ⟨p, 0, none⟩ = some (.int .i64 kz) := (blk_cell hS' 0).trans rfl; have c1 : w'.cell? ⟨p, 1, none⟩ = some (.int .i64 r) := (blk_cell hS' 1).trans rfl; have c2 : w'.cell? ⟨p, 2, none⟩ = some (.int .i64 0) := (blk_cell hS' 2).trans rfl; have c3 : w'.cell? ⟨p, 3, none⟩ = some (.slice none 0 0) := (blk_cell hS' 3).trans rfl
                        go_simp
                        with_reducible rfl
                      rotate_left
                      · simp only [Act.put, List.setIfInBounds_toArray, List.set_cons_zero, List.set_cons_succ, i64_w, i32_w]
                        rfl
                      refine one_ (i := 2) (N := some 108) #[true, true, true, false, false, false, false, false, false, false, false] rfl rfl (by kernel_rfl) (by decide) (fun K hK => ?_)
                      refine goes_ Tryz.func11 (by kernel_rfl) rfl #[.agg #[.int .i64 kz, .int .i64 r, .int .i64 0, .slice none 0 0]] (by rfl) rfl rfl (by simp [Act.eval]) ?_
                      refine (show Calls Tryz.prog 11 #[.agg #[.int .i64 kz, .int .i64 r, .int .i64 0, .slice none 0 0]] _ (fun x w' => x = .returned (.bool true) ∧ Below _ _ w') from HMB.out ▸ may_ref ⟨kz, r, 0, []⟩ (.slice none 0 0) _ HT0.out.V.byt).mono ?_
                      rintro e y2 ⟨rfl, hb⟩
                      refine ⟨_, rfl, ?_⟩
                      have HTa := Aside0.mk (HT0.out.below hb)
                      refine hK.out _ _ HTa.out.P (fun hHeld => ?_)
                      clear hK K hb
                      refine norm_ (a' := ?_) ?_ ?_
                      rotate_left
                      · show Act.put _ (some 108) _ = _
                        simp only [Act.put, List.setIfInBounds_toArray, List.set_cons_zero, List.set_cons_succ, i64_w, i32_w]
                        rfl
                      refine pure_ (i := 3) (N := some 109) (v := ?_) (a' := ?_) #[true, true, true, true, false, false, false, false, false, false, false] rfl rfl (by kernel_rfl) (fun _ _ _ h => h) (Or.inl ⟨by rfl, ?_⟩) ?_ ?_
                      rotate_left
                      · intro w'
                        go_simp
                        with_reducible rfl
                      rotate_left
                      · simp only [Act.put, List.setIfInBounds_toArray, List.set_cons_zero, List.set_cons_succ, i64_w, i32_w]
                        rfl
                      refine pure_ (i := 6) (N := some 112) (v := ?_) (a' := ?_) #[true, true, true, true, false, false, true, false, false, false, false] rfl rfl (by kernel_rfl) (fun _ _ _ h => h) (Or.inl ⟨by rfl, ?_⟩) ?_ ?_
                      rotate_left
                      · intro w'
                        go_simp
                        with_reducible rfl
                      rotate_left
                      · simp only [Act.put, List.setIfInBounds_toArray, List.set_cons_zero, List.set_cons_succ, i64_w, i32_w]
                        rfl
                      refine take_ (i := 4) (N := some 110) (v := ?_) (a' := ?_) #[true, true, true, true, true, false, true, false, false, false, false] rfl rfl (by kernel_rfl) (fun _ _ _ h => h) (Or.inl ⟨by rfl, ?_⟩) hHeld ?_ ?_
                      rotate_left
                      · intro w' hS'
                        have c0 : w'.cell? ⟨p, 0, none⟩ = some (.int .i64 kz) := (blk_cell hS' 0).trans rfl; have c1 : w'.cell? ⟨p, 1, none⟩ = some (.int .i64 r) := (blk_cell hS' 1).trans rfl; have c2 : w'.cell? ⟨p, 2, none⟩ = some (.int .i64 0) := (blk_cell hS' 2).trans rfl; have c3 : w'.cell? ⟨p, 3, none⟩ = some (.slice none 0 0) := (blk_cell hS' 3).trans rfl
                        go_simp
                        with_reducible rfl
                      rotate_left
                      · simp only [Act.put, List.setIfInBounds_toArray, List.set_cons_zero, List.set_cons_succ, i64_w, i32_w]
                        rfl
                      refine one_ (i := 5) (N := some 111) #[true, true, true, true, true, true, true, false, false, false, false] rfl rfl (by kernel_rfl) (by decide) (fun K hK => ?_)
                      refine goes_ Tryz.func18 (by kernel_rfl) rfl #[.agg #[.int .i64 kz, .int .i64 r, .int .i64 0, .slice none 0 0]] (by rfl) rfl rfl (by simp [Act.eval]) ?_
                      refine (show Calls Tryz.prog 18 #[.agg #[.int .i64 kz, .int .i64 r, .int .i64 0, .slice none 0 0]] _ (fun x w' => x = .returned (.string DL) ∧ Below _ _ w') from HDL.out ▸ line_ref kz r 0 [] (.slice none 0 0) _ HTa.out.V.byt HMY.out).mono ?_
                      rintro e y5 ⟨rfl, hb⟩
                      refine ⟨_, rfl, ?_⟩
                      have HTb := Aside0.mk (HTa.out.below hb)
                      refine hK.out _ _ HTb.out.P (fun hHeld => ?_)
                      clear hK K hb
                      refine norm_ (a' := ?_) ?_ ?_
                      rotate_left
                      · show Act.put _ (some 111) _ = _
                        simp only [Act.put, List.setIfInBounds_toArray, List.set_cons_zero, List.set_cons_succ, i64_w, i32_w]
                        rfl
                      refine pure_ (i := 7) (N := some 113) (v := ?_) (a' := ?_) #[true, true, true, true, true, true, true, true, false, false, false] rfl rfl (by kernel_rfl) (fun _ _ _ h => h) (Or.inl ⟨by rfl, ?_⟩) ?_ ?_
                      rotate_left
                      · intro w'
                        go_simp
                        with_reducible rfl
                      rotate_left
                      · simp only [Act.put, List.setIfInBounds_toArray, List.set_cons_zero, List.set_cons_succ, i64_w, i32_w]
                        rfl
                      refine pure_ (i := 8) (N := some 114) (v := ?_) (a' := ?_) #[true, true, true, true, true, true, true, true, true, false, false] rfl rfl (by kernel_rfl) (fun _ _ _ h => h) (Or.inl ⟨by rfl, ?_⟩) ?_ ?_
                      rotate_left
                      · intro w'
                        go_simp
                        with_reducible rfl
                      rotate_left
                      · simp only [Act.put, List.setIfInBounds_toArray, List.set_cons_zero, List.set_cons_succ, i64_w, i32_w]
                        rfl
                      refine one_ (i := 9) (N := none) #[true, true, true, true, true, true, true, true, true, true, false] rfl rfl (by kernel_rfl) (by decide) (fun K hK => ?_)
                      have d0 := HTb.out.d0
                      have d1 := HTb.out.d1
                      have d2 := HTb.out.d2
                      have d3 := HTb.out.d3
                      have r0 := HTb.out.fg 0
                      have r1 := HTb.out.fg 1
                      have r2 := HTb.out.fg 2
                      have r3 := HTb.out.fg 3
                      refine skip_ (w1 := ?_) (by rfl) rfl ?_ ?_
                      rotate_left
                      · go_simp
                        rfl
                      refine hK.out _ _ (blk_far (blk_far (blk_far (blk_far HTb.out.P (p := ⟨g, 0, none⟩) (Ne.symm HTb.out.far) _) (p := ⟨g, 1, none⟩) (Ne.symm HTb.out.far) _) (p := ⟨g, 2, none⟩) (Ne.symm HTb.out.far) _) (p := ⟨g, 3, none⟩) (Ne.symm HTb.out.far) _) (fun hHeld => ?_)
                      clear hK K d0 d1 d2 d3 r0 r1 r2 r3
                      refine pure_ (i := 10) (N := some 3) (v := ?_) (a' := ?_) #[true, true, true, true, true, true, true, true, true, true, true] rfl rfl (by kernel_rfl) (fun _ _ _ h => h) (Or.inl ⟨by rfl, ?_⟩) ?_ ?_
                      rotate_left
                      · intro w'
                        go_simp
                        with_reducible rfl
                      rotate_left
                      · simp only [Act.put, List.setIfInBounds_toArray, List.set_cons_zero, List.set_cons_succ, i64_w, i32_w]
                        rfl
                      refine done_ (by kernel_rfl) ?_
                      go_wp2
                      try simp only [Exit.inBlock, Exit.then]
                      exact bodyPost_ret (results_ct9 rfl _ _ g 35 _ (0, 0) _ rfl HTb.out.full Tryz.underlying35 rfl (by kernel_rfl)) rfl ⟨HTb.out.ret.1, _, _, _, _, _, _, _, rfl, (is_cases HDL.out.symm s).elim (fun h => .inl ⟨h.1, [], HTb.out.ret.2, HMY.out, h.2⟩) (fun h => .inr ⟨h.1, fun en h1 h2 => h.2 ((show en = ⟨kz, r, 0, []⟩ from by rw [← HL.out] at h2; exact (by have h3 := HW.out en h1 h2; have h5 := h3.1.trans HKZ.out; have h4 := (h3.2.2.2 (by rw [h5]; exact HK1.out)).2.1 (by rw [h5]; exact HK6.out); rw [h5] at h4; exact h4)) ▸ h2)⟩)⟩
                    · have HMY := Aside0.mk hm
                      have HMB := Aside0.mk (show mayB ⟨kz, r, 0, []⟩ = false from by rw [Bool.eq_false_iff]; exact fun h => hm ((mayB_iff _).1 h))
                      clear hm
                      refine start_ (n := 11) (S := fun w' => w'.heap[p]? = some (.cells #[.int .i64 kz, .int .i64 r, .int .i64 0, .slice none 0 0] 35 (0, 0))) (ds := []) #[false, false, false, false, false, false, false, false, false, false, false] (by kernel_rfl) rfl rfl HT.out.P (fun hHeld => ?_)
                      have HT0 := Aside0.mk (HT.out.below (show Below W5.heap.size W5 W5.drew from below_drew1 (Below.refl _ _)))
                      refine take_ (i := 0) (N := some 106) (v := ?_) (a' := ?_) #[true, false, false, false, false, false, false, false, false, false, false] rfl rfl (by kernel_rfl) (fun _ _ _ h => h) (Or.inl ⟨by rfl, ?_⟩) hHeld ?_ ?_
                      rotate_left
                      · intro w' hS'
                        have c0 : w'.cell? ⟨p, 0, none⟩ = some (.int .i64 kz) := (blk_cell hS' 0).trans rfl; have c1 : w'.cell? ⟨p, 1, none⟩ = some (.int .i64 r) := (blk_cell hS' 1).trans rfl; have c2 : w'.cell? ⟨p, 2, none⟩ = some (.int .i64 0) := (blk_cell hS' 2).trans rfl; have c3 : w'.cell? ⟨p, 3, none⟩ = some (.slice none 0 0) := (blk_cell hS' 3).trans rfl
                        go_simp
                        with_reducible rfl
                      rotate_left
                      · simp only [Act.put, List.setIfInBounds_toArray, List.set_cons_zero, List.set_cons_succ, i64_w, i32_w]
                        rfl
                      refine take_ (i := 1) (N := some 107) (v := ?_) (a' := ?_) #[true, true, false, false, false, false, false, false, false, false, false] rfl rfl (by kernel_rfl) (fun _ _ _ h => h) (Or.inl ⟨by rfl, ?_⟩) hHeld ?_ ?_
                      rotate_left
                      · intro w' hS'
                        have c0 : w'.cell? ⟨p, 0, none⟩ = some (.int .i64 kz) := (blk_cell hS' 0).trans rfl; have c1 : w'.cell? ⟨p, 1, none⟩ = some (.int .i64 r) := (blk_cell hS' 1).trans rfl; have c2 : w'.cell? ⟨p, 2, none⟩ = some (.int .i64 0) := (blk_cell hS' 2).trans rfl; have c3 : w'.cell? ⟨p, 3, none⟩ = some (.slice none 0 0) := (blk_cell hS' 3).trans rfl
                        go_simp
                        with_reducible rfl
                      rotate_left
                      · simp only [Act.put, List.setIfInBounds_toArray, List.set_cons_zero, List.set_cons_succ, i64_w, i32_w]
                        rfl
                      refine one_ (i := 2) (N := some 108) #[true, true, true, false, false, false, false, false, false, false, false] rfl rfl (by kernel_rfl) (by decide) (fun K hK => ?_)
                      refine goes_ Tryz.func11 (by kernel_rfl) rfl #[.agg #[.int .i64 kz, .int .i64 r, .int .i64 0, .slice none 0 0]] (by rfl) rfl rfl (by simp [Act.eval]) ?_
                      refine (show Calls Tryz.prog 11 #[.agg #[.int .i64 kz, .int .i64 r, .int .i64 0, .slice none 0 0]] _ (fun x w' => x = .returned (.bool false) ∧ Below _ _ w') from HMB.out ▸ may_ref ⟨kz, r, 0, []⟩ (.slice none 0 0) _ HT0.out.V.byt).mono ?_
                      rintro e y2 ⟨rfl, hb⟩
                      refine ⟨_, rfl, ?_⟩
                      have HTa := Aside0.mk (HT0.out.below hb)
                      refine hK.out _ _ HTa.out.P (fun hHeld => ?_)
                      clear hK K hb
                      refine norm_ (a' := ?_) ?_ ?_
                      rotate_left
                      · show Act.put _ (some 108) _ = _
                        simp only [Act.put, List.setIfInBounds_toArray, List.set_cons_zero, List.set_cons_succ, i64_w, i32_w]
                        rfl
                      refine pure_ (i := 3) (N := some 109) (v := ?_) (a' := ?_) #[true, true, true, true, false, false, false, false, false, false, false] rfl rfl (by kernel_rfl) (fun _ _ _ h => h) (Or.inl ⟨by rfl, ?_⟩) ?_ ?_
                      rotate_left
                      · intro w'
                        go_simp
                        with_reducible rfl
                      rotate_left
                      · simp only [Act.put, List.setIfInBounds_toArray, List.set_cons_zero, List.set_cons_succ, i64_w, i32_w]
                        rfl
                      refine pure_ (i := 6) (N := some 112) (v := undef) (a' := ?_) #[true, true, true, true, false, false, true, false, false, false, false] rfl rfl (by kernel_rfl) (fun _ _ _ h => h) (Or.inr ⟨by rfl, rfl⟩) ?_ ?_
                      rotate_left
                      · simp only [Act.put, List.setIfInBounds_toArray, List.set_cons_zero, List.set_cons_succ, i64_w, i32_w]
                        rfl
                      refine pure_ (i := 4) (N := some 110) (v := undef) (a' := ?_) #[true, true, true, true, true, false, true, false, false, false, false] rfl rfl (by kernel_rfl) (fun _ _ _ h => h) (Or.inr ⟨by rfl, rfl⟩) ?_ ?_
                      rotate_left
                      · simp only [Act.put, List.setIfInBounds_toArray, List.set_cons_zero, List.set_cons_succ, i64_w, i32_w]
                        rfl
                      refine pure_ (i := 5) (N := some 111) (v := undef) (a' := ?_) #[true, true, true, true, true, true, true, false, false, false, false] rfl rfl (by kernel_rfl) (fun _ _ _ h => h) (Or.inr ⟨by rfl, rfl⟩) ?_ ?_
                      rotate_left
                      · simp only [Act.put, List.setIfInBounds_toArray, List.set_cons_zero, List.set_cons_succ, i64_w, i32_w]
                        rfl
                      refine pure_ (i := 7) (N := some 113) (v := undef) (a' := ?_) #[true, true, true, true, true, true, true, true, false, false, false] rfl rfl (by kernel_rfl) (fun _ _ _ h => h) (Or.inr ⟨by rfl, rfl⟩) ?_ ?_
                      rotate_left
                      · simp only [Act.put, List.setIfInBounds_toArray, List.set_cons_zero, List.set_cons_succ, i64_w, i32_w]
                        rfl
                      refine pure_ (i := 8) (N := some 114) (v := ?_) (a' := ?_) #[true, true, true, true, true, true, true, true, true, false, false] rfl rfl (by kernel_rfl) (fun _ _ _ h => h) (Or.inl ⟨by rfl, ?_⟩) ?_ ?_
                      rotate_left
                      · intro w'
                        go_simp
                        with_reducible rfl
                      rotate_left
                      · simp only [Act.put, List.setIfInBounds_toArray, List.set_cons_zero, List.set_cons_succ, i64_w, i32_w]
                        rfl
                      refine one_ (i := 9) (N := none) #[true, true, true, true, true, true, true, true, true, true, false] rfl rfl (by kernel_rfl) (by decide) (fun K hK => ?_)
                      have d0 := HTa.out.d0
                      have d1 := HTa.out.d1
                      have d2 := HTa.out.d2
                      have d3 := HTa.out.d3
                      have r0 := HTa.out.fg 0
                      have r1 := HTa.out.fg 1
                      have r2 := HTa.out.fg 2
                      have r3 := HTa.out.fg 3
                      refine skip_ (w1 := ?_) (by rfl) rfl ?_ ?_
                      rotate_left
                      · go_simp
                        rfl
                      refine hK.out _ _ (blk_far (blk_far (blk_far (blk_far HTa.out.P (p := ⟨g, 0, none⟩) (Ne.symm HTa.out.far) _) (p := ⟨g, 1, none⟩) (Ne.symm HTa.out.far) _) (p := ⟨g, 2, none⟩) (Ne.symm HTa.out.far) _) (p := ⟨g, 3, none⟩) (Ne.symm HTa.out.far) _) (fun hHeld => ?_)
                      clear hK K d0 d1 d2 d3 r0 r1 r2 r3
                      refine pure_ (i := 10) (N := some 3) (v := ?_) (a' := ?_) #[true, true, true, true, true, true, true, true, true, true, true] rfl rfl (by kernel_rfl) (fun _ _ _ h => h) (Or.inl ⟨by rfl, ?_⟩) ?_ ?_
                      rotate_left
                      · intro w'
                        go_simp
                        with_reducible rfl
                      rotate_left
                      · simp only [Act.put, List.setIfInBounds_toArray, List.set_cons_zero, List.set_cons_succ, i64_w, i32_w]
                        rfl
                      refine done_ (by kernel_rfl) ?_
                      go_wp2
                      try simp only [Exit.inBlock, Exit.then]
                      exact bodyPost_ret (results_ct9 rfl _ _ g 35 _ (0, 0) _ rfl HTa.out.full Tryz.underlying35 rfl (by kernel_rfl)) rfl ⟨HTa.out.ret.1, _, _, _, _, _, _, _, rfl, .inr ⟨rfl, fun en h1 h2 => by rw [← HL.out] at h2; exact HMY.out ((by have h3 := HW.out en h1 h2; have h5 := h3.1.trans HKZ.out; have h4 := (h3.2.2.2 (by rw [h5]; exact HK1.out)).2.1 (by rw [h5]; exact HK6.out); rw [h5] at h4; exact h4) ▸ h1)⟩⟩
            · have hn2 : (D.toList == X.toList) = false := beq_eq_false_iff_ne.mpr (fun e => hDX (ByteArray.ext (Array.toList_inj.1 (by rw [Lib.toList_data, Lib.toList_data] at e; exact e))))
              refine pure_ (i := 5) (N := some 42) (v := ?_) (a' := ?_) #[true, true, true, true, true, true] rfl rfl (by kernel_rfl) (fun _ _ _ h => h) (Or.inl ⟨by rfl, ?_⟩) ?_ ?_
              rotate_left
              · intro w'
                go_simp
                with_reducible rfl
              rotate_left
              · simp only [Act.put, List.setIfInBounds_toArray, List.set_cons_zero, List.set_cons_succ, i64_w, i32_w]
                rfl
              refine done_ (by kernel_rfl) ?_
              have HNK := Aside0.mk (show KD ≠ (k : Int) from fun e => hDX (ByteArray.ext (Array.toList_inj.1 (by rw [HD.out, HX.out]; exact (kindOf_eq (HK.out ▸ e) (by have := HI.out; omega)).symm))))
              go_wp2
              go_roundg (gk - 1)
              case measure => have := HI.out; have := HK7.out; omega
              case rel => exact ⟨k + 1, by first | rfl | (rw [hwk]), ⟨by have := HI.out; have := HK7.out; omega, by omega, by have := HK7.out; omega, by have := HI.out; have := HNK.out; omega⟩, ⟨HB.out.trans (hSa.out.mono (show g2 ≤ wr.heap.size from by rw [HG2.out]; exact HB.out.size))⟩⟩
      · have x32 : ((c.toNat : Int) == 32) = false := beq_eq_false_iff_ne.mpr (fun e => h32 (UInt8.toNat_inj.1 (by show c.toNat = 32; omega)))
        have HNX := Aside0.mk (show ∀ x ∈ l.take (i + 1), x ≠ 32 from fun x hx => by
          rw [List.take_add_one, hc] at hx
          rcases List.mem_append.1 hx with hx | hx
          · exact HI.out.2.2 x hx
          · simp at hx; rw [hx]; exact h32)
        clear hi hc h32
        go_wp2
        go_roundg (gk - 1)
        case measure => have := HI.out; have := HI2.out; omega
        case rel => exact ⟨i + 1, by first | rfl | (rw [hwi]), ⟨by have := HI.out; have := HI2.out; omega, HI2.out, HNX.out⟩, rfl⟩
    · have hc0 : ((i : Int) < (s.size : Int)) = False := eq_false (by omega)
      have hc1 : decide ((i : Int) < (s.size : Int)) = false := decide_eq_false (by omega)
      have hge : decide ((i : Int) ≥ (s.size : Int)) = true := decide_eq_true (by omega)
      have hge2 : ((s.size : Int) ≤ (i : Int)) = True := eq_true (by omega)
      have HNS := Aside0.mk (show ∀ x ∈ l, x ≠ 32 from by
        have := HI.out.2.2
        rwa [List.take_of_length_le (by have := HSZ.out; omega)] at this)
      have d0 := (blk_cell HQ1.out 0).trans (rfl : _ = some (Value.int .i64 0))
      have d1 := (blk_cell HQ1.out 1).trans (rfl : _ = some (Value.int .i64 0))
      have d2 := (blk_cell HQ1.out 2).trans (rfl : _ = some (Value.int .i64 0))
      have d3 := (blk_cell HQ1.out 3).trans (rfl : _ = some (Value.slice none 0 0))
      have r0 := blk_frozen HQ1.out 0
      have r1 := blk_frozen HQ1.out 1
      have r2 := blk_frozen HQ1.out 2
      have r3 := blk_frozen HQ1.out 3
      clear hi
      go_wp2
      try simp only [Exit.inBlock, Exit.then]
      exact bodyPost_ret (results_ct9 rfl _ _ g 35 _ (0, 0) _ rfl (put4 HQ1.out _ _ _ _) Tryz.underlying35 rfl (by kernel_rfl)) rfl ⟨put4_below HGE.out HB1.out _ _ _ _, _, _, _, _, _, _, _, rfl, .inr ⟨rfl, fun en h1 h2 => whyS HNS.out en h1 (by rw [HL.out]; exact h2)⟩⟩
end Go.Proofs.YtjapnbghnnbamaaGreatDoor.On
