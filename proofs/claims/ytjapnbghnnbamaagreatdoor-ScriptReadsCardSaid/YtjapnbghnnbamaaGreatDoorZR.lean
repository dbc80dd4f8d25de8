/- ref.Of: the script of a text. -/
import Derived.Test.YtjapnbghnnbamaaGreatDoorOn
namespace Go.Proofs.YtjapnbghnnbamaaGreatDoor.Or
open Go.RowKit Go.Proofs.YtjapnbghnnbamaaGreatDoorW.PrintWords Go.Proofs.YtjapnbghnnbamaaGreatDoorW.PrintLast Go.Proofs.YtjapnbghnnbamaaGreatDoor.Ext Go.Proofs.YtjapnbghnnbamaaGreatDoor.Q Go.Proofs.YtjapnbghnnbamaaGreatDoor.S Go.Proofs.YtjapnbghnnbamaaGreatDoor.K Go.Proofs.YtjapnbghnnbamaaGreatDoor.L Go.Proofs.YtjapnbghnnbamaaGreatDoor.T Go.Proofs.YtjapnbghnnbamaaGreatDoor.W Go.Proofs.YtjapnbghnnbamaaGreatDoor.Rq Go.Proofs.YtjapnbghnnbamaaGreatDoor.Of Go.Proofs.YtjapnbghnnbamaaGreatDoor.ZT Go.Proofs.YtjapnbghnnbamaaGreatDoor.On
set_option linter.unusedVariables false
set_option linter.unusedSimpArgs false
theorem mid_str (D : ByteArray) (m n : Nat) (h : m ≤ n) (h2 : n ≤ D.size) : ∃ D2 : ByteArray, D2.data.toList = (D.data.toList.drop m).take (n - m) ∧ ∀ W : World, (Instr.slice 9 (.string D) (some (.int .i64 (m : Int))) (some (.int .i64 (n : Int))) none).run Tryz.prog W = .ok (.string D2) W := by
  refine ⟨D.extract m n, ?_, fun W => ?_⟩
  · rw [Lib.extract_data]
  · rw [run_slice_string_if W 9 _ .i64 .i64 _ _ Tryz.underlying9, if_pos ⟨by omega, by omega⟩, if_pos ⟨by omega, by omega⟩]
    rfl
theorem pcs_app (es : List En) (h : ∀ e ∈ es, MayE e) (r : List UInt8) : pcs 10 (textL es ++ r) = es.map lineL ++ pcs 10 r := by
  induction es with
  | nil => rfl
  | cons e es ih =>
    have e1 : textL (e :: es) ++ r = lineL e ++ 10 :: (textL es ++ r) := by unfold textL; rw [List.flatMap_cons]; simp
    rw [e1, pcs_at 10 _ _ (line_bytes (h e (by simp))), ih (fun x hx => h x (by simp [hx]))]
    rfl
theorem len_text : ∀ es : List En, es.length ≤ (textL es).length
  | [] => Nat.le_refl _
  | e :: es => by
    have h := len_text es
    have e1 : textL (e :: es) = (lineL e ++ [10]) ++ textL es := by unfold textL; rw [List.flatMap_cons]
    rw [e1, List.length_append, List.length_append, List.length_cons]
    simp only [List.length_cons, List.length_nil]
    omega
/-- A beginning that is a text, and behind it something without a byte 10. -/
theorem why_end {l : List UInt8} {f : Nat} {es : List En} (h1 : l.take f = textL es) (h2 : ∀ x ∈ es, MayE x) (h3 : ∀ x ∈ l.drop f, x ≠ 10) (hf : f < l.length) (es' : List En) (he : ∀ x ∈ es', MayE x) : textL es' ≠ l := by
  refine no_text ?_ es' he
  have e : l = textL es ++ l.drop f := by rw [← h1, List.take_append_drop]
  have e2 : pcs 10 l = es.map lineL ++ [l.drop f] := by conv => lhs; rw [e, pcs_app es h2, pcs_none 10 _ h3]
  simp only [e2, List.getLast_append, List.getLast_singleton]
  intro h
  simp at h
  omega
/-- A line that is no entry's. -/
theorem why_line {l : List UInt8} {f i : Nat} {es : List En} (h1 : l.take f = textL es) (h2 : ∀ x ∈ es, MayE x) (h3 : ∀ x ∈ (l.drop f).take (i - f), x ≠ 10) (hf : f ≤ i) (hi : l[i]? = some 10) (hb : ∀ en, MayE en → lineL en ≠ (l.drop f).take (i - f)) (es' : List En) (he : ∀ x ∈ es', MayE x) : textL es' ≠ l := by
  obtain ⟨hlt, hc⟩ := List.getElem?_eq_some_iff.1 hi
  have e3 : l.drop f = (l.drop f).take (i - f) ++ 10 :: l.drop (i + 1) := by
    have h4 := (List.take_append_drop (i - f) (l.drop f)).symm
    rw [List.drop_drop, show f + (i - f) = i by omega, List.drop_eq_getElem_cons hlt, hc] at h4
    exact h4
  have e : l = textL es ++ l.drop f := by rw [← h1, List.take_append_drop]
  have e2 : pcs 10 l = es.map lineL ++ ((l.drop f).take (i - f) :: pcs 10 (l.drop (i + 1))) := by
    conv => lhs; rw [e, pcs_app es h2, e3, pcs_at 10 _ _ h3]
  refine no_line (k := es.length) (l := (l.drop f).take (i - f)) ?_ ?_ hb es' he
  · rw [e2, List.getElem?_append_right (by simp)]
    simp
  · have := List.length_pos_iff.2 (pcs_ne 10 (l.drop (i + 1)))
    rw [e2, List.length_append, List.length_map, List.length_cons]
    omega
theorem go_on {l : List UInt8} {f i : Nat} {es : List En} {en : En} (h1 : l.take f = textL es) (hf : f ≤ i) (hi : l[i]? = some 10) (hl : lineL en = (l.drop f).take (i - f)) : l.take (i + 1) = textL (es ++ [en]) := by
  obtain ⟨hlt, hc⟩ := List.getElem?_eq_some_iff.1 hi
  have e1 : textL (es ++ [en]) = textL es ++ (lineL en ++ [10]) := by unfold textL; simp
  rw [e1, ← h1, hl, List.take_succ_eq_append_getElem hlt, hc, ← List.append_assoc]
  congr 1
  have : i = f + (i - f) := by omega
  conv => lhs; rw [this, List.take_add]
/-- What Of leaves. -/
def PostF (s : ByteArray) (w : World) (e : Ending) (w' : World) : Prop :=
  Below w.heap.size w w' ∧ ((∃ es A c, e = .returned (.tuple #[.slice A es.length c, .bool true]) ∧ ER w' A es.length es ∧ es.length ≤ c ∧ (∀ x ∈ es, MayE x) ∧ textL es = s.data.toList) ∨ (e = .returned (.tuple #[.slice none 0 0, .bool false]) ∧ ∀ es, (∀ x ∈ es, MayE x) → textL es ≠ s.data.toList))
set_option maxHeartbeats 16000000 in
set_option maxRecDepth 1000000 in
theorem off_calls (s : ByteArray) (hm : s.size ≤ 100000) (w : World) : Calls Tryz.prog 7 #[.string s] w (PostF s w) := by
  obtain ⟨l, hl⟩ : ∃ l, l = s.data.toList := ⟨_, rfl⟩
  have HL := Aside0.mk hl
  have HSZ := Aside0.mk (show s.size = l.length from by rw [hl]; exact Lib.size_eq s)
  have HM := Aside0.mk hm
  clear hm hl
  go_enter Tryz.func7, Tryz.ntmps7
  go_wp2
  obtain ⟨g, hg⟩ : ∃ g, g = w.heap.size := ⟨_, rfl⟩
  have HGG := Aside0.mk hg
  have HR0 := Aside0.mk (show RE w g (.slice none 0 0) [] from Kd.R_nil _ _ _ _ _)
  have HBB := Aside0.mk (show Below g w w from Below.refl _ _)
  have HSS := Aside0.mk (show g ≤ w.heap.size from by rw [hg]; exact Nat.le_refl _)
  clear hg
  go_loopg [4, 5, 6] (s.size + 1) (fun kq v4 v5 v6 w' => ∃ (es : List En) (f i : Nat), v5 = .int .i64 (f : Int) ∧ v6 = .int .i64 (i : Int) ∧ Aside0 (s.size - i < kq ∧ i ≤ s.size ∧ f ≤ i ∧ es.length ≤ i) ∧ Aside0 (l.take f = textL es ∧ (∀ x ∈ es, MayE x) ∧ ∀ x ∈ (l.drop f).take (i - f), x ≠ 10) ∧ Aside0 (RE w' g v4 es) ∧ Aside0 (Below g w w') ∧ Aside0 (g ≤ w'.heap.size))
  case atStart => exact ⟨[], 0, 0, rfl, rfl, ⟨by omega, by omega, by omega, by simp⟩, ⟨rfl, by simp, by simp⟩, HR0, HBB, HSS⟩
  case round =>
    clear HR0 HBB HSS
    obtain ⟨es, f, i, rfl, rfl, HI, HE, HR, HB, HS⟩ := hrel
    have hbi : (i : Int) ≤ 100000 := by have := HI.out.2.1; have := HM.out; omega
    have hwi : wrap64 ((i : Int) + 1) = ((i + 1 : Nat) : Int) := by unfold wrap64; omega
    obtain ⟨A, cp, hv4⟩ := Kd.R_slice HR.out
    subst hv4
    by_cases hi : i < s.size
    · obtain ⟨c, hc⟩ : ∃ c, l[i]? = some c := ⟨l[i]'(by have := HSZ.out; omega), List.getElem?_eq_getElem _⟩
      have hidx := at_str (t := s) (i := i) (c := c) (by rw [← HL.out]; exact hc)
      have hc0 : ((i : Int) < (s.size : Int)) = True := eq_true (Int.ofNat_lt.2 hi)
      have hc1 : decide ((i : Int) < (s.size : Int)) = true := decide_eq_true (Int.ofNat_lt.2 hi)
      have HI2 := Aside0.mk hi
      by_cases h10 : c = 10
      · subst h10
        have HC := Aside0.mk hc
        obtain ⟨Z, hZ, hslZ⟩ := mid_str s f i HI.out.2.2.1 (by omega)
        have HZ := Aside0.mk (show Z.data.toList = (l.drop f).take (i - f) from by rw [hZ, HL.out])
        have HZS := Aside0.mk (show Z.size ≤ 100000 from by have h1 := Lib.size_eq Z; have h2 := HZ.out; rw [h2, List.length_take] at h1; have := HM.out; omega)
        clear hi hc hZ
        go_upto_region 8 with (first | (go_at_call 17; (with_reducible refine (one_calls Z HZS.out wr).mono ?_); rintro e w2 ⟨hb, k1, a1, n1, A1, m1, c1, is, rfl, hp⟩; have HP := Aside0.mk hp; have HB2 := Aside0.mk hb; clear hp hb))
        clear hidx hslZ hc0 hc1
        obtain ⟨W3, hW3⟩ : ∃ W3, W3 = w2.alloc (Obj.cells #[.int .i64 k1, .int .i64 a1, .int .i64 n1, .slice A1 m1 c1] 35) := ⟨_, rfl⟩
        obtain ⟨p, hp⟩ : ∃ p, p = w2.heap.size := ⟨_, rfl⟩
        have HB3 := Aside0.mk (show Below wr.heap.size wr W3 from by rw [hW3]; exact HB2.out.trans ((below_alloc (Below.refl _ _) _).mono HB2.out.size))
        have HP3 := Aside0.mk (show W3.heap[p]? = some (.cells #[.int .i64 k1, .int .i64 a1, .int .i64 n1, .slice A1 m1 c1] 35 (0, 0)) from by rw [hW3, hp]; exact blk_new w2 _)
        have HV3 := Aside0.mk (show ∀ b, RV w2 wr.heap.size (.slice A1 m1 c1) b → RV W3 wr.heap.size (.slice A1 m1 c1) b from fun b h => by rw [hW3]; exact Kd.R_below h (below_alloc (Below.refl _ _) _))
        rw [← hW3, ← hp]
        clear hW3 hp
        have HB4 := Aside0.mk (show Below g w W3 from HB.out.trans (HB3.out.mono HS.out))
        have HS4 := Aside0.mk (show g ≤ W3.heap.size from Nat.le_trans HS.out HB3.out.size)
        rcases HP.out with ⟨rfl, b, hv, h1, h2⟩ | ⟨rfl, h2⟩
        · have HM1 := Aside0.mk h1
          have HL1 := Aside0.mk (show lineL ⟨k1, a1, n1, b⟩ = (l.drop f).take (i - f) from h2.trans HZ.out)
          have HR4 := Aside0.mk (show RE W3 g (.slice A es.length cp) es from Kd.R_below HR.out HB3.out)
          have HV4 := Aside0.mk (show RV W3 g (.slice A1 m1 c1) b from Kd.R_lower (HV3.out b hv) HS.out)
          have e0 := (blk_cell HP3.out 0).trans (rfl : _ = some (Value.int .i64 k1))
          have e1 := (blk_cell HP3.out 1).trans (rfl : _ = some (Value.int .i64 a1))
          have e2 := (blk_cell HP3.out 2).trans (rfl : _ = some (Value.int .i64 n1))
          have e3 := (blk_cell HP3.out 3).trans (rfl : _ = some (Value.slice A1 m1 c1))
          clear hv h1 h2
          go_wp2_with (first | (at_builtin; refine Kd.R_append kE (w0 := w) g rfl (.tmp 29) (.tmp 31) 23 35 (.agg #[.int .i64 0, .int .i64 0, .int .i64 0, .slice none 0 0]) 48 rfl Tryz.underlying23 info_e rfl (by decide) (by omega) (.slice A es.length cp) es ⟨k1, a1, n1, b⟩ [.int .i64 k1, .int .i64 a1, .int .i64 n1, .slice A1 m1 c1] (fun _ => True) (fun kk => ∃ cells, W3.heap[kk]? = some (.cells cells 5 (0, 0))) rfl rfl ?aP ?aK ?aF ?aO ?aB ?aS ?aL ?_; (case aP => exact kE_mkM W3 g _ ⟨k1, a1, n1, b⟩ (Kd.R_mono (Kd.R_bound HV4.out) (fun kk hk => by obtain ⟨_, _, _, q, hq, hc⟩ := hk; simp [Kd.int, Kd.scalar] at hq; subst hq; exact hc))); (case aK => exact fun kk ⟨cells, hc⟩ => ⟨trivial, Kd.R_ne HR4.out hc (by decide)⟩); (case aB => exact HB4.out); (case aF => exact fun _ _ => trivial); (case aO => exact HR4.out); (case aS => exact HS4.out); (case aL => have := HI.out; have := HM.out; omega); intro v1 w6 ho hb hgr hat; have HO3 := Aside0.mk ho; have HB6 := Aside0.mk hb; have HS6 := Aside0.mk (U.grown_size hgr HS4.out); clear ho hb hgr hat))
          go_roundg (gk - 1)
          case measure => have := HI.out; have := HI2.out; omega
          case rel => exact ⟨es ++ [⟨k1, a1, n1, b⟩], i + 1, i + 1, by first | rfl | (rw [hwi]), by first | rfl | (rw [hwi]), ⟨by have := HI.out; have := HI2.out; omega, HI2.out, Nat.le_refl _, by rw [List.length_append]; have := HI.out; simp; omega⟩, ⟨go_on HE.out.1 HI.out.2.2.1 HC.out HL1.out, fun x hx => by rcases List.mem_append.1 hx with hx | hx; exact HE.out.2.1 x hx; simp only [List.mem_singleton] at hx; exact hx ▸ HM1.out, by simp⟩, HO3, HB6, HS6⟩
        · have HBAD := Aside0.mk h2
          clear h2
          go_wp2
          go_ret2
          exact ⟨HGG.out ▸ HB4.out, .inr ⟨rfl, by rw [← HL.out]; exact why_line HE.out.1 HE.out.2.1 HE.out.2.2 HI.out.2.2.1 HC.out (fun en h1 h2 => HBAD.out en h1 (h2.trans HZ.out.symm))⟩⟩
      · have x10 : ((c.toNat : Int) == 10) = false := beq_eq_false_iff_ne.mpr (fun e => h10 (UInt8.toNat_inj.1 (by show c.toNat = 10; omega)))
        have HNX := Aside0.mk (show ∀ x ∈ (l.drop f).take (i + 1 - f), x ≠ 10 from fun x hx => by
          have hf := HI.out.2.2.1
          rw [show i + 1 - f = (i - f) + 1 by omega, List.take_add_one, List.getElem?_drop, show f + (i - f) = i by omega, hc] at hx
          rcases List.mem_append.1 hx with hx | hx
          · exact HE.out.2.2 x hx
          · simp at hx; rw [hx]; exact h10)
        clear hi hc h10
        go_wp2
        go_roundg (gk - 1)
        case measure => have := HI.out; have := HI2.out; omega
        case rel => exact ⟨es, f, i + 1, rfl, by first | rfl | (rw [hwi]), ⟨by have := HI.out; have := HI2.out; omega, HI2.out, by have := HI.out; omega, by have := HI.out; omega⟩, ⟨HE.out.1, HE.out.2.1, HNX.out⟩, HR, HB, HS⟩
    · have hc0 : ((i : Int) < (s.size : Int)) = False := eq_false (by omega)
      have hc1 : decide ((i : Int) < (s.size : Int)) = false := decide_eq_false (by omega)
      have hii : i = s.size := by have := HI.out; omega
      have HNT := Aside0.mk (show ∀ x ∈ l.drop f, x ≠ 10 from by
        have h1 := HE.out.2.2
        have h2 := HSZ.out
        rwa [List.take_of_length_le (by rw [List.length_drop]; omega)] at h1)
      by_cases hf : f < s.size
      · have hd1 : decide ((f : Int) < (s.size : Int)) = true := decide_eq_true (Int.ofNat_lt.2 hf)
        have hd0 : ((f : Int) < (s.size : Int)) = True := eq_true (Int.ofNat_lt.2 hf)
        have hd2 : decide (f < s.size) = true := decide_eq_true hf
        have hd3 : (f < s.size) = True := eq_true hf
        have HF := Aside0.mk hf
        clear hi hii hf
        go_wp2
        go_ret2
        exact ⟨HGG.out ▸ HB.out, .inr ⟨rfl, by rw [← HL.out]; exact why_end HE.out.1 HE.out.2.1 HNT.out (by have := HF.out; have := HSZ.out; omega)⟩⟩
      · have hd1 : decide ((f : Int) < (s.size : Int)) = false := decide_eq_false (by omega)
        have hd0 : ((f : Int) < (s.size : Int)) = False := eq_false (by omega)
        have hd2 : decide (f < s.size) = false := decide_eq_false hf
        have hd3 : (f < s.size) = False := eq_false hf
        obtain ⟨A', c', he, hcc, her⟩ := RE.er HR.out
        injection he with he1 he2 he3
        subst he1
        subst he3
        have HER := Aside0.mk her
        have HC := Aside0.mk hcc
        have HTX := Aside0.mk (show textL es = l from by
          have h1 := HE.out.1
          have h2 := HSZ.out
          rwa [List.take_of_length_le (by omega), eq_comm] at h1)
        clear hi hii hf her hcc
        go_wp2
        go_ret2
        exact ⟨HGG.out ▸ HB.out, .inl ⟨es, _, _, rfl, HER.out, HC.out, HE.out.2.1, by rw [← HL.out]; exact HTX.out⟩⟩
end Go.Proofs.YtjapnbghnnbamaaGreatDoor.Or
namespace Go.Proofs.YtjapnbghnnbamaaGreatDoor.ZR
open Go.RowKit Go.Proofs.YtjapnbghnnbamaaGreatDoorW.PrintWords Go.Proofs.YtjapnbghnnbamaaGreatDoorW.PrintLast Go.Proofs.YtjapnbghnnbamaaGreatDoor.Ext Go.Proofs.YtjapnbghnnbamaaGreatDoor.S Go.Proofs.YtjapnbghnnbamaaGreatDoor.L Go.Proofs.YtjapnbghnnbamaaGreatDoor.T Go.Proofs.YtjapnbghnnbamaaGreatDoor.W Go.Proofs.YtjapnbghnnbamaaGreatDoor.Of Go.Proofs.YtjapnbghnnbamaaGreatDoor.ZT Go.Proofs.YtjapnbghnnbamaaGreatDoor.Or Go.Proofs.YtjapnbghnnbamaaGreatDoor.Kn
set_option linter.unusedVariables false
set_option linter.unusedSimpArgs false
theorem er_nil (w : World) : ER w none ([] : List En).length [] := ⟨rfl, by decide, fun h => absurd h (Nat.lt_irrefl 0)⟩
set_option maxHeartbeats 16000000 in
set_option maxRecDepth 1000000 in
theorem law_calls (s : ByteArray) (hs : s.size ≤ 9223372036854775807) (w : World) (hG : Glob w) : Calls Tryz.prog 3 #[.string s] w fun e w' => e = .returned (.bool true) ∧ Below w.heap.size w w' := by
  have HN := Aside0.mk (fun (W : World) (h : Below w.heap.size w W) => known_calls W (hG.below h))
  by_cases h3 : 3000 < s.size
  · have d1 : decide ((s.size : Int) > 3000) = true := decide_eq_true (by omega)
    have d2 : decide (3000 < s.size) = true := decide_eq_true h3
    clear h3 hG hs
    go_enter Tryz.func3, Tryz.ntmps3
    go_wp2_with (first | (go_at_call 5; (with_reducible refine (HN.out _ (Below.refl _ _)).mono ?_); rintro x w9 ⟨rfl, hb⟩; have HB9 := Aside0.mk hb; clear hb))
    go_ret
    exact ⟨rfl, HB9.out⟩
  · have d1 : decide ((s.size : Int) > 3000) = false := decide_eq_false (by omega)
    have d2 : decide (3000 < s.size) = false := decide_eq_false h3
    have hz := Lib.size_eq s
    have ho := fun (W : World) (h : Below w.heap.size w W) => of_calls s (by omega) W (hG.below h)
    have hr := fun (W : World) => off_calls s (by omega) W
    by_cases he : ∃ es : List En, (∀ x ∈ es, MayE x) ∧ textL es = s.data.toList
    · obtain ⟨es, hm, ht⟩ := he
      have hl : es.length ≤ 3000 := by have h1 := len_text es; rw [ht] at h1; omega
      have HO := Aside0.mk (fun (W : World) (h : Below w.heap.size w W) => show Calls Tryz.prog 6 #[.string s] W fun e w' => (∃ A c, e = .returned (.tuple #[.slice A es.length c, .int .i64 0]) ∧ ER w' A es.length es ∧ es.length ≤ c) ∧ Below W.heap.size W w' from (ho W h).mono fun e w' ⟨hb, h⟩ => by
        rcases h with ⟨es', A, c, h1, h2, h3, h4, h5⟩ | ⟨_, hno⟩
        · have e1 : es' = es := text_inj h4 hm (h5.trans ht.symm)
          subst e1
          exact ⟨⟨A, c, h1, h2, h3⟩, hb⟩
        · exact absurd ht (hno es hm))
      have HF := Aside0.mk (fun (W : World) => show Calls Tryz.prog 7 #[.string s] W fun e w' => (∃ A c, e = .returned (.tuple #[.slice A es.length c, .bool true]) ∧ ER w' A es.length es ∧ es.length ≤ c) ∧ Below W.heap.size W w' from (hr W).mono fun e w' ⟨hb, h⟩ => by
        rcases h with ⟨es', A, c, h1, h2, h3, h4, h5⟩ | ⟨_, hno⟩
        · have e1 : es' = es := text_inj h4 hm (h5.trans ht.symm)
          subst e1
          exact ⟨⟨A, c, h1, h2, h3⟩, hb⟩
        · exact absurd ht (hno es hm))
      have HL := Aside0.mk hl
      have HTB := Aside0.mk (show TB es from tb_of (by rw [ht]; omega))
      have HTS := Aside0.mk (show textS es = s from by unfold textS; rw [if_pos hm]; exact ByteArray.ext (Array.toList_inj.1 (by rw [ht])))
      clear h3 hG hs hz ho hr hm ht hl
      go_enter Tryz.func3, Tryz.ntmps3
      go_wp2_with (first | (go_at_call 6; (with_reducible refine (HO.out _ (Below.refl _ _)).mono ?_); rintro x w1 ⟨⟨A1, c1, rfl, her, hc⟩, hb⟩; have HE1 := Aside0.mk her; have HC1 := Aside0.mk hc; have HB1 := Aside0.mk hb; clear hb her hc) | (go_at_call 7; (with_reducible refine (HF.out _).mono ?_); rintro x w2 ⟨⟨A2, c2, rfl, her, hc⟩, hb⟩; have HE2 := Aside0.mk her; have HC2 := Aside0.mk hc; have HE1b := Aside0.mk (HE1.out.below hb); have HB2 := Aside0.mk (bstep HB1.out hb); clear hb her hc) | (go_at_call 8; (with_reducible refine (same_ref A1 A2 c1 c2 es es _ HE1b.out HE2.out HC1.out HC2.out (by have := HL.out; omega)).mono ?_); rintro x w3 ⟨rfl, hb⟩; rw [(sameB_iff es es).2 rfl]; have HB3 := Aside0.mk (bstep HB2.out hb); have HE2b := Aside0.mk (HE2.out.below hb); clear hb) | (go_at_call 9; (with_reducible refine (text_ref A2 c2 es _ HE2b.out HC2.out (by have := HL.out; omega) HTB.out).mono ?_); rintro x w4 ⟨rfl, hb⟩; rw [HTS.out]; have HB4 := Aside0.mk (bstep HB3.out hb); clear hb) | (go_at_call 5; (with_reducible refine (HN.out _ HB4.out).mono ?_); rintro x w9 ⟨rfl, hb⟩; have HB9 := Aside0.mk (bstep HB4.out hb); clear hb))
      go_ret
      exact ⟨rfl, HB9.out⟩
    · have hno : ∀ es : List En, (∀ x ∈ es, MayE x) → textL es ≠ s.data.toList := fun es h1 h2 => he ⟨es, h1, h2⟩
      have HO := Aside0.mk (fun (W : World) (h : Below w.heap.size w W) => show Calls Tryz.prog 6 #[.string s] W fun e w' => e = .returned (.tuple #[.slice none 0 0, .int .i64 19]) ∧ Below W.heap.size W w' from (ho W h).mono fun e w' ⟨hb, h⟩ => by
        rcases h with ⟨es', A, c, h1, h2, h3, h4, h5⟩ | ⟨h1, _⟩
        · exact absurd h5 (hno es' h4)
        · exact ⟨h1, hb⟩)
      have HF := Aside0.mk (fun (W : World) => show Calls Tryz.prog 7 #[.string s] W fun e w' => e = .returned (.tuple #[.slice none 0 0, .bool false]) ∧ Below W.heap.size W w' from (hr W).mono fun e w' ⟨hb, h⟩ => by
        rcases h with ⟨es', A, c, h1, h2, h3, h4, h5⟩ | ⟨h1, _⟩
        · exact absurd h5 (hno es' h4)
        · exact ⟨h1, hb⟩)
      have HSM := Aside0.mk (fun (W : World) => show Calls Tryz.prog 8 #[.slice none 0 0, .slice none 0 0] W fun e w' => e = .returned (.bool true) ∧ Below W.heap.size W w' from same_ref none none 0 0 [] [] W (er_nil W) (er_nil W) (Nat.le_refl _) (Nat.le_refl _) (by simp))
      clear h3 hG hs hz ho hr he hno
      go_enter Tryz.func3, Tryz.ntmps3
      go_wp2_with (first | (go_at_call 6; (with_reducible refine (HO.out _ (Below.refl _ _)).mono ?_); rintro x w1 ⟨rfl, hb⟩; have HB1 := Aside0.mk hb; clear hb) | (go_at_call 7; (with_reducible refine (HF.out _).mono ?_); rintro x w2 ⟨rfl, hb⟩; have HB2 := Aside0.mk (bstep HB1.out hb); clear hb) | (go_at_call 8; (with_reducible refine (HSM.out _).mono ?_); rintro x w3 ⟨rfl, hb⟩; have HB3 := Aside0.mk (bstep HB2.out hb); clear hb) | (go_at_call 5; (with_reducible refine (HN.out _ HB3.out).mono ?_); rintro x w9 ⟨rfl, hb⟩; have HB9 := Aside0.mk (bstep HB3.out hb); clear hb))
      go_ret
      exact ⟨rfl, HB9.out⟩
def odometerlaw23_ScriptReads.Pure : Prop := True
theorem odometerlaw23_ScriptReads.walk (_P : odometerlaw23_ScriptReads.Pure) (a0 : ByteArray) (w : World) (w0 : a0.size ≤ 140737488351232) (hG : Glob w) :
    Calls Tryz.prog 3 #[.string a0] w fun e w' => e = .returned (.bool true) ∧ Below w.heap.size w w' := law_calls a0 (by omega) w hG
end Go.Proofs.YtjapnbghnnbamaaGreatDoor.ZR
