/- The laws' 'known': the chapter's row. -/
import Derived.Test.YtjapnbghnnbamaaGreatDoorT
import Derived.Test.YtjapnbghnnbamaaGreatDoorOf
import Derived.Test.YtjapnbghnnbamaaGreatDoorRt
import Derived.Deep.Slices
import Derived.Lib.SmallJoins
import Derived.ChangeSlices
import Derived.ChangeArms
namespace Go.Proofs.YtjapnbghnnbamaaGreatDoor.Kn
open Go.RowKit Go.Proofs.YtjapnbghnnbamaaGreatDoorW.PrintWords Go.Proofs.YtjapnbghnnbamaaGreatDoorW.PrintLast Go.Proofs.YtjapnbghnnbamaaGreatDoor.Ext Go.Proofs.YtjapnbghnnbamaaGreatDoor.Q Go.Proofs.YtjapnbghnnbamaaGreatDoor.S Go.Proofs.YtjapnbghnnbamaaGreatDoor.L Go.Proofs.YtjapnbghnnbamaaGreatDoor.M Go.Proofs.YtjapnbghnnbamaaGreatDoor.T
set_option linter.unusedVariables false
set_option linter.unusedSimpArgs false
theorem er_one (w : World) (e : En) (v : Value) (hv : Byt w v e.b) : ER (w.alloc (.cells #[.int .i64 e.k, .int .i64 e.a, .int .i64 e.n, v] 35)) (some ⟨w.heap.size, 0, none⟩) 1 [e] := by
  refine ⟨rfl, by decide, fun _ => ⟨_, rfl, fun j p hj => ?_⟩⟩
  match j, hj with
  | 0, hj =>
    obtain rfl := Option.some.inj hj
    refine ⟨En.cs e v, rfl, ⟨v, rfl, hv.below (below_alloc (Below.refl _ _) _)⟩, fun i u hu => ?_⟩
    rw [Go.WideShapes.add_plain]
    have hb : (w.alloc (.cells #[.int .i64 e.k, .int .i64 e.a, .int .i64 e.n, v] 35)).heap[w.heap.size]? = some (.cells #[.int .i64 e.k, .int .i64 e.a, .int .i64 e.n, v] 35 (0, 0)) := blk_new w _
    rw [blk_cell hb]
    match i, hu with
    | 0, hu => exact hu
    | 1, hu => exact hu
    | 2, hu => exact hu
    | 3, hu => exact hu
  | j + 1, hj => simp at hj
/-- The chapter's entry. -/
def kE : En := ⟨6, 1, 0, [97, 13, 10, 0]⟩
theorem kE_text : textS [kE] = ⟨#[98, 121, 116, 101, 115, 32, 49, 32, 34, 97, 92, 114, 92, 110, 92, 120, 48, 48, 34, 10]⟩ := by
  have hm : ∀ e ∈ [kE], MayE e := by
    intro e he
    simp only [List.mem_singleton] at he
    subst he
    unfold MayE kE
    simp
  unfold textS
  rw [if_pos hm]
  have h1 : Lib.itoa 1 = [49] := by simp [Lib.itoa, Lib.decDigits]
  unfold textL
  simp only [List.flatMap_cons, List.flatMap_nil, kE, lineL, h1]
  rfl
theorem kE_len : (textL [kE]).length ≤ 1000000000 := by
  have h1 : Lib.itoa 1 = [49] := by simp [Lib.itoa, Lib.decDigits]
  unfold textL
  simp only [List.flatMap_cons, List.flatMap_nil, kE, lineL, h1]
  decide
theorem text_one (A : Option Addr) (cp : Nat) (es : List En) (w : World) (hG : Glob w) (hE : ER w A 1 es) (hT : (textL es).length ≤ 1000000000) :
    Calls Tryz.prog 12 #[.slice A 1 cp] w fun x w' => x = .returned (.string (textS es)) ∧ Below w.heap.size w w' := by
  have h1 : es.length = 1 := hE.1
  have h := text_calls A cp es w hG (h1.symm ▸ hE) (tb_of hT)
  rw [h1] at h
  exact h
set_option maxHeartbeats 4000000 in
set_option maxRecDepth 100000 in
theorem known_calls (w : World) (hG : Glob w) : Calls Tryz.prog 5 #[] w fun x w' => x = .returned (.bool true) ∧ Below w.heap.size w w' := by
  have HG := Aside0.mk hG
  clear hG
  go_enter Tryz.func5, Tryz.ntmps5
  go_wp2_with (first | ((with_reducible refine gate_dst (N := 1) rfl ?_); refine lit_marked (xs := ([97, 13, 10, 0] : List Int)) (inner := [.int .u8 97, .int .u8 13, .int .u8 10, .int .u8 0]) ?hl1 ?hl2 (N1 := 1) ?hl3 ?hl4 Tryz.underlying33 Tryz.underlying5 [97, 13, 10, 0] rfl rfl ?hl5 ?hl6 ?hl7 ?_; (case hl1 => rfl); (case hl2 => rfl); (case hl3 => rfl); (case hl4 => rfl); (case hl5 => first | (go_simp; done) | (go_simp; rfl)); (case hl6 => exact fun _ => rfl); (case hl7 => simp); intro v1 w5 ho0 hb; obtain ⟨A6, c6, e6⟩ := Kd.V_slice ho0; subst e6; have HV := Aside0.mk (Kd.V_reads' ho0); have HB5 := Aside0.mk hb; have HT := Aside0.mk (text_one (some ⟨w5.heap.size, 0, none⟩) 1 [kE] (w5.alloc (.cells #[.int .i64 6, .int .i64 1, .int .i64 0, .slice A6 4 c6] 35)) ((HG.out.below hb).below (below_alloc (Below.refl _ _) _)) (er_one w5 kE _ ⟨A6, c6, rfl, (Kd.V_reads' ho0).2.1, Kd.reads_of_C (d := (0 : Int)) (Kd.V_reads' ho0).2.2⟩) kE_len); rw [kE_text] at HT; clear ho0 hb) | (go_at_call 12; (with_reducible refine HT.out.mono ?_); rintro e w6 ⟨rfl, hb⟩; have HB6 := Aside0.mk (show Below w.heap.size w w6 from HB5.out.trans (((show Below w5.heap.size w5 _ from below_alloc (Below.refl _ _) _).trans (hb.mono (by simp))).mono HB5.out.size)); clear hb))
  go_ret
  exact ⟨rfl, HB6.out⟩
end Go.Proofs.YtjapnbghnnbamaaGreatDoor.Kn
namespace Go.Proofs.YtjapnbghnnbamaaGreatDoor.ZT
open Go.RowKit Go.Proofs.YtjapnbghnnbamaaGreatDoorW.PrintWords Go.Proofs.YtjapnbghnnbamaaGreatDoorW.PrintLast Go.Proofs.YtjapnbghnnbamaaGreatDoor.Ext Go.Proofs.YtjapnbghnnbamaaGreatDoor.Q Go.Proofs.YtjapnbghnnbamaaGreatDoor.S Go.Proofs.YtjapnbghnnbamaaGreatDoor.K Go.Proofs.YtjapnbghnnbamaaGreatDoor.L Go.Proofs.YtjapnbghnnbamaaGreatDoor.T Go.Proofs.YtjapnbghnnbamaaGreatDoor.W Go.Proofs.YtjapnbghnnbamaaGreatDoor.Of Go.Proofs.YtjapnbghnnbamaaGreatDoor.PR Go.Proofs.YtjapnbghnnbamaaGreatDoor.Kn
open Go.Proofs.YtjapnbghnnbamaaGreatDoor.Rt (so may_ev text_ev same_ev)
open Go.Proofs.YtjapnbghnnbamaaGreatDoor.R (nbl)
set_option linter.unusedVariables false
set_option linter.unusedSimpArgs false
noncomputable def mayB (e : En) : Bool := @decide (MayE e) (Classical.propDecidable _)
theorem mayB_iff (e : En) : mayB e = true ↔ MayE e := by unfold mayB; exact @decide_eq_true_iff (MayE e) (Classical.propDecidable _)
theorem mayB_eq {e : En} {r : Bool} (h : r = true ↔ MayE e) : r = mayB e := by rw [Bool.eq_iff_iff, h, mayB_iff]
theorem nbl_nb (b : List UInt8) : nbl b = nb b := rfl
theorem byt_open {w : World} {v : Value} {b : List UInt8} (h : Byt w v b) : ∃ A c, v = .slice A (nbl b).length c ∧ Kd.C (Kd.int .u8) w A (nbl b).length (nbl b) ∧ (nbl b).length ≤ c := by
  obtain ⟨A, c, rfl, hc, hr⟩ := h
  have e : (nbl b).length = b.length := by simp [nbl]
  exact ⟨A, c, by rw [e], Kd.C_of_reads (d := (0 : Int)) (h1 := fun _ => rfl) (by rw [e, nbl_nb]; exact hr), by omega⟩
theorem may_own (e : En) (v : Value) (w : World) (hv : Byt w v e.b) : Calls Tryz.prog 10 #[.agg #[.int .i64 e.k, .int .i64 e.a, .int .i64 e.n, v]] w fun x w' => x = .returned (.bool (mayB e)) ∧ Below w.heap.size w w' :=
  (M.may_calls e v w hv).mono fun x w' ⟨r, h, hr, hb⟩ => ⟨by rw [h, mayB_eq hr], hb⟩
theorem may_ref (e : En) (v : Value) (w : World) (hv : Byt w v e.b) : Calls Tryz.prog 11 #[.agg #[.int .i64 e.k, .int .i64 e.a, .int .i64 e.n, v]] w fun x w' => x = .returned (.bool (mayB e)) ∧ Below w.heap.size w w' := by
  obtain ⟨A, c, rfl, h1, h2⟩ := byt_open hv
  obtain ⟨r, hr, hm⟩ := may_ev e.k e.a e.n e.b
  obtain ⟨j, hj⟩ := hr.rounds
  rw [← mayB_eq hm]
  exact odometerref23_May.calls j _ _ _ A c _ r w h1 h2 hj
theorem er_C {w : World} {A : Option Addr} {n : Nat} {es : List En} (h : ER w A n es) : Kd.C k35 w A n (es.map so) := by
  refine ⟨by rw [List.length_map]; exact h.1, h.2.1, fun hn => ?_⟩
  obtain ⟨ad, e, hc⟩ := h.2.2 hn
  refine ⟨ad, e, fun j p hp => ?_⟩
  rw [List.getElem?_map] at hp
  obtain ⟨x, hx, rfl⟩ := Option.map_eq_some_iff.1 hp
  obtain ⟨cs, hl, ⟨v, rfl, hv⟩, hcell⟩ := hc j x hx
  obtain ⟨A1, c1, rfl, h1, h2⟩ := byt_open hv
  exact ⟨_, hl, k35_mk w (so x) h2 h1, hcell⟩
theorem text_ref (A : Option Addr) (cp : Nat) (es : List En) (w : World) (hE : ER w A es.length es) (hc : es.length ≤ cp) (hl : es.length ≤ 1000000) (hT : TB es) :
    Calls Tryz.prog 9 #[.slice A es.length cp] w fun x w' => x = .returned (.string (textS es)) ∧ Below w.heap.size w w' := by
  obtain ⟨j, hj⟩ := (text_ev es hl hT).rounds
  have := odometerref23_Text.calls j A cp (es.map so) _ w (by rw [List.length_map]; exact er_C hE) (by rw [List.length_map]; exact hc) hj
  rwa [List.length_map] at this
theorem same_ref (A B : Option Addr) (c1 c2 : Nat) (xs ys : List En) (w : World) (hx : ER w A xs.length xs) (hy : ER w B ys.length ys) (h1 : xs.length ≤ c1) (h2 : ys.length ≤ c2) (hl : xs.length ≤ 1000000) :
    Calls Tryz.prog 8 #[.slice A xs.length c1, .slice B ys.length c2] w fun x w' => x = .returned (.bool (sameB xs ys)) ∧ Below w.heap.size w w' := by
  obtain ⟨j, hj⟩ := (same_ev xs ys hl).rounds
  have := odometerref23_Same.calls j A c1 (xs.map so) B c2 (ys.map so) _ w (by rw [List.length_map]; exact er_C hx) (by rw [List.length_map]; exact h1) (by rw [List.length_map]; exact er_C hy) (by rw [List.length_map]; exact h2) hj
  rw [List.length_map, List.length_map] at this
  exact this.mono fun e w' ⟨h, hd⟩ => ⟨h, hd.below⟩
theorem line_le {e : En} (h : MayE e) : (lineL e).length ≤ 262180 := by
  have h1 := kn_size e.k
  have e1 : (kn e.k).data.toList.length = (kn e.k).size := (Lib.size_eq _).symm
  rw [lineL_eq, List.length_append, List.length_cons]
  have ha := h.2.2.1
  have ha2 := h.2.2.2.1
  have hi := Lib.itoa_length_le e.a (by omega) (by omega)
  unfold tailL
  split
  · rename_i hk
    have hn := may_tick h hk
    have := Lib.itoa_length_le e.n (by omega) (by omega)
    omega
  · split
    · split <;> (simp; omega)
    · split
      · rename_i hk
        have hb := may_bytes h hk
        have hq := quote_len e.b
        rw [List.length_append, List.length_cons]
        omega
      · omega
theorem textL_len : ∀ (es : List En), (∀ x ∈ es, MayE x) → (textL es).length ≤ es.length * 262181
  | [], _ => Nat.le_refl _
  | e :: es, h => by
    have h1 := line_le (h e (by simp))
    have h2 := textL_len es (fun x hx => h x (by simp [hx]))
    have e1 : textL (e :: es) = (lineL e ++ [10]) ++ textL es := by unfold textL; rw [List.flatMap_cons]
    rw [e1, List.length_append, List.length_append, List.length_cons]
    simp only [List.length_cons, List.length_nil]
    omega
theorem tb_few {es : List En} (h : es.length ≤ 60) : TB es := fun k hk hm => by
  have h1 := textL_len (es.take k) hm
  have h2 : (es.take k).length ≤ 60 := by rw [List.length_take]; omega
  have h3 : (es.take k).length * 262181 ≤ 60 * 262181 := Nat.mul_le_mul_right _ h2
  omega
theorem bstep {w w1 w2 : World} (h : Below w.heap.size w w1) (hb : Below w1.heap.size w1 w2) : Below w.heap.size w w2 := h.trans (hb.mono h.size)
noncomputable def allB (es : List En) (k : Nat) : Bool := (es.take k).all mayB
theorem allB_succ (es : List En) (k : Nat) (h : k < es.length) : allB es (k + 1) = (allB es k && mayB es[k]) := by
  unfold allB
  rw [List.take_succ_eq_append_getElem h, List.all_append]
  simp
theorem allB_all (es : List En) : allB es es.length = true ↔ ∀ x ∈ es, MayE x := by
  unfold allB
  rw [List.take_length, List.all_eq_true]
  exact ⟨fun h x hx => (mayB_iff x).1 (h x hx), fun h x hx => (mayB_iff x).2 (h x hx)⟩
set_option maxHeartbeats 16000000 in
set_option maxRecDepth 1000000 in
theorem law_calls (A : Option Addr) (cp : Nat) (es : List En) (w : World) (hG : Glob w) (hE : ER w A es.length es) (hcp : es.length ≤ cp) :
    Calls Tryz.prog 4 #[.slice A es.length cp] w fun e w' => e = .returned (.bool true) ∧ Below w.heap.size w w' := by
  have HG := Aside0.mk hG
  have HE := Aside0.mk hE
  have HCP := Aside0.mk hcp
  have HX : es.length ≤ 9223372036854775807 := hE.2.1
  have HN := Aside0.mk (fun (W : World) (h : Below w.heap.size w W) => known_calls W (hG.below h))
  clear hG hE hcp
  go_enter Tryz.func4, Tryz.ntmps4
  go_wp2
  go_loopg [3, 4] 62 (fun kq v3 v4 w' => ∃ (m : Int) (k : Nat), v3 = .int .i64 m ∧ v4 = .int .i64 (k : Int) ∧ Aside0 (61 - k < kq ∧ k ≤ 61 ∧ k ≤ es.length) ∧ w' = w)
  case atStart => exact ⟨0, 0, rfl, rfl, ⟨by omega, by omega, by omega⟩, rfl⟩
  case round =>
    obtain ⟨m, k, rfl, rfl, HI, hw⟩ := hrel
    rw [hw]
    clear hw
    by_cases hk : k < es.length
    · have hc0 : ((k : Int) < (es.length : Int)) = True := eq_true (Int.ofNat_lt.2 hk)
      have hc1 : decide ((k : Int) < (es.length : Int)) = true := decide_eq_true (Int.ofNat_lt.2 hk)
      by_cases h60 : k ≤ 60
      · have hd1 : decide ((k : Int) ≤ 60) = true := decide_eq_true (by omega)
        obtain ⟨ad, ea, _⟩ := HE.out.2.2 (by omega)
        subst ea
        have ep := HE.out.plain (by omega)
        obtain ⟨b, off, sg⟩ := ad
        injection ep with _ _ ep
        subst ep
        obtain ⟨v1, hv1, p0, p1, p2, p3⟩ := HE.out.get k hk
        obtain ⟨A1, d1, rfl, -, -⟩ := hv1
        have hwi : wrap64 ((k : Int) + 1) = ((k + 1 : Nat) : Int) := wrap64_next k (by omega)
        go_wp2
        go_roundg (gk - 1)
        case measure => have := HI.out; omega
        case rel => exact ⟨_, k + 1, rfl, by first | rfl | (rw [hwi]), ⟨by have := HI.out; omega, by omega, by omega⟩, rfl⟩
      · have hd1 : decide ((k : Int) ≤ 60) = false := decide_eq_false (by omega)
        have he1 : decide ((es.length : Int) > 60) = true := decide_eq_true (by omega)
        have he2 : decide (60 < es.length) = true := decide_eq_true (by omega)
        go_wp2_with (first | (go_at_call 5; (with_reducible refine (HN.out _ (Below.refl _ _)).mono ?_); rintro x w9 ⟨rfl, hb⟩; have HB9 := Aside0.mk (bstep (Below.refl _ _) hb); clear hb))
        go_ret
        exact ⟨rfl, HB9.out⟩
    · have hkk : k = es.length := by have := HI.out; omega
      subst hkk
      have hc0 : ((es.length : Int) < (es.length : Int)) = False := eq_false (Int.lt_irrefl _)
      have hc1 : decide ((es.length : Int) < (es.length : Int)) = false := decide_eq_false (Int.lt_irrefl _)
      by_cases h60 : 60 < es.length
      · have he1 : decide ((es.length : Int) > 60) = true := decide_eq_true (by omega)
        have he2 : decide (60 < es.length) = true := decide_eq_true h60
        go_wp2_with (first | (go_at_call 5; (with_reducible refine (HN.out _ (Below.refl _ _)).mono ?_); rintro x w9 ⟨rfl, hb⟩; have HB9 := Aside0.mk (bstep (Below.refl _ _) hb); clear hb))
        go_ret
        exact ⟨rfl, HB9.out⟩
      have he1 : decide ((es.length : Int) > 60) = false := decide_eq_false (by omega)
      have he2 : decide (60 < es.length) = false := decide_eq_false h60
      by_cases h9 : m > 9000
      · have hf1 : decide (m > 9000) = true := decide_eq_true h9
        go_wp2_with (first | (go_at_call 5; (with_reducible refine (HN.out _ (Below.refl _ _)).mono ?_); rintro x w9 ⟨rfl, hb⟩; have HB9 := Aside0.mk (bstep (Below.refl _ _) hb); clear hb))
        go_ret
        exact ⟨rfl, HB9.out⟩
      have hf1 : decide (m > 9000) = false := decide_eq_false h9
      have HL60 := Aside0.mk (show es.length ≤ 60 from by omega)
      clear HI h9 h60 hk
      go_wp2
      clear hc0 hc1 he1 he2 hf1
      go_loopg [5, 6] (es.length + 1) (fun kq v5 v6 w' => ∃ (k : Nat), v5 = .bool (allB es k) ∧ v6 = .int .i64 (k : Int) ∧ Aside0 (es.length - k < kq ∧ k ≤ es.length) ∧ Aside0 (Below w.heap.size w w'))
      case atStart => exact ⟨0, rfl, rfl, ⟨by omega, by omega⟩, ⟨Below.refl _ _⟩⟩
      case round =>
        obtain ⟨k, rfl, rfl, HI, HB⟩ := hrel
        by_cases hk : k < es.length
        · have hc0 : ((k : Int) < (es.length : Int)) = True := eq_true (Int.ofNat_lt.2 hk)
          have hc1 : decide ((k : Int) < (es.length : Int)) = true := decide_eq_true (Int.ofNat_lt.2 hk)
          obtain ⟨ad, ea, _⟩ := HE.out.2.2 (by omega)
          subst ea
          have ep := HE.out.plain (by omega)
          obtain ⟨b, off, sg⟩ := ad
          injection ep with _ _ ep
          subst ep
          obtain ⟨v1, hv1, c0, c1, c2, c3⟩ := (HE.out.below HB.out).get k hk
          have hv1' := hv1
          obtain ⟨A1, d1, rfl, -, -⟩ := hv1'
          have hwi : wrap64 ((k : Int) + 1) = ((k + 1 : Nat) : Int) := wrap64_next k (by omega)
          have HS := Aside0.mk (allB_succ es k hk)
          have HM1 := Aside0.mk (fun (W : World) (h : Below wr.heap.size wr W) => may_own es[k] _ W (hv1.below h))
          have HM2 := Aside0.mk (fun (W : World) (h : Below wr.heap.size wr W) => may_ref es[k] _ W (hv1.below h))
          obtain ⟨x, hx⟩ : ∃ x, x = es[k] := ⟨_, rfl⟩
          rw [← hx] at c0 c1 c2 c3 HS HM1 HM2
          have HK := Aside0.mk hk
          have HW := Aside0.mk hwi
          clear hx hwi hk hv1
          obtain ⟨k1, a1, n1, l1⟩ := x
          simp only at c0 c1 c2 c3 HM1 HM2
          obtain ⟨r, hr⟩ : ∃ r, r = mayB ⟨k1, a1, n1, l1⟩ := ⟨_, rfl⟩
          rw [← hr] at HS HM1 HM2
          clear hr
          go_upto_region 12 with (fail)
          refine start_ (n := 11) (S := fun w' => Below wr.heap.size wr w') (ds := []) #[false, false, false, false, false, false, false, false, false, false, false] (by kernel_rfl) rfl rfl (below_drew1 (Below.refl _ _)) (fun hHeld => ?_)
          have hS0 := Aside0.mk (show Below wr.heap.size wr wr.drew from below_drew1 (Below.refl _ _))
          refine pure_ (i := 0) (N := some 42) (v := ?_) (a' := ?_) #[true, false, false, false, false, false, false, false, false, false, false] rfl rfl (by kernel_rfl) (fun _ _ _ h => h) (Or.inl ⟨by rfl, ?_⟩) ?_ ?_
          rotate_left
          · intro w'
            go_simp
            with_reducible rfl
          rotate_left
          · simp only [Act.put, List.setIfInBounds_toArray, List.set_cons_zero, List.set_cons_succ, i64_w, i32_w]
            rfl
          refine pure_ (i := 1) (N := some 43) (v := ?_) (a' := ?_) #[true, true, false, false, false, false, false, false, false, false, false] rfl rfl (by kernel_rfl) (fun _ _ _ h => h) (Or.inl ⟨by rfl, ?_⟩) ?_ ?_
          rotate_left
          · intro w'
            go_simp
            with_reducible rfl
          rotate_left
          · simp only [Act.put, List.setIfInBounds_toArray, List.set_cons_zero, List.set_cons_succ, i64_w, i32_w]
            rfl
          refine pure_ (i := 2) (N := some 44) (v := ?_) (a' := ?_) #[true, true, true, false, false, false, false, false, false, false, false] rfl rfl (by kernel_rfl) (fun _ _ _ h => h) (Or.inl ⟨by rfl, ?_⟩) ?_ ?_
          rotate_left
          · intro w'
            go_simp
            with_reducible rfl
          rotate_left
          · simp only [Act.put, List.setIfInBounds_toArray, List.set_cons_zero, List.set_cons_succ, i64_w, i32_w]
            rfl
          refine pure_ (i := 5) (N := some 47) (v := ?_) (a' := ?_) #[true, true, true, false, false, true, false, false, false, false, false] rfl rfl (by kernel_rfl) (fun _ _ _ h => h) (Or.inl ⟨by rfl, ?_⟩) ?_ ?_
          rotate_left
          · intro w'
            go_simp
            with_reducible rfl
          rotate_left
          · simp only [Act.put, List.setIfInBounds_toArray, List.set_cons_zero, List.set_cons_succ, i64_w, i32_w]
            rfl
          refine pure_ (i := 6) (N := some 48) (v := ?_) (a' := ?_) #[true, true, true, false, false, true, true, false, false, false, false] rfl rfl (by kernel_rfl) (fun _ _ _ h => h) (Or.inl ⟨by rfl, ?_⟩) ?_ ?_
          rotate_left
          · intro w'
            go_simp
            with_reducible rfl
          rotate_left
          · simp only [Act.put, List.setIfInBounds_toArray, List.set_cons_zero, List.set_cons_succ, i64_w, i32_w]
            rfl
          refine pure_ (i := 7) (N := some 49) (v := ?_) (a' := ?_) #[true, true, true, false, false, true, true, true, false, false, false] rfl rfl (by kernel_rfl) (fun _ _ _ h => h) (Or.inl ⟨by rfl, ?_⟩) ?_ ?_
          rotate_left
          · intro w'
            go_simp
            with_reducible rfl
          rotate_left
          · simp only [Act.put, List.setIfInBounds_toArray, List.set_cons_zero, List.set_cons_succ, i64_w, i32_w]
            rfl
          refine take_ (i := 3) (N := some 45) (v := ?_) (a' := ?_) #[true, true, true, true, false, true, true, true, false, false, false] rfl rfl (by kernel_rfl) (fun _ _ _ h => h) (Or.inl ⟨by rfl, ?_⟩) hHeld ?_ ?_
          rotate_left
          · intro w' hS'
            have c0' := pw_cell_below hS' c0; have c1' := pw_cell_below hS' c1; have c2' := pw_cell_below hS' c2; have c3' := pw_cell_below hS' c3
            go_simp
            with_reducible rfl
          rotate_left
          · simp only [Act.put, List.setIfInBounds_toArray, List.set_cons_zero, List.set_cons_succ, i64_w, i32_w]
            rfl
          refine take_ (i := 8) (N := some 50) (v := ?_) (a' := ?_) #[true, true, true, true, false, true, true, true, true, false, false] rfl rfl (by kernel_rfl) (fun _ _ _ h => h) (Or.inl ⟨by rfl, ?_⟩) hHeld ?_ ?_
          rotate_left
          · intro w' hS'
            have c0' := pw_cell_below hS' c0; have c1' := pw_cell_below hS' c1; have c2' := pw_cell_below hS' c2; have c3' := pw_cell_below hS' c3
            go_simp
            with_reducible rfl
          rotate_left
          · simp only [Act.put, List.setIfInBounds_toArray, List.set_cons_zero, List.set_cons_succ, i64_w, i32_w]
            rfl
          refine one_ (i := 4) (N := some 46) #[true, true, true, true, true, true, true, true, true, false, false] rfl rfl (by kernel_rfl) (by decide) (fun K hK => ?_)
          refine goes_ Tryz.func10 (by kernel_rfl) rfl #[.agg #[.int .i64 k1, .int .i64 a1, .int .i64 n1, .slice A1 l1.length d1]] (by rfl) rfl rfl (by simp [Act.eval]) ?_
          refine (HM1.out _ hS0.out).mono ?_
          rintro e x4 ⟨rfl, hb⟩
          refine ⟨_, rfl, ?_⟩
          have hSa := Aside0.mk (hS0.out.trans (hb.mono hS0.out.size))
          refine hK.out _ _ hSa.out (fun hHeld => ?_)
          clear hK K
          refine norm_ (a' := ?_) ?_ ?_
          rotate_left
          · show Act.put _ (some 46) _ = _
            simp only [Act.put, List.setIfInBounds_toArray, List.set_cons_zero, List.set_cons_succ, i64_w, i32_w]
            rfl
          refine one_ (i := 9) (N := some 51) #[true, true, true, true, true, true, true, true, true, true, false] rfl rfl (by kernel_rfl) (by decide) (fun K hK => ?_)
          refine goes_ Tryz.func11 (by kernel_rfl) rfl #[.agg #[.int .i64 k1, .int .i64 a1, .int .i64 n1, .slice A1 l1.length d1]] (by rfl) rfl rfl (by simp [Act.eval]) ?_
          refine (HM2.out _ hSa.out).mono ?_
          rintro e x9 ⟨rfl, hb⟩
          refine ⟨_, rfl, ?_⟩
          have hSb := Aside0.mk (hSa.out.trans (hb.mono hSa.out.size))
          refine hK.out _ _ hSb.out (fun hHeld => ?_)
          clear hK K
          refine norm_ (a' := ?_) ?_ ?_
          rotate_left
          · show Act.put _ (some 51) _ = _
            simp only [Act.put, List.setIfInBounds_toArray, List.set_cons_zero, List.set_cons_succ, i64_w, i32_w]
            rfl
          have hrr : (r == r) = true := beq_self_eq_true r
          refine pure_ (i := 10) (N := some 52) (v := ?_) (a' := ?_) #[true, true, true, true, true, true, true, true, true, true, true] rfl rfl (by kernel_rfl) (fun _ _ _ h => h) (Or.inl ⟨by rfl, ?_⟩) ?_ ?_
          rotate_left
          · intro w'
            go_simp
            with_reducible rfl
          rotate_left
          · simp only [Act.put, List.setIfInBounds_toArray, List.set_cons_zero, List.set_cons_succ, i64_w, i32_w]
            rfl
          clear hrr
          refine done_ (by kernel_rfl) ?_
          have HBb := Aside0.mk (bstep HB.out hSb.out)
          have hv1 := (HE.out.below HBb.out)
          have d0 := pw_cell_below hSb.out c0
          have e1 := pw_cell_below hSb.out c1
          have e2 := pw_cell_below hSb.out c2
          have e3 := pw_cell_below hSb.out c3
          clear c0 c1 c2 c3 hv1
          obtain ⟨t, ht⟩ : ∃ t, t = allB es k := ⟨_, rfl⟩
          rw [← ht] at HS ⊢
          clear ht
          cases t with
          | true =>
            go_wp2_with (first | (go_at_call 11; (with_reducible refine (HM2.out _ hSb.out).mono ?_); rintro e y1 ⟨rfl, hb⟩; have HBc := Aside0.mk (bstep HBb.out hb); clear hb))
            go_roundg (gk - 1)
            case measure => have := HI.out; omega
            case rel => exact ⟨k + 1, by rw [HS.out]; first | rfl | (cases r <;> rfl), by first | rfl | (rw [HW.out]), ⟨by have := HI.out; have := HK.out; omega, HK.out⟩, ⟨HBc.out⟩⟩
          | false =>
            go_wp2
            go_roundg (gk - 1)
            case measure => have := HI.out; omega
            case rel => exact ⟨k + 1, by rw [HS.out]; first | rfl | (cases r <;> rfl), by first | rfl | (rw [HW.out]), ⟨by have := HI.out; have := HK.out; omega, HK.out⟩, ⟨HBb.out⟩⟩
        · have hkk : k = es.length := by have := HI.out; omega
          subst hkk
          have hc0 : ((es.length : Int) < (es.length : Int)) = False := eq_false (Int.lt_irrefl _)
          have hc1 : decide ((es.length : Int) < (es.length : Int)) = false := decide_eq_false (Int.lt_irrefl _)
          have HT1 := Aside0.mk (fun (W : World) (h : Below w.heap.size w W) => text_calls A cp es W (HG.out.below h) (HE.out.below h) (tb_few HL60.out))
          have HT2 := Aside0.mk (fun (W : World) (h : Below w.heap.size w W) => text_ref A cp es W (HE.out.below h) HCP.out (by have := HL60.out; omega) (tb_few HL60.out))
          by_cases hall : ∀ x ∈ es, MayE x
          · have ha : allB es es.length = true := (allB_all es).2 hall
            rw [ha]
            have HALL := Aside0.mk hall
            have HSE := Aside0.mk (show textS es = ba (textL es) from by unfold textS; rw [if_pos hall])
            obtain ⟨S, hS⟩ : ∃ S, S = textS es := ⟨_, rfl⟩
            rw [← hS] at HT1 HT2 HSE
            have HSZ := Aside0.mk (show S.size ≤ 20000000 from by have h1 := textL_len es hall; have h2 := HL60.out; have h3 : es.length * 262181 ≤ 60 * 262181 := Nat.mul_le_mul_right _ h2; rw [HSE.out, L.ba_size]; omega)
            have HOF := Aside0.mk (fun (W : World) (h : Below w.heap.size w W) => show Calls Tryz.prog 6 #[.string S] W fun e w' => (∃ A' c', e = .returned (.tuple #[.slice A' es.length c', .int .i64 0]) ∧ ER w' A' es.length es ∧ es.length ≤ c') ∧ Below W.heap.size W w' from (of_calls S HSZ.out W (HG.out.below h)).mono fun e w' ⟨hb, h⟩ => by
              rcases h with ⟨es', A', c', he, her, hc', hm', ht'⟩ | ⟨_, hno⟩
              · have e1 : es' = es := text_inj hm' HALL.out (by rw [ht', HSE.out])
                subst e1
                exact ⟨⟨A', c', he, her, hc'⟩, hb⟩
              · exact absurd (by rw [HSE.out]) (hno es HALL.out))
            clear hall ha hS
            go_wp2_with (first | (go_at_call 12; (with_reducible refine (HT1.out _ HB.out).mono ?_); rintro x w1 ⟨rfl, hb⟩; have HB1 := Aside0.mk (bstep HB.out hb); clear hb) | (go_at_call 9; (with_reducible refine (HT2.out _ HB1.out).mono ?_); rintro x w2 ⟨rfl, hb⟩; have HB2 := Aside0.mk (bstep HB1.out hb); clear hb) | (go_at_call 6; (with_reducible refine (HOF.out _ HB2.out).mono ?_); rintro x w3 ⟨⟨A', c', rfl, her, hc'⟩, hb⟩; have HER := Aside0.mk her; have HCC := Aside0.mk hc'; have HB3 := Aside0.mk (bstep HB2.out hb); clear hb her hc') | (go_at_call 8; (with_reducible refine (same_ref A' A c' cp es es _ HER.out (HE.out.below HB3.out) HCC.out HCP.out (by have := HL60.out; omega)).mono ?_); rintro x w4 ⟨rfl, hb⟩; rw [(sameB_iff es es).2 rfl]; have HB4 := Aside0.mk (bstep HB3.out hb); have HER4 := Aside0.mk (HER.out.below hb); clear hb) | (go_at_call 13; (with_reducible refine (same_calls A' A c' cp es es _ HER4.out (HE.out.below HB4.out)).mono ?_); rintro x w5 ⟨rfl, hb⟩; rw [(sameB_iff es es).2 rfl]; have HB5 := Aside0.mk (bstep HB4.out hb); clear hb) | (go_at_call 5; (with_reducible refine (HN.out _ HB5.out).mono ?_); rintro x w9 ⟨rfl, hb⟩; have HB9 := Aside0.mk (bstep HB5.out hb); clear hb))
            go_ret
            exact ⟨rfl, HB9.out⟩
          · have ha : allB es es.length = false := by rw [Bool.eq_false_iff]; exact fun e => hall ((allB_all es).1 e)
            rw [ha]
            have hT0 : textS es = ⟨#[]⟩ := by unfold textS; rw [if_neg hall]
            rw [hT0] at HT1 HT2
            clear hall ha hT0
            go_wp2_with (first | (go_at_call 12; (with_reducible refine (HT1.out _ HB.out).mono ?_); rintro x w1 ⟨rfl, hb⟩; have HB1 := Aside0.mk (bstep HB.out hb); clear hb) | (go_at_call 9; (with_reducible refine (HT2.out _ HB1.out).mono ?_); rintro x w2 ⟨rfl, hb⟩; have HB2 := Aside0.mk (bstep HB1.out hb); clear hb) | (go_at_call 5; (with_reducible refine (HN.out _ HB2.out).mono ?_); rintro x w9 ⟨rfl, hb⟩; have HB9 := Aside0.mk (bstep HB2.out hb); clear hb))
            go_ret
            exact ⟨rfl, HB9.out⟩
end Go.Proofs.YtjapnbghnnbamaaGreatDoor.ZT
namespace Go.Proofs.YtjapnbghnnbamaaGreatDoor.ZE
open Go.RowKit Go.Joins Go.ChangeShapes Go.WideShapes Go.Deep Go.Proofs.YtjapnbghnnbamaaGreatDoorW.PrintWords Go.Proofs.YtjapnbghnnbamaaGreatDoor.Ext Go.Proofs.YtjapnbghnnbamaaGreatDoor.Q Go.Proofs.YtjapnbghnnbamaaGreatDoor.S
set_option linter.unusedVariables false
set_option linter.unusedSimpArgs false
theorem nb_of (l : List Int) (h : ∀ x ∈ l, (Lit.int .u8 x).wf = true) : ∃ bs : List UInt8, l = nb bs := by
  refine ⟨l.map fun x => UInt8.ofNat x.toNat, ?_⟩
  unfold nb
  rw [List.map_map]
  conv => lhs; rw [← List.map_id l]
  refine List.map_congr_left fun x hx => ?_
  have := h x hx
  simp [Lit.wf, IntKind.min, IntKind.max, IntKind.bits, IntKind.signed] at this
  simp
  omega
section
variable {H : Type} {enc : TypeId × Value → H} {W : World} {base : Nat} {held : Bool}
theorem bytes_of {fuel : Nat} {v : Value} {x : DataW H × List MemPlace} (h : DataW.trod enc Tryz.prog W base (fun _ => true) held fuel 33 [v] = some x) : ∃ b, Byt W v b := by
  rcases open_ints Tryz.underlying33 Tryz.underlying5 (by kernel_rfl) h with ⟨hcs, _⟩ | ⟨a, l, c, zs, hcs, _, hl, hm, hz, _, hcell, hwz⟩
  · obtain rfl := List.singleton_inj.1 hcs
    exact ⟨[], none, 0, rfl, Nat.le_refl _, ReadsInt.nil _ _⟩
  · obtain rfl := List.singleton_inj.1 hcs
    obtain ⟨l0, rfl, hr0, hm0, hw0, hc0⟩ := ReadsInt.ofRowC (k := .u8) (w := W) (a := some a) (len := l) (cap := c) (zs := zs) (.inr ⟨a, rfl, hl, hm, by simpa using hz, hcell, hwz⟩)
    obtain ⟨bs, rfl⟩ := nb_of l0 hw0
    exact ⟨bs, some a, c, by rw [nb_length], by rw [← nb_length]; exact hc0, by rw [nb_length] at hr0; exact hr0⟩
theorem ent_of {fuel : Nat} {c0 c1 c2 c3 : Value} {x : DataW H × List MemPlace} (h : DataW.trod enc Tryz.prog W base (fun _ => true) held fuel 35 [c0, c1, c2, c3] = some x) : ∃ e : En, c0 = .int .i64 e.k ∧ c1 = .int .i64 e.a ∧ c2 = .int .i64 e.n ∧ Byt W c3 e.b := by
  obtain ⟨y0, y1, y2, y3, n, _, _, t0, t1, t2, t3⟩ := trod_struct4 Tryz.underlying35 h
  obtain ⟨k, e0, _, _⟩ := DataW.trod_int Tryz.underlying32 t0
  obtain ⟨a, e1, _, _⟩ := DataW.trod_int Tryz.underlying3 t1
  obtain ⟨m, e2, _, _⟩ := DataW.trod_int Tryz.underlying2 t2
  have z0 : ([c0, c1, c2, c3].drop 0).take (Tryz.prog.cellsOf 32) = [c0] := by rw [show Tryz.prog.cellsOf 32 = 1 by kernel_rfl]; rfl
  have z1 : ([c0, c1, c2, c3].drop 1).take (Tryz.prog.cellsOf 3) = [c1] := by rw [show Tryz.prog.cellsOf 3 = 1 by kernel_rfl]; rfl
  have z2 : ([c0, c1, c2, c3].drop 2).take (Tryz.prog.cellsOf 2) = [c2] := by rw [show Tryz.prog.cellsOf 2 = 1 by kernel_rfl]; rfl
  have z3 : ([c0, c1, c2, c3].drop 3).take (Tryz.prog.cellsOf 33) = [c3] := by rw [show Tryz.prog.cellsOf 33 = 1 by kernel_rfl]; rfl
  have e0' := z0.symm.trans e0
  have e1' := z1.symm.trans e1
  have e2' := z2.symm.trans e2
  have t3' : DataW.trod enc Tryz.prog W base (fun _ => true) held n 33 [c3] = some y3 := z3 ▸ t3
  obtain ⟨b, hb⟩ := bytes_of t3'
  exact ⟨⟨k, a, m, b⟩, List.singleton_inj.1 e0', List.singleton_inj.1 e1', List.singleton_inj.1 e2', hb⟩
theorem ents_of {fuel : Nat} {cs : List Value} {x : DataW H × List MemPlace} (h : DataW.trod enc Tryz.prog W base (fun _ => true) held fuel 23 cs = some x) :
    cs = [.slice none 0 0] ∨ ∃ (ad : Addr) (len cap : Nat) (es : List En), cs = [.slice (some ad) len cap] ∧ len ≤ cap ∧ es.length = len ∧ ER W (some ad) len es := by
  rcases open_slice Tryz.underlying23 h with ⟨hcs, _⟩ | ⟨a, len, cap, m, n, D, Pl, hcs, hb, hl, hm, hmm, hx, hi⟩
  · exact .inl hcs
  · have hc4 : Tryz.prog.cellsOf 35 = 4 := by kernel_rfl
    simp only [if_true] at hmm
    have each : ∀ i, i < len → ∃ e : En, ∃ v, Byt W v e.b ∧ ∀ j u, (e.cs v)[j]? = some u → W.cell? (a.add (i * 4 + j)) = some u := fun i hil => by
      obtain ⟨cs', h1, h2⟩ := hi i (by omega)
      rw [hc4] at h1
      obtain ⟨_, hcl, hat⟩ := World.cells?_some h1
      match cs', hcl with
      | [c0, c1, c2, c3], _ =>
        obtain ⟨e, e0, e1, e2, hv⟩ := ent_of h2
        refine ⟨e, c3, hv, fun j u hu => ?_⟩
        have hj : j < 4 := by have := (List.getElem?_eq_some_iff.1 hu).1; simpa [En.cs] using this
        have := hat j hj
        rw [← Go.Deep.add_add, this]
        rw [e0, e1, e2]
        exact hu
    haveI : Inhabited En := ⟨⟨0, 0, 0, []⟩⟩
    obtain ⟨f, hf⟩ := choose_lt each
    refine .inr ⟨a, len, cap, (List.range len).map f, hcs, hl, by simp, ⟨by simp, by unfold maxLen at hm; omega, fun _ => ⟨a, rfl, fun j p hp => ?_⟩⟩⟩
    rw [List.getElem?_map] at hp
    obtain ⟨i, hi2, rfl⟩ := Option.map_eq_some_iff.1 hp
    obtain ⟨hlt, rfl⟩ := List.getElem?_eq_some_iff.1 hi2
    rw [List.length_range] at hlt
    rw [List.getElem_range]
    obtain ⟨v, hv, hc⟩ := hf j hlt
    exact ⟨_, rfl, ⟨v, rfl, hv⟩, hc⟩
end
def odometerlaw23_ScriptTexts.Pure : Prop := True
theorem odometerlaw23_ScriptTexts.walk (_P : odometerlaw23_ScriptTexts.Pure) (a0 : Option Addr) (len0 cap0 : Nat) (z0 : List En) (w : World) (w0 : (a0 = none ∧ len0 = 0 ∧ cap0 = 0 ∧ z0 = []) ∨ (len0 ≤ cap0 ∧ z0.length = len0 ∧ ER w a0 len0 z0)) (hG : Glob w) :
    Calls Tryz.prog 4 #[.slice a0 len0 cap0] w fun e w' => e = .returned (.bool true) ∧ Below w.heap.size w w' := by
  rcases w0 with ⟨rfl, rfl, rfl, rfl⟩ | ⟨hl, rfl, hE⟩
  · exact ZT.law_calls none 0 [] w hG ⟨rfl, by simp, fun h => absurd h (Nat.lt_irrefl 0)⟩ (Nat.le_refl _)
  · exact ZT.law_calls a0 cap0 z0 w hG hE hl
end Go.Proofs.YtjapnbghnnbamaaGreatDoor.ZE
