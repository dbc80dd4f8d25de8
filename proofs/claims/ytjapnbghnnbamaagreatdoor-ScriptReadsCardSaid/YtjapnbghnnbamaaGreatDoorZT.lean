/- The laws' 'known': the chapter's row. -/
import Derived.Test.YtjapnbghnnbamaaGreatDoorT
import Derived.Test.YtjapnbghnnbamaaGreatDoorOf
import Derived.Test.YtjapnbghnnbamaaGreatDoorRt
namespace Go.Proofs.YtjapnbghnnbamaaGreatDoor.Kn
open Go.RowKit Go.Proofs.YtjapnbghnnbamaaGreatDoorW.PrintWords Go.Proofs.YtjapnbghnnbamaaGreatDoorW.PrintLast Go.Proofs.YtjapnbghnnbamaaGreatDoor.Ext Go.Proofs.YtjapnbghnnbamaaGreatDoor.Q Go.Proofs.YtjapnbghnnbamaaGreatDoor.S Go.Proofs.YtjapnbghnnbamaaGreatDoor.L Go.Proofs.YtjapnbghnnbamaaGreatDoor.M Go.Proofs.YtjapnbghnnbamaaGreatDoor.T
set_option linter.unusedVariables false
set_option linter.unusedSimpArgs false
theorem er_one (w : World) (e : En) (v : Value) (hv : Byt w v e.b) : ER (w.alloc (.cells #[.int .i64 e.k, .int .i64 e.a, .int .i64 e.n, v] 35)) (some ⟨w.heap.size, 0, none⟩) 1 [e] := by
  refine ⟨rfl, by decide, fun _ => ⟨_, rfl, fun j p hj => ?_⟩⟩
  match j, hj with
  | 0, hj =>
    obtain rfl := Option.some.inj hj
    refine ⟨En.cs e v, rfl, ⟨v, rfl, hv.below (below_alloc (Below.refl _ _) _)⟩, fun i u hu => ?_⟩
    rw [Go.WideShapes.add_plain]
    have hb : (w.alloc (.cells #[.int .i64 e.k, .int .i64 e.a, .int .i64 e.n, v] 35)).heap[w.heap.size]? = some (.cells #[.int .i64 e.k, .int .i64 e.a, .int .i64 e.n, v] 35 (0, 0)) := blk_new w _
    rw [blk_cell hb]
    match i, hu with
    | 0, hu => exact hu
    | 1, hu => exact hu
    | 2, hu => exact hu
    | 3, hu => exact hu
  | j + 1, hj => simp at hj
/-- The chapter's entry. -/
def kE : En := ⟨6, 1, 0, [97, 13, 10, 0]⟩
theorem kE_text : textS [kE] = ⟨#[98, 121, 116, 101, 115, 32, 49, 32, 34, 97, 92, 114, 92, 110, 92, 120, 48, 48, 34, 10]⟩ := by
  have hm : ∀ e ∈ [kE], MayE e := by
    intro e he
    simp only [List.mem_singleton] at he
    subst he
    unfold MayE kE
    simp
  unfold textS
  rw [if_pos hm]
  have h1 : Lib.itoa 1 = [49] := by simp [Lib.itoa, Lib.decDigits]
  unfold textL
  simp only [List.flatMap_cons, List.flatMap_nil, kE, lineL, h1]
  rfl
theorem kE_len : (textL [kE]).length ≤ 1000000000 := by
  have h1 : Lib.itoa 1 = [49] := by simp [Lib.itoa, Lib.decDigits]
  unfold textL
  simp only [List.flatMap_cons, List.flatMap_nil, kE, lineL, h1]
  decide
theorem text_one (A : Option Addr) (cp : Nat) (es : List En) (w : World) (hG : Glob w) (hE : ER w A 1 es) (hT : (textL es).length ≤ 1000000000) :
    Calls Tryz.prog 12 #[.slice A 1 cp] w fun x w' => x = .returned (.string (textS es)) ∧ Below w.heap.size w w' := by
  have h1 : es.length = 1 := hE.1
  have h := text_calls A cp es w hG (h1.symm ▸ hE) (tb_of hT)
  rw [h1] at h
  exact h
set_option maxHeartbeats 4000000 in
set_option maxRecDepth 100000 in
theorem known_calls (w : World) (hG : Glob w) : Calls Tryz.prog 5 #[] w fun x w' => x = .returned (.bool true) ∧ Below w.heap.size w w' := by
  have HG := Aside0.mk hG
  clear hG
  go_enter Tryz.func5, Tryz.ntmps5
  go_wp2_with (first | ((with_reducible refine gate_dst (N := 1) rfl ?_); refine lit_marked (xs := ([97, 13, 10, 0] : List Int)) (inner := [.int .u8 97, .int .u8 13, .int .u8 10, .int .u8 0]) ?hl1 ?hl2 (N1 := 1) ?hl3 ?hl4 Tryz.underlying33 Tryz.underlying5 [97, 13, 10, 0] rfl rfl ?hl5 ?hl6 ?hl7 ?_; (case hl1 => rfl); (case hl2 => rfl); (case hl3 => rfl); (case hl4 => rfl); (case hl5 => first | (go_simp; done) | (go_simp; rfl)); (case hl6 => exact fun _ => rfl); (case hl7 => simp); intro v1 w5 ho0 hb; obtain ⟨A6, c6, e6⟩ := Kd.V_slice ho0; subst e6; have HV := Aside0.mk (Kd.V_reads' ho0); have HB5 := Aside0.mk hb; have HT := Aside0.mk (text_one (some ⟨w5.heap.size, 0, none⟩) 1 [kE] (w5.alloc (.cells #[.int .i64 6, .int .i64 1, .int .i64 0, .slice A6 4 c6] 35)) ((HG.out.below hb).below (below_alloc (Below.refl _ _) _)) (er_one w5 kE _ ⟨A6, c6, rfl, (Kd.V_reads' ho0).2.1, Kd.reads_of_C (d := (0 : Int)) (Kd.V_reads' ho0).2.2⟩) kE_len); rw [kE_text] at HT; clear ho0 hb) | (go_at_call 12; (with_reducible refine HT.out.mono ?_); rintro e w6 ⟨rfl, hb⟩; have HB6 := Aside0.mk (show Below w.heap.size w w6 from HB5.out.trans (((show Below w5.heap.size w5 _ from below_alloc (Below.refl _ _) _).trans (hb.mono (by simp))).mono HB5.out.size)); clear hb))
  go_ret
  exact ⟨rfl, HB6.out⟩
end Go.Proofs.YtjapnbghnnbamaaGreatDoor.Kn
namespace Go.Proofs.YtjapnbghnnbamaaGreatDoor.ZT
open Go.RowKit Go.Proofs.YtjapnbghnnbamaaGreatDoorW.PrintWords Go.Proofs.YtjapnbghnnbamaaGreatDoorW.PrintLast Go.Proofs.YtjapnbghnnbamaaGreatDoor.Ext Go.Proofs.YtjapnbghnnbamaaGreatDoor.Q Go.Proofs.YtjapnbghnnbamaaGreatDoor.S Go.Proofs.YtjapnbghnnbamaaGreatDoor.K Go.Proofs.YtjapnbghnnbamaaGreatDoor.L Go.Proofs.YtjapnbghnnbamaaGreatDoor.T Go.Proofs.YtjapnbghnnbamaaGreatDoor.W Go.Proofs.YtjapnbghnnbamaaGreatDoor.Of Go.Proofs.YtjapnbghnnbamaaGreatDoor.PR Go.Proofs.YtjapnbghnnbamaaGreatDoor.Kn
open Go.Proofs.YtjapnbghnnbamaaGreatDoor.Rt (so may_ev text_ev same_ev)
open Go.Proofs.YtjapnbghnnbamaaGreatDoor.R (nbl)
set_option linter.unusedVariables false
set_option linter.unusedSimpArgs false
noncomputable def mayB (e : En) : Bool := @decide (MayE e) (Classical.propDecidable _)
theorem mayB_iff (e : En) : mayB e = true ↔ MayE e := by unfold mayB; exact @decide_eq_true_iff (MayE e) (Classical.propDecidable _)
theorem mayB_eq {e : En} {r : Bool} (h : r = true ↔ MayE e) : r = mayB e := by rw [Bool.eq_iff_iff, h, mayB_iff]
theorem nbl_nb (b : List UInt8) : nbl b = nb b := rfl
theorem byt_open {w : World} {v : Value} {b : List UInt8} (h : Byt w v b) : ∃ A c, v = .slice A (nbl b).length c ∧ Kd.C (Kd.int .u8) w A (nbl b).length (nbl b) ∧ (nbl b).length ≤ c := by
  obtain ⟨A, c, rfl, hc, hr⟩ := h
  have e : (nbl b).length = b.length := by simp [nbl]
  exact ⟨A, c, by rw [e], Kd.C_of_reads (d := (0 : Int)) (h1 := fun _ => rfl) (by rw [e, nbl_nb]; exact hr), by omega⟩
theorem may_own (e : En) (v : Value) (w : World) (hv : Byt w v e.b) : Calls Tryz.prog 10 #[.agg #[.int .i64 e.k, .int .i64 e.a, .int .i64 e.n, v]] w fun x w' => x = .returned (.bool (mayB e)) ∧ Below w.heap.size w w' :=
  (M.may_calls e v w hv).mono fun x w' ⟨r, h, hr, hb⟩ => ⟨by rw [h, mayB_eq hr], hb⟩
theorem may_ref (e : En) (v : Value) (w : World) (hv : Byt w v e.b) : Calls Tryz.prog 11 #[.agg #[.int .i64 e.k, .int .i64 e.a, .int .i64 e.n, v]] w fun x w' => x = .returned (.bool (mayB e)) ∧ Below w.heap.size w w' := by
  obtain ⟨A, c, rfl, h1, h2⟩ := byt_open hv
  obtain ⟨r, hr, hm⟩ := may_ev e.k e.a e.n e.b
  obtain ⟨j, hj⟩ := hr.rounds
  rw [← mayB_eq hm]
  exact odometerref23_May.calls j _ _ _ A c _ r w h1 h2 hj
theorem er_C {w : World} {A : Option Addr} {n : Nat} {es : List En} (h : ER w A n es) : Kd.C k35 w A n (es.map so) := by
  refine ⟨by rw [List.length_map]; exact h.1, h.2.1, fun hn => ?_⟩
  obtain ⟨ad, e, hc⟩ := h.2.2 hn
  refine ⟨ad, e, fun j p hp => ?_⟩
  rw [List.getElem?_map] at hp
  obtain ⟨x, hx, rfl⟩ := Option.map_eq_some_iff.1 hp
  obtain ⟨cs, hl, ⟨v, rfl, hv⟩, hcell⟩ := hc j x hx
  obtain ⟨A1, c1, rfl, h1, h2⟩ := byt_open hv
  exact ⟨_, hl, k35_mk w (so x) h2 h1, hcell⟩
theorem text_ref (A : Option Addr) (cp : Nat) (es : List En) (w : World) (hE : ER w A es.length es) (hc : es.length ≤ cp) (hl : es.length ≤ 1000000) (hT : TB es) :
    Calls Tryz.prog 9 #[.slice A es.length cp] w fun x w' => x = .returned (.string (textS es)) ∧ Below w.heap.size w w' := by
  obtain ⟨j, hj⟩ := (text_ev es hl hT).rounds
  have := odometerref23_Text.calls j A cp (es.map so) _ w (by rw [List.length_map]; exact er_C hE) (by rw [List.length_map]; exact hc) hj
  rwa [List.length_map] at this
theorem same_ref (A B : Option Addr) (c1 c2 : Nat) (xs ys : List En) (w : World) (hx : ER w A xs.length xs) (hy : ER w B ys.length ys) (h1 : xs.length ≤ c1) (h2 : ys.length ≤ c2) (hl : xs.length ≤ 1000000) :
    Calls Tryz.prog 8 #[.slice A xs.length c1, .slice B ys.length c2] w fun x w' => x = .returned (.bool (sameB xs ys)) ∧ Below w.heap.size w w' := by
  obtain ⟨j, hj⟩ := (same_ev xs ys hl).rounds
  have := odometerref23_Same.calls j A c1 (xs.map so) B c2 (ys.map so) _ w (by rw [List.length_map]; exact er_C hx) (by rw [List.length_map]; exact h1) (by rw [List.length_map]; exact er_C hy) (by rw [List.length_map]; exact h2) hj
  rw [List.length_map, List.length_map] at this
  exact this.mono fun e w' ⟨h, hd⟩ => ⟨h, hd.below⟩
theorem line_le {e : En} (h : MayE e) : (lineL e).length ≤ 262180 := by
  have h1 := kn_size e.k
  have e1 : (kn e.k).data.toList.length = (kn e.k).size := (Lib.size_eq _).symm
  rw [lineL_eq, List.length_append, List.length_cons]
  have ha := h.2.2.1
  have ha2 := h.2.2.2.1
  have hi := Lib.itoa_length_le e.a (by omega) (by omega)
  unfold tailL
  split
  · rename_i hk
    have hn := may_tick h hk
    have := Lib.itoa_length_le e.n (by omega) (by omega)
    omega
  · split
    · split <;> (simp; omega)
    · split
      · rename_i hk
        have hb := may_bytes h hk
        have hq := quote_len e.b
        rw [List.length_append, List.length_cons]
        omega
      · omega
theorem textL_len : ∀ (es : List En), (∀ x ∈ es, MayE x) → (textL es).length ≤ es.length * 262181
  | [], _ => Nat.le_refl _
  | e :: es, h => by
    have h1 := line_le (h e (by simp))
    have h2 := textL_len es (fun x hx => h x (by simp [hx]))
    have e1 : textL (e :: es) = (lineL e ++ [10]) ++ textL es := by unfold textL; rw [List.flatMap_cons]
    rw [e1, List.length_append, List.length_append, List.length_cons]
    simp only [List.length_cons, List.length_nil]
    omega
theorem tb_few {es : List En} (h : es.length ≤ 60) : TB es := fun k hk hm => by
  have h1 := textL_len (es.take k) hm
  have h2 : (es.take k).length ≤ 60 := by rw [List.length_take]; omega
  have h3 : (es.take k).length * 262181 ≤ 60 * 262181 := Nat.mul_le_mul_right _ h2
  omega
theorem bstep {w w1 w2 : World} (h : Below w.heap.size w w1) (hb : Below w1.heap.size w1 w2) : Below w.heap.size w w2 := h.trans (hb.mono h.size)
noncomputable def allB (es : List En) (k : Nat) : Bool := (es.take k).all mayB
theorem allB_succ (es : List En) (k : Nat) (h : k < es.length) : allB es (k + 1) = (allB es k && mayB es[k]) := by
  unfold allB
  rw [List.take_succ_eq_append_getElem h, List.all_append]
  simp
theorem allB_all (es : List En) : allB es es.length = true ↔ ∀ x ∈ es, MayE x := by
  unfold allB
  rw [List.take_length, List.all_eq_true]
  exact ⟨fun h x hx => (mayB_iff x).1 (h x hx), fun h x hx => (mayB_iff x).2 (h x hx)⟩
end Go.Proofs.YtjapnbghnnbamaaGreatDoor.ZT
