/- script.Text: a script's text. -/
import Derived.Test.YtjapnbghnnbamaaGreatDoorM
namespace Go.Proofs.YtjapnbghnnbamaaGreatDoor.T
open Go.RowKit Go.Proofs.YtjapnbghnnbamaaGreatDoorW.PrintWords Go.Proofs.YtjapnbghnnbamaaGreatDoorW.PrintLast Go.Proofs.YtjapnbghnnbamaaGreatDoor.Ext Go.Proofs.YtjapnbghnnbamaaGreatDoor.Q Go.Proofs.YtjapnbghnnbamaaGreatDoor.S Go.Proofs.YtjapnbghnnbamaaGreatDoor.L Go.Proofs.YtjapnbghnnbamaaGreatDoor.M
set_option linter.unusedVariables false
set_option linter.unusedSimpArgs false
/-- A script's text, where all its entries may be. -/
def textL (es : List En) : List UInt8 := es.flatMap fun e => lineL e ++ [10]
theorem textL_succ (es : List En) (k : Nat) (h : k < es.length) : textL (es.take (k + 1)) = textL (es.take k) ++ (lineL es[k] ++ [10]) := by
  unfold textL
  rw [List.take_succ_eq_append_getElem h, List.flatMap_append]
  simp
theorem textL_le (es : List En) (k : Nat) : (textL (es.take k)).length ≤ (textL es).length := by
  conv => rhs; rw [← List.take_append_drop k es]
  unfold textL
  rw [List.flatMap_append, List.length_append]
  omega
open Classical in
/-- A script's text, or none. -/
noncomputable def textS (es : List En) : ByteArray := if ∀ e ∈ es, MayE e then ba (textL es) else ⟨#[]⟩
/-- What may be is bounded, beginning by beginning. -/
def TB (es : List En) : Prop := ∀ k, k ≤ es.length → (∀ x ∈ es.take k, MayE x) → (textL (es.take k)).length ≤ 1000000000
theorem tb_of {es : List En} (h : (textL es).length ≤ 1000000000) : TB es := fun k _ _ => Nat.le_trans (textL_le es k) h
theorem may_t (e : En) (v : Value) (w : World) (hv : Byt w v e.b) (hm : MayE e) : Calls Tryz.prog 10 #[e.val v] w fun x w' => x = .returned (.bool true) ∧ Below w.heap.size w w' :=
  (may_calls e v w hv).mono fun x w' ⟨r, h, hr, hb⟩ => ⟨by rw [h, hr.2 hm], hb⟩
theorem may_f (e : En) (v : Value) (w : World) (hv : Byt w v e.b) (hm : ¬ MayE e) : Calls Tryz.prog 10 #[e.val v] w fun x w' => x = .returned (.bool false) ∧ Below w.heap.size w w' :=
  (may_calls e v w hv).mono fun x w' ⟨r, h, hr, hb⟩ => ⟨by rw [h]; cases r with | false => rfl | true => exact absurd (hr.1 rfl) hm, hb⟩
set_option maxHeartbeats 8000000 in
set_option maxRecDepth 100000 in
theorem text_some (b off cp : Nat) (es : List En) (w : World) (hG : Glob w) (hE : ER w (some ⟨b, off, none⟩) es.length es) (hT : TB es) :
    Calls Tryz.prog 12 #[.slice (some ⟨b, off, none⟩) es.length cp] w fun x w' => x = .returned (.string (textS es)) ∧ Below w.heap.size w w' := by
  have HE := Aside0.mk hE
  have HG := Aside0.mk hG
  have HT := Aside0.mk hT
  have HX : es.length ≤ 9223372036854775807 := hE.2.1
  clear hE hG hT
  go_enter Tryz.func12, Tryz.ntmps12
  go_wp2
  have HB := Aside0.mk (show Below w.heap.size w (w.alloc (.cells #[.pointer none, .slice none 0 0] 54)) from below_alloc (Below.refl _ _) _)
  have HBT := Aside0.mk (show BT w.heap.size (textL (es.take 0)) (w.alloc (.cells #[.pointer none, .slice none 0 0] 54)) from Lib.fresh_isBuilder 54 5 w)
  have HS := Aside0.mk (show w.heap.size ≤ (w.alloc (.cells #[.pointer none, .slice none 0 0] 54)).heap.size from HB.out.size)
  obtain ⟨g, hg⟩ : ∃ g, g = w.heap.size := ⟨_, rfl⟩
  have HGG := Aside0.mk hg
  rw [← hg] at HB HBT HS ⊢
  clear hg
  go_loopg [8] es.length (fun kq v8 w' => ∃ k : Nat, v8 = .int .i64 (k : Int) ∧ Aside0 (kq + k = es.length) ∧ Aside0 (∀ j (h : j < es.length), j < k → MayE es[j]) ∧ Aside0 (BT g (textL (es.take k)) w') ∧ Aside0 (Below g w w') ∧ Aside0 (g ≤ w'.heap.size))
  case atStart => exact ⟨0, rfl, ⟨rfl⟩, ⟨fun j h h0 => by omega⟩, HBT, HB, HS⟩
  case round =>
    clear HBT HB HS
    obtain ⟨k, rfl, HI, HM, HBT, HB, HS⟩ := hrel
    by_cases hk : k < es.length
    · have hc0 : ((k : Int) < (es.length : Int)) = True := eq_true (Int.ofNat_lt.2 hk)
      have hc1 : decide ((k : Int) < (es.length : Int)) = true := decide_eq_true (Int.ofNat_lt.2 hk)
      have hwi : wrap64 ((k : Int) + 1) = ((k + 1 : Nat) : Int) := wrap64_next k (by omega)
      obtain ⟨v1, hv1, p0, p1, p2, p3⟩ := (HE.out.below (HGG.out ▸ HB.out)).get k hk
      have hv1' := hv1
      obtain ⟨A1, d1, rfl, -, -⟩ := hv1'
      have HSU := Aside0.mk (textL_succ es k hk)
      have HLE := Aside0.mk (textL_le es (k + 1))
      have HMS := Aside0.mk (fun (hm : MayE es[k]) (j : Nat) (h : j < es.length) (hj : j < k + 1) => (show MayE es[j] from by rcases Nat.lt_or_eq_of_le (Nat.le_of_lt_succ hj) with h1 | h1; exact HM.out j h h1; subst h1; exact hm))
      have HMN := Aside0.mk (fun (hm : ¬ MayE es[k]) => (show textS es = ⟨#[]⟩ from if_neg (fun h => hm (h _ (List.getElem_mem hk)))))
      obtain ⟨x, hx⟩ : ∃ x, x = es[k] := ⟨_, rfl⟩
      rw [← hx] at hv1 p0 p1 p2 p3 HSU HMS HMN
      have HW := Aside0.mk hwi
      have HK := Aside0.mk hk
      clear hx hwi hk
      obtain ⟨k1, a1, n1, l1⟩ := x
      simp only at p0 p1 p2 p3 hv1
      go_upto_region 5 with (fail)
      obtain ⟨W1, hW1⟩ : ∃ W1, W1 = wr.alloc (Obj.cells #[.int .i64 k1, .int .i64 a1, .int .i64 n1, .slice A1 l1.length d1] 35) := ⟨_, rfl⟩
      obtain ⟨q, hq⟩ : ∃ q, q = wr.heap.size := ⟨_, rfl⟩
      have HL1 := Aside0.mk (show W1.heap[q]? = some (.cells #[.int .i64 k1, .int .i64 a1, .int .i64 n1, .slice A1 l1.length d1] 35 (0, 0)) from by rw [hW1, hq]; exact blk_new wr _)
      have HBW := Aside0.mk (show Below wr.heap.size wr W1 from by rw [hW1]; exact below_alloc (Below.refl _ _) _)
      rw [← hW1, ← hq]
      clear hW1 hq p0 p1 p2 p3
      have c0 : W1.cell? ⟨q, 0, none⟩ = some (.int .i64 k1) := (blk_cell HL1.out 0).trans rfl
      have c1 : W1.cell? ⟨q, 1, none⟩ = some (.int .i64 a1) := (blk_cell HL1.out 1).trans rfl
      have c2 : W1.cell? ⟨q, 2, none⟩ = some (.int .i64 n1) := (blk_cell HL1.out 2).trans rfl
      have c3 : W1.cell? ⟨q, 3, none⟩ = some (.slice A1 l1.length d1) := (blk_cell HL1.out 3).trans rfl
      have HV := Aside0.mk (hv1.below HBW.out)
      have HB1 := Aside0.mk (show Below g w W1 from HB.out.trans (HBW.out.mono HS.out))
      clear hv1
      by_cases hm : MayE ⟨k1, a1, n1, l1⟩
      · have HMT := Aside0.mk (may_t ⟨k1, a1, n1, l1⟩ _ W1 HV.out hm)
        have HMM := Aside0.mk hm
        unfold En.val at HMT
        simp only at HMT
        obtain ⟨S, hS⟩ : ∃ S, S = ba (lineL ⟨k1, a1, n1, l1⟩) := ⟨_, rfl⟩
        have HTB := Aside0.mk (show (textL (es.take (k + 1))).length ≤ 1000000000 from HT.out (k + 1) (Nat.succ_le_of_lt HK.out) (fun x hx => by
          obtain ⟨j, hj, rfl⟩ := List.getElem_of_mem hx
          rw [List.length_take] at hj
          rw [List.getElem_take]
          exact HMS.out hm j (by omega) (by omega)))
        have hz : S.size + 1 < 9223372036854775808 := by
          have h1 := HTB.out
          have h3 := ba_size (lineL ⟨k1, a1, n1, l1⟩)
          rw [HSU.out, List.length_append, List.length_append] at h1
          rw [hS]
          omega
        have HSS := Aside0.mk hS
        have HBN := Aside0.mk (show (Lib.byteCells (textL (es.take k))).length + (S ++ (⟨#[10]⟩ : ByteArray)).size ≤ 140737488355328 from by
          have h1 := HTB.out
          have h3 := ba_size (lineL ⟨k1, a1, n1, l1⟩)
          rw [HSU.out, List.length_append, List.length_append] at h1
          rw [Lib.byteCells_length, hS, ByteArray.size_append]
          show _ + (_ + 1) ≤ _
          omega)
        clear hm hS
        go_wp2_with (first | (go_at_call 10; (with_reducible refine HMT.out.mono ?_); rintro e w2 ⟨rfl, hb⟩; have HB2 := Aside0.mk (show Below wr.heap.size wr w2 from HBW.out.trans (hb.mono HBW.out.size)); have HLL := Aside0.mk (show Calls Tryz.prog 21 #[.agg #[.int .i64 k1, .int .i64 a1, .int .i64 n1, .slice A1 l1.length d1]] w2 fun x w' => x = .returned (.string S) ∧ Below w2.heap.size w2 w' from HSS.out ▸ line_calls ⟨k1, a1, n1, l1⟩ _ w2 (HG.out.low HGG.out (HB.out.trans (HB2.out.mono HS.out))) HMM.out (HV.out.below hb)); have c0' : w2.cell? ⟨q, 0, none⟩ = some (.int .i64 k1) := pw_cell_below hb c0; have c1' : w2.cell? ⟨q, 1, none⟩ = some (.int .i64 a1) := pw_cell_below hb c1; have c2' : w2.cell? ⟨q, 2, none⟩ = some (.int .i64 n1) := pw_cell_below hb c2; have c3' : w2.cell? ⟨q, 3, none⟩ = some (.slice A1 l1.length d1) := pw_cell_below hb c3; clear hb) | (go_at_call 21; (with_reducible refine HLL.out.mono ?_); rintro e w3 ⟨rfl, hb⟩; have HB3 := Aside0.mk (show Below wr.heap.size wr w3 from HB2.out.trans (hb.mono HB2.out.size)); have HBT3 := Aside0.mk (bt_keep HBT.out HB3.out); have HS3 := Aside0.mk (show g ≤ w3.heap.size from Nat.le_trans HS.out HB3.out.size); clear hb) | (go_at_call 20; (with_reducible refine (Tryz.Builder_WriteString g g _ _ _ HBT3.out HBN.out HS3.out).mono ?_); rintro e w4 ⟨rfl, hB4, hb4⟩; have HBB := Aside0.mk hB4; have HW4 := Aside0.mk hb4; clear hB4 hb4))
        go_roundg (gk - 1)
        case measure => have := HI.out; have := HK.out; omega
        case rel => exact ⟨k + 1, by first | rfl | (rw [HW.out]; done), ⟨by have := HI.out; have := HK.out; omega⟩, ⟨HMS.out HMM.out⟩, ⟨by rw [HSU.out]; exact bt_of HBB.out (by rw [Lib.byteCells_append, HSS.out]; simp [Lib.strCells, Lib.byteCells])⟩, ⟨HB.out.trans ((HB3.out.mono HS.out).trans HW4.out)⟩, ⟨Nat.le_trans HS3.out HW4.out.size⟩⟩
      · have HMT := Aside0.mk (may_f ⟨k1, a1, n1, l1⟩ _ W1 HV.out hm)
        unfold En.val at HMT
        simp only at HMT
        have HNO := Aside0.mk (HMN.out hm)
        clear hm
        go_wp2_with (first | (go_at_call 10; (with_reducible refine HMT.out.mono ?_); rintro e w2 ⟨rfl, hb⟩; have HB2 := Aside0.mk (show Below wr.heap.size wr w2 from HBW.out.trans (hb.mono HBW.out.size)); clear hb))
        go_ret
        exact ⟨by rw [HNO.out]; rfl, HGG.out ▸ HB.out.trans (HB2.out.mono HS.out)⟩
    · have hkk : k = es.length := by have := HI.out; omega
      subst hkk
      have hc0 : ((es.length : Int) < (es.length : Int)) = False := eq_false (Int.lt_irrefl _)
      have HTS := Aside0.mk (show textS es = ba (textL es) from by unfold textS; rw [if_pos]; intro e he; obtain ⟨j, hj, rfl⟩ := List.getElem_of_mem he; exact HM.out j hj hj)
      go_wp2_with (first | (go_at_call 22; (with_reducible refine (Tryz.Builder_String_any g g _ _ HBT.out HS.out).mono ?_); rintro e w3 ⟨rfl, hb3⟩; have HW3 := Aside0.mk hb3; clear hb3))
      go_ret
      exact ⟨by rw [HTS.out]; rfl, HGG.out ▸ HB.out.trans HW3.out⟩
set_option maxHeartbeats 4000000 in
set_option maxRecDepth 100000 in
theorem text_nil (A : Option Addr) (cp : Nat) (w : World) :
    Calls Tryz.prog 12 #[.slice A 0 cp] w fun x w' => x = .returned (.string ⟨#[]⟩) ∧ Below w.heap.size w w' := by
  have HBT := Aside0.mk (show BT w.heap.size [] (w.alloc (.cells #[.pointer none, .slice none 0 0] 54)) from Lib.fresh_isBuilder 54 5 w)
  have HB := Aside0.mk (show Below w.heap.size w (w.alloc (.cells #[.pointer none, .slice none 0 0] 54)) from below_alloc (Below.refl _ _) _)
  go_enter Tryz.func12, Tryz.ntmps12
  go_wp2
  refine wp_loop_rounds 1 ?_
  rw [rounds_succ]
  go_wp2_with (first | (go_at_call 22; (with_reducible refine (Tryz.Builder_String_any w.heap.size w.heap.size [] _ HBT.out HB.out.size).mono ?_); rintro e w3 ⟨rfl, hb3⟩; have HW3 := Aside0.mk hb3; clear hb3))
  go_ret
  exact ⟨rfl, HB.out.trans HW3.out⟩
/-- script.Text, of any row of entries. -/
theorem text_calls (A : Option Addr) (cp : Nat) (es : List En) (w : World) (hG : Glob w) (hE : ER w A es.length es) (hT : TB es) :
    Calls Tryz.prog 12 #[.slice A es.length cp] w fun x w' => x = .returned (.string (textS es)) ∧ Below w.heap.size w w' := by
  rcases Nat.eq_zero_or_pos es.length with h0 | h0
  · obtain rfl := List.length_eq_zero_iff.1 h0
    have : textS [] = ⟨#[]⟩ := if_pos (fun e he => by cases he)
    rw [this]
    exact text_nil A cp w
  · obtain ⟨a, rfl, _⟩ := hE.2.2 h0
    have ea := hE.plain h0
    rw [ea] at hE ⊢
    exact text_some _ _ cp es w hG hE hT
end Go.Proofs.YtjapnbghnnbamaaGreatDoor.T
