/- The laws' 'known': the chapter's row. -/
import Derived.Test.YtjapnbghnnbamaaDoorT
namespace Go.Proofs.YtjapnbghnnbamaaDoor.Kn
open Go.RowKit Go.Proofs.YtjapnbghnnbamaaDoorW.PrintWords Go.Proofs.YtjapnbghnnbamaaDoorW.PrintLast Go.Proofs.YtjapnbghnnbamaaDoor.Ext Go.Proofs.YtjapnbghnnbamaaDoor.Q Go.Proofs.YtjapnbghnnbamaaDoor.S Go.Proofs.YtjapnbghnnbamaaDoor.L Go.Proofs.YtjapnbghnnbamaaDoor.M Go.Proofs.YtjapnbghnnbamaaDoor.T
set_option linter.unusedVariables false
set_option linter.unusedSimpArgs false
theorem er_one (w : World) (e : En) (v : Value) (hv : Byt w v e.b) : ER (w.alloc (.cells #[.int .i64 e.k, .int .i64 e.a, .int .i64 e.n, v] 29)) (some ⟨w.heap.size, 0, none⟩) 1 [e] := by
  refine ⟨rfl, by decide, fun _ => ⟨_, rfl, fun j p hj => ?_⟩⟩
  match j, hj with
  | 0, hj =>
    obtain rfl := Option.some.inj hj
    refine ⟨En.cs e v, rfl, ⟨v, rfl, hv.below (below_alloc (Below.refl _ _) _)⟩, fun i u hu => ?_⟩
    rw [Go.WideShapes.add_plain]
    have hb : (w.alloc (.cells #[.int .i64 e.k, .int .i64 e.a, .int .i64 e.n, v] 29)).heap[w.heap.size]? = some (.cells #[.int .i64 e.k, .int .i64 e.a, .int .i64 e.n, v] 29 (0, 0)) := blk_new w _
    rw [blk_cell hb]
    match i, hu with
    | 0, hu => exact hu
    | 1, hu => exact hu
    | 2, hu => exact hu
    | 3, hu => exact hu
  | j + 1, hj => simp at hj
/-- The chapter's entry. -/
def kE : En := ⟨6, 1, 0, [97, 13, 10, 0]⟩
theorem kE_text : textS [kE] = ⟨#[98, 121, 116, 101, 115, 32, 49, 32, 34, 97, 92, 114, 92, 110, 92, 120, 48, 48, 34, 10]⟩ := by
  have hm : ∀ e ∈ [kE], MayE e := by
    intro e he
    simp only [List.mem_singleton] at he
    subst he
    unfold MayE kE
    simp
  unfold textS
  rw [if_pos hm]
  have h1 : Lib.itoa 1 = [49] := by simp [Lib.itoa, Lib.decDigits]
  unfold textL
  simp only [List.flatMap_cons, List.flatMap_nil, kE, lineL, h1]
  rfl
theorem kE_len : (textL [kE]).length ≤ 1000000000 := by
  have h1 : Lib.itoa 1 = [49] := by simp [Lib.itoa, Lib.decDigits]
  unfold textL
  simp only [List.flatMap_cons, List.flatMap_nil, kE, lineL, h1]
  decide
theorem text_one (A : Option Addr) (cp : Nat) (es : List En) (w : World) (hG : Glob w) (hE : ER w A 1 es) (hT : (textL es).length ≤ 1000000000) :
    Calls Tryd.prog 10 #[.slice A 1 cp] w fun x w' => x = .returned (.string (textS es)) ∧ Below w.heap.size w w' := by
  have h1 : es.length = 1 := hE.1
  have h := text_calls A cp es w hG (h1.symm ▸ hE) hT
  rw [h1] at h
  exact h
set_option maxHeartbeats 4000000 in
set_option maxRecDepth 100000 in
theorem known_calls (w : World) (hG : Glob w) : Calls Tryd.prog 4 #[] w fun x w' => x = .returned (.bool true) ∧ Below w.heap.size w w' := by
  have HG := Aside0.mk hG
  clear hG
  go_enter Tryd.func4, Tryd.ntmps4
  go_wp2_with (first | ((with_reducible refine gate_dst (N := 1) rfl ?_); refine lit_marked (xs := ([97, 13, 10, 0] : List Int)) (inner := [.int .u8 97, .int .u8 13, .int .u8 10, .int .u8 0]) ?hl1 ?hl2 (N1 := 1) ?hl3 ?hl4 Tryd.underlying22 Tryd.underlying5 [97, 13, 10, 0] rfl rfl ?hl5 ?hl6 ?hl7 ?_; (case hl1 => rfl); (case hl2 => rfl); (case hl3 => rfl); (case hl4 => rfl); (case hl5 => first | (go_simp; done) | (go_simp; rfl)); (case hl6 => exact fun _ => rfl); (case hl7 => simp); intro v1 w5 ho0 hb; obtain ⟨A6, c6, e6⟩ := Kd.V_slice ho0; subst e6; have HV := Aside0.mk (Kd.V_reads' ho0); have HB5 := Aside0.mk hb; have HT := Aside0.mk (text_one (some ⟨w5.heap.size, 0, none⟩) 1 [kE] (w5.alloc (.cells #[.int .i64 6, .int .i64 1, .int .i64 0, .slice A6 4 c6] 29)) ((HG.out.below hb).below (below_alloc (Below.refl _ _) _)) (er_one w5 kE _ ⟨A6, c6, rfl, (Kd.V_reads' ho0).2.1, Kd.reads_of_C (d := (0 : Int)) (Kd.V_reads' ho0).2.2⟩) kE_len); rw [kE_text] at HT; clear ho0 hb) | (go_at_call 10; (with_reducible refine HT.out.mono ?_); rintro e w6 ⟨rfl, hb⟩; have HB6 := Aside0.mk (show Below w.heap.size w w6 from HB5.out.trans (((show Below w5.heap.size w5 _ from below_alloc (Below.refl _ _) _).trans (hb.mono (by simp))).mono HB5.out.size)); clear hb))
  go_ret
  exact ⟨rfl, HB6.out⟩
end Go.Proofs.YtjapnbghnnbamaaDoor.Kn
