/- The law's known rows, and what a decoder that is not there answers. -/
import Derived.Test.YtfpcoanlkfgagaaDoorDecQ
import Derived.Laws.EntriesVeiled
import Derived.Lib.SlBytesConst
import Derived.Below
import Derived.Deep.Draws
import Derived.Deep.AppendLies
import Derived.Maps.AppendAt
import Derived.OwnWalk
import Derived.Laws.BytesArg
import Derived.Laws.MakeOwn
import Derived.Laws.OwnMore
import Derived.Deep.OwnRows
import Derived.Tactics
import Derived.Lib.ConvBytes
import Derived.Laws.Slices
import Derived.WalkKit
import Derived.KernelRfl
import Derived.RowKit3
import Derived.Deep.LoopGhost
import Derived.Deep.QuietTactic
import Derived.BigQuiet
import Derived.WideLaws
import Derived.Deep.DeepCutAuto
import Derived.Deep.CutBlock
import Derived.Deep.RegionHeld3
import Derived.Laws.Rows
import Derived.Lib.AppendStr
import Derived.ArgAppend
import Derived.Laws.IdiomCopy
import Derived.OrdersHeld
import Derived.Laws.BitsLemmas
import Derived.RowKit
import Derived.WalkMore
import Derived.Test.YtfpcoanlkfgagaaDoorWWords
import Derived.Test.YtfpcoanlkfgagaaDoorWLast
import Derived.Test.YtfpcoanlkfgagaaDoorWMore
import Derived.Test.YtfpcoanlkfgagaaDoorWTab
namespace Go.Proofs.YtfpcoanlkfgagaaDoor.DecK
open Go.RowKit Go.Proofs.YtfpcoanlkfgagaaDoorW.PrintWords Go.Proofs.YtfpcoanlkfgagaaDoorW.PrintLast Go.Proofs.YtfpcoanlkfgagaaDoor.Ext Go.Proofs.YtfpcoanlkfgagaaDoor.Dec Go.Proofs.YtfpcoanlkfgagaaDoor.DecW Go.Proofs.YtfpcoanlkfgagaaDoor.DecA Go.Proofs.YtfpcoanlkfgagaaDoor.DecB Go.Proofs.YtfpcoanlkfgagaaDoor.DecT Go.Proofs.YtfpcoanlkfgagaaDoor.DecN Go.Proofs.YtfpcoanlkfgagaaDoor.DecS Go.Proofs.YtfpcoanlkfgagaaDoor.DecR Go.Proofs.YtfpcoanlkfgagaaDoor.DecP Go.Proofs.YtfpcoanlkfgagaaDoor.DecQ
set_option linter.unusedVariables false
set_option linter.unusedSimpArgs false
/-! ### the three decoders, plainly -/
theorem digits2 : digits [50] = some (2, true) := by decide +kernel
theorem digits0 : digits [48] = some (0, true) := by decide +kernel
theorem digitsg : digits [103] = some (0, false) := by decide +kernel
theorem text_x : mayText.f ⟨#[120, 61, 49]⟩ = some true := evT_eq (PA.head_MayText.mono _) (k := 9) (by decide +kernel)
theorem num_2 : num [50, 59, 120, 61, 49, 13, 10] = some (2, true) := by
  have h1 : (strOfNums [50, 59, 120, 61, 49, 13, 10]) = ⟨#[50, 59, 120, 61, 49, 13, 10]⟩ := by rfl
  have h2 : Lib.hasSuffix (⟨#[50, 59, 120, 61, 49, 13, 10]⟩ : ByteArray).data.toList [13, 10] = true := by decide +kernel
  have h3 : Lib.cut (lineS ⟨#[50, 59, 120, 61, 49, 13, 10]⟩) [59] = ([50], [120, 61, 49], true) := by decide +kernel
  have h4 : signS ⟨#[50, 59, 120, 61, 49, 13, 10]⟩ = [50] := by decide +kernel
  unfold num numF
  rw [h1, if_pos (by decide), if_neg (by rw [h2]; decide), h3, if_pos rfl, h4, text_x]
  simp [digits2]
theorem num_0 : num [48, 13, 10] = some (0, true) := by
  have h1 : (strOfNums [48, 13, 10]) = ⟨#[48, 13, 10]⟩ := by rfl
  have h2 : Lib.hasSuffix (⟨#[48, 13, 10]⟩ : ByteArray).data.toList [13, 10] = true := by decide +kernel
  have h3 : Lib.cut (lineS ⟨#[48, 13, 10]⟩) [59] = ([48], [], false) := by decide +kernel
  have h4 : signS ⟨#[48, 13, 10]⟩ = [48] := by decide +kernel
  unfold num numF
  rw [h1, if_pos (by decide), if_neg (by rw [h2]; decide), h3, if_neg (by decide), h4, digits0]
theorem num_g : num [103, 13, 10] = some (0, false) := by
  have h1 : (strOfNums [103, 13, 10]) = ⟨#[103, 13, 10]⟩ := by rfl
  have h2 : Lib.hasSuffix (⟨#[103, 13, 10]⟩ : ByteArray).data.toList [13, 10] = true := by decide +kernel
  have h3 : Lib.cut (lineS ⟨#[103, 13, 10]⟩) [59] = ([103], [], false) := by decide +kernel
  have h4 : signS ⟨#[103, 13, 10]⟩ = [103] := by decide +kernel
  unfold num numF
  rw [h1, if_pos (by decide), if_neg (by rw [h2]; decide), h3, if_neg (by decide), h4, digitsg]
theorem tr_end : tr [13, 10] = some 0 := by
  have h1 : (strOfNums [13, 10]) = ⟨#[13, 10]⟩ := by rfl
  have h2 : Lib.hasSuffix (⟨#[13, 10]⟩ : ByteArray).data.toList [13, 10] = true := by decide +kernel
  have h3 : lineS ⟨#[13, 10]⟩ = [] := by decide +kernel
  unfold tr trF
  rw [h1, if_pos (by decide), if_pos h2, if_pos h3]
def endD1 : D := ⟨.nil, 10, 0, 0, [], 0, [97, 98, 99], false, true, 0⟩
def endD2 : D := ⟨.nil, 10, 0, 2, [], 2, [97, 98], false, true, 0⟩
def endD3 : D := ⟨.nil, 10, 0, 0, [], 0, [], false, false, 12⟩
theorem push_1 : push num tr (newD false 3 (max 10 0)) [97, 98, 99, 100] = some (endD1, 3) := by rfl
theorem push_2 : push num tr (newD true (-1) (max 10 0)) [50, 59, 120, 61, 49, 13, 10, 97, 98, 13, 10, 48, 13, 10, 13, 10] = some (endD2, 16) := by
  have h0 : newD true (-1) (max 10 0) = ⟨.size, 10, 0, 0, [], 0, [], false, false, 0⟩ := rfl
  rw [h0]
  have a1 := runs_size (num := num) (tr := tr) 10 0 0 0 0 2 [] [50, 59, 120, 61, 49, 13] false false (by decide) (by decide) num_2 (by decide)
  have a2 := runs_chunk (num := num) (tr := tr) 10 (wr (0 + 2)) 0 0 false false [97, 98] [] 2 rfl (by decide) (by decide)
  have a3 : Runs num tr ⟨.must1, 10, 0, wr (0 + 2), [], 0, [] ++ [97, 98], false, false, 0⟩ [13, 10] ⟨.size, 10, 0, wr (0 + 2), [], 0, [] ++ [97, 98], false, false, 0⟩ := ⟨by simp, _, rfl, by simp [D.go], _, rfl, by simp [Runs, D.go]⟩
  have a4 := runs_size (num := num) (tr := tr) 10 0 (wr (0 + 2)) 0 0 0 ([] ++ [97, 98]) [48, 13] false false (by decide) (by decide) num_0 (by decide)
  have a5 : Runs num tr ⟨.trailer, 10, 0, wr (wr (0 + 2) + 0), [], 0, [] ++ [97, 98], false, false, 0⟩ [13, 10] endD2 := by
    refine ⟨by simp, _, rfl, by simp [D.addline, D.tails], endD2, ?_, rfl⟩
    have e1 : wr (0 + 1) = 1 := by decide
    have e2 : wr (1 + 1) = 2 := by decide
    have e3 : wr (wr (0 + 2) + 0) = 2 := by decide
    simp only [D.addline, D.tails, Dec.step, e1, e2, e3, List.nil_append, List.cons_append, tr_end]
    simp [trailed, D.nolines, D.ends, endD2]
  have a := ((((a1.app a2).app a3).app a4).app a5).push_end rfl []
  simpa using a
theorem push_3 : push num tr (newD true (-1) (max 10 0)) [103, 13, 10] = some (endD3, 3) := by
  have h0 : newD true (-1) (max 10 0) = ⟨.size, 10, 0, 0, [], 0, [], false, false, 0⟩ := rfl
  rw [h0]
  have a1 := runs_line (num := num) (tr := tr) 10 0 0 0 0 [] false false [103, 13] [] (by decide) (by decide)
  have a2 : Runs num tr ⟨.size, 10, 0, 0, [] ++ [103, 13], 0, [], false, false, 0⟩ [10] endD3 := by
    refine ⟨by simp, endD3, ?_, rfl⟩
    simp only [Dec.step, List.nil_append, List.cons_append, num_g]
    simp [sized, D.addline, D.nolines, D.wrong, endD3]
  have a := (a1.app a2).push_end rfl []
  simpa using a

/-! ### the walks -/
theorem lit_C (W : World) (xs : List Int) (fr : Nat × Nat) (hm : xs.length ≤ 9223372036854775807) : Kd.C (Kd.int .u8) (W.alloc (.cells (nums .u8 xs).toArray 5 fr)) (some ⟨W.heap.size, 0, none⟩) xs.length xs := by
  refine Kd.C_of_reads (d := (0 : Int)) (h1 := fun _ => rfl) ⟨rfl, hm, fun _ => ⟨_, rfl, fun j hj => ?_⟩⟩
  rw [add_plain]
  have hb := blk_new W (.cells (nums .u8 xs).toArray 5 fr)
  simp only [World.cell?, hb]
  simp [nums, List.getElem?_eq_getElem hj, List.getD_eq_getElem?_getD]
/-- Push of a constant's bytes. -/
theorem push_lit {w : World} {F : Nat → Prop} {g : Nat} {d r : D} {k : Nat} (xs : List Int) (h : IsD w F g d) (hF : ∀ i, F i → i < w.heap.size) (hF0 : ¬ F 0) (hG : Glob w) (hm : d.line.length + d.body.length + xs.length ≤ 1099511627776) (hp : push num tr d xs = some (r, k)) (fr : Nat × Nat) :
    Calls Tryd.prog 14 #[.pointer (some ⟨g, 0, none⟩), .slice (some ⟨w.heap.size, 0, none⟩) xs.length xs.length] (w.alloc (.cells (nums .u8 xs).toArray 5 fr)) fun e w' => e = .returned (.int .i64 k) ∧ Pushed w w' F g r := by
  have hb := below_alloc (Below.refl w.heap.size w) (.cells (nums .u8 xs).toArray 5 fr)
  refine (push_calls (h.below hb) hF0 (fun ad e _ hf => ?_) (hG.below hb) hm (Nat.le_refl _) (lit_C w xs fr (by omega)) hp).mono ?_
  · injection e with e
    subst e
    exact absurd (hF _ hf) (by simp)
  · rintro e w' ⟨he, F', h1, h2, h3⟩
    refine ⟨he, F', h1, fun i hi => (h2 i hi).imp id fun h => ?_, (Keep.of_below hb).trans h3 fun _ _ h => h⟩
    have := hb.size
    omega
set_option maxHeartbeats 2000000 in
set_option maxRecDepth 100000 in
theorem chunked_calls (w : World) : Calls Tryd.prog 13 #[] w fun e w' => e = .returned (.agg #[.int .i64 200, .int .i64 (-1), .bool true, .bool false]) ∧ Below w.heap.size w w' := by
  go_enter Tryd.func13, Tryd.ntmps13
  go_wp2
  exact bodyPost_ret (results_cell_row rfl _ _ w.heap.size 29 _ (0, 0) _ rfl (blk_new w _) Tryd.underlying29 rfl (by kernel_rfl)) rfl ⟨rfl, below_alloc (Below.refl _ _) _⟩
theorem IsD.bound {w : World} {F : Nat → Prop} {g : Nat} {d : D} (h : IsD w F g d) : IsD w (fun i => F i ∧ i < w.heap.size) g d := by
  obtain ⟨vn, vl, vb, hB, hF, hV⟩ := h
  refine ⟨vn, vl, vb, hB, fun k hk => ⟨hF k hk, ?_⟩, hV.keep (Keep.refl (fun _ => False) w) (fun _ _ _ => id) fun i hi hg => ⟨⟨hg.1, hi⟩, hg.2⟩⟩
  rcases hk with rfl | hk | hk
  · exact hB.lt
  · exact hB.line.lt hk
  · exact hB.body.lt hk
/-- Three decoders, apart from one another and from what lies below block B. -/
structure Three (B : Nat) (w : World) (F1 F2 F3 : Nat → Prop) (g1 g2 g3 : Nat) (d1 d2 d3 : D) : Prop where
  D1 : IsD w F1 g1 d1
  D2 : IsD w F2 g2 d2
  D3 : IsD w F3 g3 d3
  s12 : ∀ i, F1 i → ¬ F2 i
  s23 : ∀ i, F2 i → ¬ F3 i
  s31 : ∀ i, F3 i → ¬ F1 i
  b1 : ∀ i, F1 i → B ≤ i
  b2 : ∀ i, F2 i → B ≤ i
  b3 : ∀ i, F3 i → B ≤ i
  l1 : ∀ i, F1 i → i < w.heap.size
  l2 : ∀ i, F2 i → i < w.heap.size
  l3 : ∀ i, F3 i → i < w.heap.size
  hB : B ≤ w.heap.size
section
variable {B : Nat} {w w' : World} {F1 F2 F3 : Nat → Prop} {g1 g2 g3 : Nat} {d1 d2 d3 r : D}
theorem Three.rot (h : Three B w F1 F2 F3 g1 g2 g3 d1 d2 d3) : Three B w F2 F3 F1 g2 g3 g1 d2 d3 d1 := ⟨h.D2, h.D3, h.D1, h.s23, h.s31, h.s12, h.b2, h.b3, h.b1, h.l2, h.l3, h.l1, h.hB⟩
theorem Three.below (h : Three B w F1 F2 F3 g1 g2 g3 d1 d2 d3) (k : Below w.heap.size w w') : Three B w' F1 F2 F3 g1 g2 g3 d1 d2 d3 :=
  ⟨h.D1.below k, h.D2.below k, h.D3.below k, h.s12, h.s23, h.s31, h.b1, h.b2, h.b3, fun i hi => Nat.lt_of_lt_of_le (h.l1 i hi) k.size, fun i hi => Nat.lt_of_lt_of_le (h.l2 i hi) k.size, fun i hi => Nat.lt_of_lt_of_le (h.l3 i hi) k.size, Nat.le_trans h.hB k.size⟩
theorem Three.push (h : Three B w F1 F2 F3 g1 g2 g3 d1 d2 d3) (p : Pushed w w' F1 g1 r) : (∃ F1', Three B w' F1' F2 F3 g1 g2 g3 r d2 d3) ∧ Below B w w' := by
  obtain ⟨F', hD, hF', hk⟩ := p
  refine ⟨⟨fun i => F' i ∧ i < w'.heap.size, DecK.IsD.bound hD, h.D2.keep hk fun i _ hi h1 => h.s12 i h1 hi, h.D3.keep hk fun i _ hi => h.s31 i hi, ?_, h.s23, ?_, ?_, h.b2, h.b3, fun i hi => hi.2, fun i hi => Nat.lt_of_lt_of_le (h.l2 i hi) hk.size, fun i hi => Nat.lt_of_lt_of_le (h.l3 i hi) hk.size, Nat.le_trans h.hB hk.size⟩, hk.below h.b1 h.hB⟩
  · rintro i ⟨h1, _⟩ h2
    rcases hF' i h1 with h1 | h1
    · exact h.s12 i h1 h2
    · have := h.l2 i h2; omega
  · rintro i h3 ⟨h1, _⟩
    rcases hF' i h1 with h1 | h1
    · exact h.s31 i h3 h1
    · have := h.l3 i h3; omega
  · rintro i ⟨h1, _⟩
    rcases hF' i h1 with h1 | h1
    · exact h.b1 i h1
    · have := h.hB; omega
end
theorem lit_1 {w : World} {F : Nat → Prop} {g : Nat} (h : IsD w F g (newD false 3 (max 10 0))) (hF : ∀ i, F i → i < w.heap.size) (hF0 : ¬ F 0) (hG : Glob w) :
    Calls Tryd.prog 14 #[.pointer (some ⟨g, 0, none⟩), .slice (some ⟨w.heap.size, 0, none⟩) 4 4] (w.alloc (.cells #[.int .u8 97, .int .u8 98, .int .u8 99, .int .u8 100] 5 (4, 5))) fun e w' => e = .returned (.int .i64 3) ∧ Pushed w w' F g endD1 :=
  push_lit [97, 98, 99, 100] h hF hF0 hG (by decide) push_1 (4, 5)
theorem lit_2 {w : World} {F : Nat → Prop} {g : Nat} (h : IsD w F g (newD true (-1) (max 10 0))) (hF : ∀ i, F i → i < w.heap.size) (hF0 : ¬ F 0) (hG : Glob w) :
    Calls Tryd.prog 14 #[.pointer (some ⟨g, 0, none⟩), .slice (some ⟨w.heap.size, 0, none⟩) 16 16] (w.alloc (.cells #[.int .u8 50, .int .u8 59, .int .u8 120, .int .u8 61, .int .u8 49, .int .u8 13, .int .u8 10, .int .u8 97, .int .u8 98, .int .u8 13, .int .u8 10, .int .u8 48, .int .u8 13, .int .u8 10, .int .u8 13, .int .u8 10] 5 (16, 17))) fun e w' => e = .returned (.int .i64 16) ∧ Pushed w w' F g endD2 :=
  push_lit [50, 59, 120, 61, 49, 13, 10, 97, 98, 13, 10, 48, 13, 10, 13, 10] h hF hF0 hG (by decide) push_2 (16, 17)
theorem lit_3 {w : World} {F : Nat → Prop} {g : Nat} (h : IsD w F g (newD true (-1) (max 10 0))) (hF : ∀ i, F i → i < w.heap.size) (hF0 : ¬ F 0) (hG : Glob w) :
    Calls Tryd.prog 14 #[.pointer (some ⟨g, 0, none⟩), .slice (some ⟨w.heap.size, 0, none⟩) 3 3] (w.alloc (.cells #[.int .u8 103, .int .u8 13, .int .u8 10] 5 (3, 4))) fun e w' => e = .returned (.int .i64 3) ∧ Pushed w w' F g endD3 :=
  push_lit [103, 13, 10] h hF hF0 hG (by decide) push_3 (3, 4)
set_option maxHeartbeats 4000000 in
set_option maxRecDepth 100000 in
theorem known_calls (w : World) (hG : Glob w) : Calls Tryd.prog 10 #[] w fun e w' => e = .returned (.bool true) ∧ Below w.heap.size w w' := by
  have HG := Aside0.mk hG
  have kc := fun (w : World) (C : Array Value) (n c : Nat) => Lib.run_convert_bytes_const (P := Tryd.prog) w 22 5 C n c Tryd.underlying22 Tryd.underlying5
  clear hG
  go_enter Tryd.func10, Tryd.ntmps10
  have t1 : True := trivial
  go_upto_region 2 with (first | (go_at_call 12; (with_reducible refine (new_calls 0 3 10 false false _).mono ?_); rintro e w1 ⟨g1, rfl, h1, hg1, hb1⟩; have D1 := Aside0.mk h1; have G1 := Aside0.mk hg1; have HB := Aside0.mk hb1; clear h1 hg1 hb1))
  go_upto_region 3 with (first | (go_at_call 13; have t_ := t1; (with_reducible refine (chunked_calls _).mono ?_); rintro e w2 ⟨rfl, hb⟩; have n1 := Aside0.mk (D1.out.below hb); have n2 := Aside0.mk (below_step HB.out hb); clear D1 HB hb t1 t_; have D1 := n1; have HB := n2; clear n1 n2; have t2 : True := trivial) | (go_at_call 12; have t_ := t2; (with_reducible refine (new_calls 200 (-1) 10 true false _).mono ?_); rintro e w3 ⟨g2, rfl, h2, hg2, hb⟩; have D2 := Aside0.mk h2; have N12 := Aside0.mk (show g1 < g2 by obtain ⟨_, _, _, hB, _, _⟩ := D1.out; have := hB.lt; omega); have G2 := Aside0.mk (Nat.le_trans HB.out.size hg2); have n1 := Aside0.mk (D1.out.below hb); have n2 := Aside0.mk (below_step HB.out hb); clear D1 HB hb h2 hg2 t2 t_; have D1 := n1; have HB := n2; clear n1 n2; have t3 : True := trivial) | (go_at_call 13; have t_ := t3; (with_reducible refine (chunked_calls _).mono ?_); rintro e w4 ⟨rfl, hb⟩; have n1 := Aside0.mk (D1.out.below hb); have n2 := Aside0.mk (below_step HB.out hb); have n3 := Aside0.mk (D2.out.below hb); clear D1 D2 HB hb t3 t_; have D1 := n1; have D2 := n3; have HB := n2; clear n1 n2 n3; have t4 : True := trivial) | (go_at_call 12; have t_ := t4; (with_reducible refine (new_calls 200 (-1) 10 true false _).mono ?_); rintro e w5 ⟨g3, rfl, h3, hg3, hb⟩; have D3 := Aside0.mk h3; have N23 := Aside0.mk (show g2 < g3 by obtain ⟨_, _, _, hB, _, _⟩ := D2.out; have := hB.lt; omega); have G3 := Aside0.mk (Nat.le_trans HB.out.size hg3); have n1 := Aside0.mk (D1.out.below hb); have n2 := Aside0.mk (below_step HB.out hb); have n3 := Aside0.mk (D2.out.below hb); clear D1 D2 HB hb h3 hg3 t4 t_; have D1 := n1; have D2 := n3; have HB := n2; clear n1 n2 n3; have t5 : True := trivial))
  have HZ := Aside0.mk (show 0 < w.heap.size by obtain ⟨m, hm⟩ := HG.out; exact World.block_lt_of_cell? w ⟨0, 0, none⟩ hm)
  have T := Aside0.mk (show Three w.heap.size w5 (fun k => k = g1) (fun k => k = g2) (fun k => k = g3) g1 g2 g3 (newD false 3 (max 10 0)) (newD true (-1) (max 10 0)) (newD true (-1) (max 10 0)) from ⟨D1.out, D2.out, D3.out, fun i h => by have := N12.out; omega, fun i h => by have := N23.out; omega, fun i h => by have := N12.out; have := N23.out; omega, fun i h => by rw [h]; exact G1.out, fun i h => by rw [h]; exact G2.out, fun i h => by rw [h]; exact G3.out, fun i h => by rw [h]; exact D1.out.lt, fun i h => by rw [h]; exact D2.out.lt, fun i h => by rw [h]; exact D3.out.lt, HB.out.size⟩)
  clear D1 D2 D3 N12 N23 G1 G2 G3 t5 kc
  have kc := fun (w : World) (C : Array Value) (n c : Nat) => Lib.run_convert_bytes_const (P := Tryd.prog) w 22 5 C n c Tryd.underlying22 Tryd.underlying5
  have u1 : True := trivial
  have L1 := Aside0.mk (lit_1 T.out.D1 T.out.l1 (fun h0 => by have := T.out.b1 0 h0; have := HZ.out; omega) (HG.out.below HB.out))
  go_upto_region 5 with (first | (go_at_call 14; have t_ := u1; (with_reducible refine L1.out.mono ?_); rintro e w6 ⟨rfl, hp⟩; obtain ⟨⟨F1, hT⟩, hb⟩ := T.out.push hp; have n1 := Aside0.mk hT.rot; have n2 := Aside0.mk (HB.out.trans hb); clear T HB hT hb hp L1 u1 t_; have T := n1; have HB := n2; clear n1 n2; have L2 := Aside0.mk (lit_2 T.out.D1 T.out.l1 (fun h0 => by have := T.out.b1 0 h0; have := HZ.out; omega) (HG.out.below HB.out)); have u2 : True := trivial) | (go_at_call 14; have t_ := u2; (with_reducible refine L2.out.mono ?_); rintro e w7 ⟨rfl, hp⟩; obtain ⟨⟨F2, hT⟩, hb⟩ := T.out.push hp; have n1 := Aside0.mk hT.rot; have n2 := Aside0.mk (HB.out.trans hb); clear T HB hT hb hp L2 u2 t_; have T := n1; have HB := n2; clear n1 n2))
  have L3 := Aside0.mk (lit_3 T.out.D1 T.out.l1 (fun h0 => by have := T.out.b1 0 h0; have := HZ.out; omega) (HG.out.below HB.out))
  go_upto_region 6 with (first | (go_at_call 14; (with_reducible refine L3.out.mono ?_); rintro e w8 ⟨rfl, hp⟩; obtain ⟨⟨F3, hT⟩, hb⟩ := T.out.push hp; have n1 := Aside0.mk hT.rot; have n2 := Aside0.mk (HB.out.trans hb); clear T HB hT hb hp L3; have T := n1; have HB := n2; clear n1 n2))
  clear kc
  have hs1 : strOfNums [97, 98, 99] = (⟨#[97, 98, 99]⟩ : ByteArray) := by rfl
  have hs2 : strOfNums [97, 98] = (⟨#[97, 98]⟩ : ByteArray) := by rfl
  have v1 : True := trivial
  have hcv : True := trivial
  go_wp2_with (first | (go_at_call 15; have t_ := v1; (with_reducible refine (done_calls T.out.D1).mono ?_); rintro e w_ ⟨rfl, rfl⟩; clear v1 t_; have v2 : True := trivial) | (go_at_call 16; have t_ := v2; (with_reducible refine (body_calls T.out.D1 (by decide)).mono ?_); rintro e w9 ⟨v, rfl, ho, hf, hb⟩; obtain ⟨A1, c1, hv, _, hC⟩ := own_C (show w9.ownsRow 0 5 1 v ([97, 98, 99] : List Int).length (nums .u8 [97, 98, 99]) from ho); replace hv : v = .slice A1 3 c1 := hv; subst hv; clear hcv; have hcv := C_string0 (P := Tryd.prog) (c := c1) Tryd.underlying22 Tryd.underlying5 Tryd.underlying9 (show Kd.C (Kd.int .u8) w9 A1 3 [97, 98, 99] from hC); have n1 := Aside0.mk (T.out.below hb); have n2 := Aside0.mk (below_step HB.out hb); clear T HB ho hf hb hC v2 t_; have T := n1; have HB := n2; clear n1 n2; have v3 : True := trivial) | (go_at_call 15; have t_ := v3; (with_reducible refine (done_calls T.out.D2).mono ?_); rintro e w_ ⟨rfl, rfl⟩; clear v3 t_; have v4 : True := trivial) | (go_at_call 16; have t_ := v4; (with_reducible refine (body_calls T.out.D2 (by decide)).mono ?_); rintro e w10 ⟨v, rfl, ho, hf, hb⟩; obtain ⟨A1, c1, hv, _, hC⟩ := own_C (show w10.ownsRow 0 5 1 v ([97, 98] : List Int).length (nums .u8 [97, 98]) from ho); replace hv : v = .slice A1 2 c1 := hv; subst hv; clear hcv; have hcv := C_string0 (P := Tryd.prog) (c := c1) Tryd.underlying22 Tryd.underlying5 Tryd.underlying9 (show Kd.C (Kd.int .u8) w10 A1 2 [97, 98] from hC); have n1 := Aside0.mk (T.out.below hb); have n2 := Aside0.mk (below_step HB.out hb); clear T HB ho hf hb hC v4 t_; have T := n1; have HB := n2; clear n1 n2; have v5 : True := trivial) | (go_at_call 18; (with_reducible refine (err_calls T.out.D3).mono ?_); rintro e w_ ⟨rfl, rfl⟩) | (go_at_call 15; have t_ := v5; (with_reducible refine (done_calls T.out.D3).mono ?_); rintro e w_ ⟨rfl, rfl⟩; clear v5 t_; have v6 : True := trivial))
  go_ret
  exact ⟨rfl, HB.out⟩

end Go.Proofs.YtfpcoanlkfgagaaDoor.DecK
