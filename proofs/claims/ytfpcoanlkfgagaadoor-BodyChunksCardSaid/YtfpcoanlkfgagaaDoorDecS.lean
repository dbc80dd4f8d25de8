/- The walks of the decoder's states: a size line, trailers, what must has made. -/
import Derived.Test.YtfpcoanlkfgagaaDoorDecN
import Derived.Laws.EntriesVeiled
import Derived.Below
import Derived.Deep.Draws
import Derived.Deep.AppendLies
import Derived.Maps.AppendAt
import Derived.OwnWalk
import Derived.Laws.BytesArg
import Derived.Laws.MakeOwn
import Derived.Laws.OwnMore
import Derived.Deep.OwnRows
import Derived.Tactics
import Derived.Lib.ConvBytes
import Derived.Laws.Slices
import Derived.WalkKit
import Derived.KernelRfl
import Derived.RowKit3
import Derived.Deep.LoopGhost
import Derived.Deep.QuietTactic
import Derived.BigQuiet
import Derived.WideLaws
import Derived.Deep.DeepCutAuto
import Derived.Deep.CutBlock
import Derived.Deep.RegionHeld3
import Derived.Laws.Rows
import Derived.Lib.AppendStr
import Derived.ArgAppend
import Derived.Laws.IdiomCopy
import Derived.OrdersHeld
import Derived.Laws.BitsLemmas
import Derived.RowKit
import Derived.WalkMore
import Derived.Test.YtfpcoanlkfgagaaDoorWWords
import Derived.Test.YtfpcoanlkfgagaaDoorWLast
import Derived.Test.YtfpcoanlkfgagaaDoorWMore
import Derived.Test.YtfpcoanlkfgagaaDoorWTab
namespace Go.Proofs.YtfpcoanlkfgagaaDoor.DecS
open Go.RowKit Go.Proofs.YtfpcoanlkfgagaaDoorW.PrintWords Go.Proofs.YtfpcoanlkfgagaaDoorW.PrintLast Go.Proofs.YtfpcoanlkfgagaaDoor.Ext Go.Proofs.YtfpcoanlkfgagaaDoor.Dec Go.Proofs.YtfpcoanlkfgagaaDoor.DecW Go.Proofs.YtfpcoanlkfgagaaDoor.DecA Go.Proofs.YtfpcoanlkfgagaaDoor.DecB Go.Proofs.YtfpcoanlkfgagaaDoor.DecN Go.Proofs.YtfpcoanlkfgagaaDoor.DecT
set_option linter.unusedVariables false
set_option linter.unusedSimpArgs false
noncomputable def num (l : List Int) : Option (Int × Bool) := numF (strOfNums l)
theorem Glob.keep {F : Nat → Prop} {w w' : World} (h : Glob w) (k : Keep F w w') (h0 : ¬ F 0) : Glob w' := by
  obtain ⟨m, hm⟩ := h
  exact ⟨m, (World.cell?_of_block (k.block 0 (World.block_lt_of_cell? w ⟨0, 0, none⟩ hm) h0)).trans hm⟩
/-- A byte has been put to the line. -/
def Lined (w w' : World) (g : Nat) (vn vl vb vl' : Value) (d : D) : Prop :=
  IsB w' g vn vl' vb d ∧ (vl'.ownBlock = vl.ownBlock ∨ ∃ b, vl'.ownBlock = some b ∧ w.heap.size ≤ b) ∧ Keep (Wt g vl vb) w w'
theorem Lined.b {w w' : World} {g : Nat} {vn vl vb vl' : Value} {d : D} (h : Lined w w' g vn vl vb vl' d) : IsB w' g vn vl' vb d := h.1
theorem line_end {W w1 : World} {g : Nat} {vn vl vb v1 : Value} {d : D} {c : Int} (h : IsB W g vn vl vb d) (ho : w1.ownsRow 0 5 1 v1 (d.line ++ [c]).length (nums .u8 (d.line ++ [c]))) (hg : W.grownBy w1 vl.ownBlock) (hat : v1.ownBlock = vl.ownBlock ∨ ∃ b, v1.ownBlock = some b ∧ W.heap.size ≤ b) :
    Lined W (w1.setCell ⟨g, 4, none⟩ v1) g vn vl vb v1 (d.addline c) := by
  have hk : Keep (Wt g vl vb) W w1 := (Keep.refl (Wt g vl vb) W).grown hg fun k hk _ => .inr (.inl hk)
  have hgn : vl.ownBlock ≠ some g := h.gl
  have hg1 : v1.ownBlock ≠ some g := by
    rcases hat with e | ⟨b, e, hb⟩
    · rw [e]; exact hgn
    · rw [e]; intro e2; have := h.lt; simp at e2; omega
  have hl1 : ∀ k, v1.ownBlock = some k → vb.ownBlock ≠ some k := by
    intro k hk hb2
    rcases hat with e | ⟨b, e, hb⟩
    · exact h.lb k (e ▸ hk) hb2
    · have := h.body.lt hb2; rw [e] at hk; simp at hk; omega
  have hblk : w1.heap[g]? = some (.cells (cellsD vn vl vb d) 54 (0, 0)) := (hg.block g h.lt (fun e => hgn e.symm)).trans h.blk
  have hbody : Own w1 vb d.body := h.body.keep (F := fun k => vl.ownBlock = some k) ((Keep.refl _ W).grown hg fun k hk _ => hk) fun k hk hl => h.lb k hl hk
  have k2 : Keep (fun k => k = g) w1 (w1.setCell ⟨g, 4, none⟩ v1) := (Keep.refl (fun k => k = g) w1).set (g := g) rfl 4 v1
  exact ⟨⟨blk_put hblk 4 v1 rfl, Own.keep (show Own w1 v1 (d.line ++ [c]) from ho) k2 fun i hi e => hg1 (e ▸ hi), hbody.keep k2 fun i hi e => h.gb (e ▸ hi), hg1, h.gb, hl1⟩, hat, hk.set (.inl rfl) 4 v1⟩
theorem lined_grown {W w1 : World} {g : Nat} {vn vl vb : Value} {d : D} (h : IsB W g vn vl vb d) (hg : W.grownBy w1 vl.ownBlock) : w1.heap[g]? = some (.cells (cellsD vn vl vb d) 54 (0, 0)) := (hg.block g h.lt (fun e => h.gl e.symm)).trans h.blk
section
variable {ops : Array Oper} {rest : List Oper} {o : Oper} {a : Act} {Q : Exit → Act → World → Prop}
theorem line_append {W : World} {g n : Nat} {A : Option Addr} {vn vb : Value} {d : D} {c : Int} (hgd : o.guard = none) (s x : Operand)
    (ho : o.op = .call { callee := .builtin .append, args := #[s, x], argTypes := #[22, 22] }) (hs : a.eval s = .slice A d.line.length n) (hx : a.eval x = .slice (some ⟨W.heap.size, 0, none⟩) 1 1) (hm : d.line.length ≤ 1099511627776)
    (h : IsB W g vn (.slice A d.line.length n) vb d)
    (hk : ∀ A1 n1 w1, w1.cell? ⟨g, 4, none⟩ = some (.slice A d.line.length n) → w1.frozen? ⟨g, 4, none⟩ = false → Lined W (w1.setCell ⟨g, 4, none⟩ (.slice A1 (d.line.length + 1) n1)) g vn (.slice A d.line.length n) vb (.slice A1 (d.line.length + 1) n1) (d.addline c) → wpList Tryd.prog ops Q rest (a.put o.dst (.slice A1 (d.line.length + 1) n1)) w1) :
    wpList Tryd.prog ops Q (o :: rest) a (W.alloc (.cells #[.int .u8 c] 5)) := by
  refine print_append_num (w0 := W) 0 hgd s x 22 5 .u8 1 ho Tryd.underlying22 info5 (by decide) (.slice A d.line.length n) d.line c hs hx h.line (Below.refl _ _) (Nat.zero_le _) (by omega) ?_
  intro v1 w1 ho1 _ hg hat
  have hE := line_end h ho1 hg hat
  have hbk := lined_grown h hg
  obtain ⟨A1, n1, hv⟩ := own_slice ho1
  rw [show (d.line ++ [c]).length = d.line.length + 1 from by simp] at hv
  subst hv
  exact hk A1 n1 w1 ((blk_cell hbk 4).trans rfl) (blk_frozen hbk 4) hE
end
theorem line_C {w : World} {g n : Nat} {A : Option Addr} {vn vb : Value} {d : D} {c : Int} (h : IsB w g vn (.slice A (d.line.length + 1) n) vb (d.addline c)) : Kd.C (Kd.int .u8) w A (d.line.length + 1) (d.line ++ [c]) := by
  obtain ⟨A1, c1, h1, h2, h3⟩ := own_C h.line
  have hlen : (d.addline c).line.length = d.line.length + 1 := by simp [D.addline]
  rw [hlen] at h1 h3
  injection h1 with e1 e2 e3
  subst e1
  exact h3
theorem no_line {w : World} {g : Nat} {vn vl vb : Value} {d : D} (h : IsB w g vn vl vb d) : IsB (w.setCell ⟨g, 4, none⟩ (.slice none 0 0)) g vn (.slice none 0 0) vb d.nolines := by
  have k2 : Keep (fun k => k = g) w (w.setCell ⟨g, 4, none⟩ (.slice none 0 0)) := (Keep.refl (fun k => k = g) w).set (g := g) rfl 4 _
  exact ⟨blk_put h.blk 4 _ rfl, own_empty _, h.body.keep k2 fun i hi e => h.gb (e ▸ hi), by simp [Value.ownBlock], h.gb, fun k hk => by simp [Value.ownBlock] at hk⟩
theorem wt_noline {w : World} {F : Nat → Prop} {g : Nat} {vl vb : Value} (hF : ∀ k, Wt g vl vb k → F k ∨ w.heap.size ≤ k) : ∀ k, Wt g (.slice none 0 0) vb k → F k ∨ w.heap.size ≤ k := by
  rintro k (h | h | h)
  · exact hF k (.inl h)
  · simp [Value.ownBlock] at h
  · exact hF k (.inr (.inr h))
theorem e_more (vn vl vb : Value) (d : D) (n : Int) : (cellsD vn vl vb { d with left := n }).setIfInBounds 3 (.int .i64 (wrap64 (d.all + n))) = cellsD vn vl vb { d with left := n, all := wr (d.all + n) } := by rw [wr_eq]; rfl

set_option maxHeartbeats 4000000 in
set_option maxRecDepth 100000 in
theorem size_calls {tr : List Int → Option Nat} {w : World} {F : Nat → Prop} {g : Nat} {vn vl vb : Value} {d d' : D} (c : Int) (h : IsB w g vn vl vb d) (hF : ∀ k, Wt g vl vb k → F k) (hF0 : ¬ F 0) (hG : Glob w) (hst : d.st = .size) (hm : d.line.length ≤ 1099511627776) (hs : Dec.step num tr d c = some d') :
    Calls Tryd.prog 30 #[.pointer (some ⟨g, 0, none⟩), .int .u8 c] w fun e w' => ∃ v, e = .returned v ∧ After w w' F g vn v d' := by
  obtain ⟨A, n, hvl, hn⟩ := own_slice2 h.line
  subst hvl
  have H := Aside0.mk h
  have HM := Aside0.mk hm
  have HF := Aside0.mk hF
  have HF0 := Aside0.mk hF0
  have HG := Aside0.mk hG
  have HST := Aside0.mk hst
  have c4 : w.cell? ⟨g, 4, none⟩ = some (.slice A d.line.length n) := (h.cell 4).trans rfl
  unfold Dec.step at hs
  simp only [hst] at hs
  clear h hm hF hF0 hG hst hn
  by_cases hc : c = 10
  · subst hc
    rw [if_pos rfl] at hs
    obtain ⟨⟨x, is⟩, hn, hs⟩ := Option.map_eq_some_iff.1 hs
    have HN := Aside0.mk (show numF (strOfNums (d.line ++ [10])) = some (x, is) from hn)
    clear hn
    simp only at hs
    go_enter Tryd.func30, Tryd.ntmps30
    go_upto_region 6 with (first | ((with_reducible refine gate_builtin (b := .append) (xs := #[.tmp 11, .tmp 13]) rfl ?_); at_builtin; refine line_append rfl (.tmp 11) (.tmp 13) rfl rfl rfl HM.out H.out ?_; intro A1 n1 w1 c4 f4 hE; have HE := Aside0.mk hE; clear hE))
    have HGE := Aside0.mk (Glob.keep HG.out HE.out.2.2 fun h0 => HF0.out (HF.out 0 h0))
    obtain ⟨w2, hw2⟩ : ∃ w2, w2 = w1.setCell ⟨g, 4, none⟩ (.slice A1 (d.line.length + 1) n1) := ⟨_, rfl⟩
    rw [← hw2] at HE HGE ⊢
    clear hw2 c4
    have hC := line_C HE.out.b
    have hcv := C_string0 (P := Tryd.prog) (c := n1) Tryd.underlying22 Tryd.underlying5 Tryd.underlying9 hC
    have c4 : w2.cell? ⟨g, 4, none⟩ = some (.slice A1 (d.line.length + 1) n1) := (HE.out.b.cell 4).trans rfl
    clear hC
    go_upto_region 7 with (first | (go_at_call 49; (with_reducible refine (number_calls (strOfNums (d.line ++ [10])) x is _ HGE.out HN.out).mono ?_); rintro e w3 ⟨rfl, hb⟩; have HB := Aside0.mk hb; clear hb))
    clear hcv c4 f4
    have H3 := Aside0.mk (HE.out.b.below HB.out)
    have HK3 := Aside0.mk ((HE.out.2.2.mono fun i _ hi => HF.out i hi).step HB.out)
    have HWT := Aside0.mk (wt_line HF.out HE.out.2.1)
    have f4 := H3.out.fz 4
    have f2 := H3.out.fz 2
    have f3 := H3.out.fz 3
    have c4 : w3.cell? ⟨g, 4, none⟩ = some (.slice A1 (d.line.length + 1) n1) := (H3.out.cell 4).trans rfl
    have c3 : w3.cell? ⟨g, 3, none⟩ = some (.int .i64 d.all) := (H3.out.cell 3).trans rfl
    have c2 : w3.cell? ⟨g, 2, none⟩ = some (.int .i64 d.left) := (H3.out.cell 2).trans rfl
    have c1 : w3.cell? ⟨g, 1, none⟩ = some (.int .i64 d.most) := (H3.out.cell 1).trans rfl
    have HL := Aside0.mk (no_line H3.out)
    have HKL := Aside0.mk (HK3.out.set (HF.out g (.inl rfl)) 4 (.slice none 0 0))
    have HWL := Aside0.mk (wt_noline HWT.out)
    unfold sized at hs
    cases is with
    | false =>
      rw [if_pos rfl] at hs
      subst hs
      go_wp2_with (first | (go_at_call 32; (with_reducible refine (wrong_calls HL.out 12).mono ?_); rintro e w4 ⟨rfl, hB2, hk2⟩; have HB2 := Aside0.mk hB2; have HK2 := Aside0.mk hk2; clear hB2 hk2))
      go_ret
      exact ⟨_, rfl, After.nil rfl HB2.out HWL.out (HKL.out.trans HK2.out fun i _ e => HF.out i (.inl e))⟩
    | true =>
      rw [if_neg (by decide)] at hs
      have HM2 := Aside0.mk ((HL.out.put 2 (.int .i64 x) (vn' := vn) (d' := { (d.addline 10).nolines with left := x }) rfl rfl rfl).put 3 (.int .i64 (wrap64 (d.all + x))) (vn' := vn) (d' := (d.addline 10).more x) (e_more _ _ _ _ _) rfl rfl)
      have HKM := Aside0.mk ((HKL.out.set (HF.out g (.inl rfl)) 2 (.int .i64 x)).set (HF.out g (.inl rfl)) 3 (.int .i64 (wrap64 (d.all + x))))
      go_upto_region 12 with (fail)
      by_cases hgt : d.most < wr (d.all + x)
      · rw [show (d.addline 10).most = d.most from rfl, show (d.addline 10).all = d.all from rfl, if_pos hgt] at hs
        subst hs
        have b1 : decide (wrap64 (d.all + x) > d.most) = true := by rw [wr_eq]; exact decide_eq_true hgt
        have b2 : decide (d.most < wrap64 (d.all + x)) = true := b1
        clear hgt
        go_quiet (fail)
        go_wp2_with (first | (go_at_call 32; (with_reducible refine (wrong_calls (HM2.out.below (pw_below_drewN (Below.refl _ _) _)) 13).mono ?_); rintro e w4 ⟨rfl, hB2, hk2⟩; have HB2 := Aside0.mk hB2; have HK2 := Aside0.mk hk2; clear hB2 hk2))
        go_ret
        exact ⟨_, rfl, After.nil rfl HB2.out HWL.out ((HKM.out.drewN _).trans HK2.out fun i _ e => HF.out i (.inl e))⟩
      · rw [show (d.addline 10).most = d.most from rfl, show (d.addline 10).all = d.all from rfl, if_neg hgt] at hs
        have b1 : decide (wrap64 (d.all + x) > d.most) = false := by rw [wr_eq]; exact decide_eq_false hgt
        have b2 : decide (d.most < wrap64 (d.all + x)) = false := b1
        clear hgt
        by_cases hx : x = 0
        · rw [if_pos hx] at hs
          have b3 : (x == 0) = true := beq_iff_eq.2 hx
          subst hs
          clear hx
          go_quiet (fail)
          go_wp2
          go_ret
          exact ⟨_, rfl, After.on (by simp [D.go]) ((HM2.out.below (pw_below_drewN (Below.refl _ _) _)).go .trailer) HWL.out rfl (HKM.out.drewN _)⟩
        · rw [if_neg hx] at hs
          have b3 : (x == 0) = false := beq_eq_false_iff_ne.2 hx
          subst hs
          clear hx
          go_quiet (fail)
          go_wp2
          go_ret
          exact ⟨_, rfl, After.on (by simp [D.go]) ((HM2.out.below (pw_below_drewN (Below.refl _ _) _)).go .chunk) HWL.out rfl (HKM.out.drewN _)⟩
  · rw [if_neg hc] at hs
    have q1 : (c == 10) = false := beq_eq_false_iff_ne.2 hc
    have q2 : (c != 10) = true := bne_iff_ne.2 hc
    by_cases hl : 256 ≤ (d.line.length + 1 : Int)
    · rw [if_pos hl, Option.some.injEq] at hs
      subst hs
      have q3 : 256 ≤ d.line.length + 1 := by omega
      have q4 : decide (256 ≤ d.line.length + 1) = true := decide_eq_true q3
      have q5 : decide (256 ≤ (d.line.length : Int) + 1) = true := decide_eq_true (by omega)
      clear hc hl
      go_enter Tryd.func30, Tryd.ntmps30
      go_wp2_with (first | ((with_reducible refine gate_builtin (b := .append) (xs := #[.tmp 11, .tmp 13]) rfl ?_); at_builtin; refine line_append rfl (.tmp 11) (.tmp 13) rfl rfl rfl HM.out H.out ?_; intro A1 n1 w1 c4 f4 hE; have HE := Aside0.mk hE; clear hE) | (go_at_call 32; (with_reducible refine (wrong_calls HE.out.b 12).mono ?_); rintro e w2 ⟨rfl, hB2, hk2⟩; have HB2 := Aside0.mk hB2; have HK2 := Aside0.mk hk2; clear hB2 hk2))
      go_ret
      exact ⟨_, rfl, After.nil rfl HB2.out (wt_line HF.out HE.out.2.1) ((HE.out.2.2.mono fun i _ hi => HF.out i hi).trans HK2.out fun i _ e => HF.out i (.inl e))⟩
    · rw [if_neg hl, Option.some.injEq] at hs
      subst hs
      have q3 : ¬ 256 ≤ d.line.length + 1 := by omega
      have q4 : decide (256 ≤ d.line.length + 1) = false := decide_eq_false q3
      have q5 : decide (256 ≤ (d.line.length : Int) + 1) = false := decide_eq_false (by omega)
      clear hc hl
      go_enter Tryd.func30, Tryd.ntmps30
      go_wp2_with (first | ((with_reducible refine gate_builtin (b := .append) (xs := #[.tmp 11, .tmp 13]) rfl ?_); at_builtin; refine line_append rfl (.tmp 11) (.tmp 13) rfl rfl rfl HM.out H.out ?_; intro A1 n1 w1 c4 f4 hE; have HE := Aside0.mk hE; clear hE))
      go_ret
      have hs2 : (d.addline c).st = .size := HST.out
      exact ⟨_, rfl, After.on (by rw [hs2]; decide) HE.out.1 (wt_line HF.out HE.out.2.1) (by rw [hs2]; rfl) (HE.out.2.2.mono fun i _ hi => HF.out i hi)⟩

end Go.Proofs.YtfpcoanlkfgagaaDoor.DecS
