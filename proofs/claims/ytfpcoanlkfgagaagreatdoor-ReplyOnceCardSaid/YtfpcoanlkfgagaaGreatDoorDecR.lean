/- The walks of the decoder's states: a size line, trailers, what must has made. -/
import Derived.Test.YtfpcoanlkfgagaaGreatDoorDecN
import Derived.Laws.EntriesVeiled
import Derived.Below
import Derived.Deep.Draws
import Derived.Deep.AppendLies
import Derived.Maps.AppendAt
import Derived.OwnWalk
import Derived.Laws.BytesArg
import Derived.Laws.MakeOwn
import Derived.Laws.OwnMore
import Derived.Deep.OwnRows
import Derived.Tactics
import Derived.Lib.ConvBytes
import Derived.Laws.Slices
import Derived.WalkKit
import Derived.KernelRfl
import Derived.RowKit3
import Derived.Deep.LoopGhost
import Derived.Deep.QuietTactic
import Derived.BigQuiet
import Derived.WideLaws
import Derived.Deep.DeepCutAuto
import Derived.Deep.CutBlock
import Derived.Deep.RegionHeld3
import Derived.Laws.Rows
import Derived.Lib.AppendStr
import Derived.ArgAppend
import Derived.Laws.IdiomCopy
import Derived.OrdersHeld
import Derived.Laws.BitsLemmas
import Derived.RowKit
import Derived.WalkMore
import Derived.Test.YtfpcoanlkfgagaaGreatDoorWWords
import Derived.Test.YtfpcoanlkfgagaaGreatDoorWLast
import Derived.Test.YtfpcoanlkfgagaaGreatDoorWMore
import Derived.Test.YtfpcoanlkfgagaaGreatDoorWTab
namespace Go.Proofs.YtfpcoanlkfgagaaGreatDoor.DecS
open Go.RowKit Go.Proofs.YtfpcoanlkfgagaaGreatDoorW.PrintWords Go.Proofs.YtfpcoanlkfgagaaGreatDoorW.PrintLast Go.Proofs.YtfpcoanlkfgagaaGreatDoor.Ext Go.Proofs.YtfpcoanlkfgagaaGreatDoor.Dec Go.Proofs.YtfpcoanlkfgagaaGreatDoor.DecW Go.Proofs.YtfpcoanlkfgagaaGreatDoor.DecA Go.Proofs.YtfpcoanlkfgagaaGreatDoor.DecB Go.Proofs.YtfpcoanlkfgagaaGreatDoor.DecN Go.Proofs.YtfpcoanlkfgagaaGreatDoor.DecT
set_option linter.unusedVariables false
set_option linter.unusedSimpArgs false
noncomputable def num (l : List Int) : Option (Int × Bool) := numF (strOfNums l)
theorem Glob.keep {F : Nat → Prop} {w w' : World} (h : Glob w) (k : Keep F w w') (h0 : ¬ F 0) : Glob w' := by
  obtain ⟨m, hm⟩ := h
  exact ⟨m, (World.cell?_of_block (k.block 0 (World.block_lt_of_cell? w ⟨0, 0, none⟩ hm) h0)).trans hm⟩
/-- A byte has been put to the line. -/
def Lined (w w' : World) (g : Nat) (vn vl vb vl' : Value) (d : D) : Prop :=
  IsB w' g vn vl' vb d ∧ (vl'.ownBlock = vl.ownBlock ∨ ∃ b, vl'.ownBlock = some b ∧ w.heap.size ≤ b) ∧ Keep (Wt g vl vb) w w'
theorem Lined.b {w w' : World} {g : Nat} {vn vl vb vl' : Value} {d : D} (h : Lined w w' g vn vl vb vl' d) : IsB w' g vn vl' vb d := h.1
theorem line_end {W w1 : World} {g : Nat} {vn vl vb v1 : Value} {d : D} {c : Int} (h : IsB W g vn vl vb d) (ho : w1.ownsRow 0 5 1 v1 (d.line ++ [c]).length (nums .u8 (d.line ++ [c]))) (hg : W.grownBy w1 vl.ownBlock) (hat : v1.ownBlock = vl.ownBlock ∨ ∃ b, v1.ownBlock = some b ∧ W.heap.size ≤ b) :
    Lined W (w1.setCell ⟨g, 4, none⟩ v1) g vn vl vb v1 (d.addline c) := by
  have hk : Keep (Wt g vl vb) W w1 := (Keep.refl (Wt g vl vb) W).grown hg fun k hk _ => .inr (.inl hk)
  have hgn : vl.ownBlock ≠ some g := h.gl
  have hg1 : v1.ownBlock ≠ some g := by
    rcases hat with e | ⟨b, e, hb⟩
    · rw [e]; exact hgn
    · rw [e]; intro e2; have := h.lt; simp at e2; omega
  have hl1 : ∀ k, v1.ownBlock = some k → vb.ownBlock ≠ some k := by
    intro k hk hb2
    rcases hat with e | ⟨b, e, hb⟩
    · exact h.lb k (e ▸ hk) hb2
    · have := h.body.lt hb2; rw [e] at hk; simp at hk; omega
  have hblk : w1.heap[g]? = some (.cells (cellsD vn vl vb d) 72 (0, 0)) := (hg.block g h.lt (fun e => hgn e.symm)).trans h.blk
  have hbody : Own w1 vb d.body := h.body.keep (F := fun k => vl.ownBlock = some k) ((Keep.refl _ W).grown hg fun k hk _ => hk) fun k hk hl => h.lb k hl hk
  have k2 : Keep (fun k => k = g) w1 (w1.setCell ⟨g, 4, none⟩ v1) := (Keep.refl (fun k => k = g) w1).set (g := g) rfl 4 v1
  exact ⟨⟨blk_put hblk 4 v1 rfl, Own.keep (show Own w1 v1 (d.line ++ [c]) from ho) k2 fun i hi e => hg1 (e ▸ hi), hbody.keep k2 fun i hi e => h.gb (e ▸ hi), hg1, h.gb, hl1⟩, hat, hk.set (.inl rfl) 4 v1⟩
theorem lined_grown {W w1 : World} {g : Nat} {vn vl vb : Value} {d : D} (h : IsB W g vn vl vb d) (hg : W.grownBy w1 vl.ownBlock) : w1.heap[g]? = some (.cells (cellsD vn vl vb d) 72 (0, 0)) := (hg.block g h.lt (fun e => h.gl e.symm)).trans h.blk
section
variable {ops : Array Oper} {rest : List Oper} {o : Oper} {a : Act} {Q : Exit → Act → World → Prop}
theorem line_append {W : World} {g n : Nat} {A : Option Addr} {vn vb : Value} {d : D} {c : Int} (hgd : o.guard = none) (s x : Operand)
    (ho : o.op = .call { callee := .builtin .append, args := #[s, x], argTypes := #[22, 22] }) (hs : a.eval s = .slice A d.line.length n) (hx : a.eval x = .slice (some ⟨W.heap.size, 0, none⟩) 1 1) (hm : d.line.length ≤ 1099511627776)
    (h : IsB W g vn (.slice A d.line.length n) vb d)
    (hk : ∀ A1 n1 w1, w1.cell? ⟨g, 4, none⟩ = some (.slice A d.line.length n) → w1.frozen? ⟨g, 4, none⟩ = false → Lined W (w1.setCell ⟨g, 4, none⟩ (.slice A1 (d.line.length + 1) n1)) g vn (.slice A d.line.length n) vb (.slice A1 (d.line.length + 1) n1) (d.addline c) → wpList Tryz.prog ops Q rest (a.put o.dst (.slice A1 (d.line.length + 1) n1)) w1) :
    wpList Tryz.prog ops Q (o :: rest) a (W.alloc (.cells #[.int .u8 c] 5)) := by
  refine print_append_num (w0 := W) 0 hgd s x 22 5 .u8 1 ho Tryz.underlying22 info5 (by decide) (.slice A d.line.length n) d.line c hs hx h.line (Below.refl _ _) (Nat.zero_le _) (by omega) ?_
  intro v1 w1 ho1 _ hg hat
  have hE := line_end h ho1 hg hat
  have hbk := lined_grown h hg
  obtain ⟨A1, n1, hv⟩ := own_slice ho1
  rw [show (d.line ++ [c]).length = d.line.length + 1 from by simp] at hv
  subst hv
  exact hk A1 n1 w1 ((blk_cell hbk 4).trans rfl) (blk_frozen hbk 4) hE
end
theorem line_C {w : World} {g n : Nat} {A : Option Addr} {vn vb : Value} {d : D} {c : Int} (h : IsB w g vn (.slice A (d.line.length + 1) n) vb (d.addline c)) : Kd.C (Kd.int .u8) w A (d.line.length + 1) (d.line ++ [c]) := by
  obtain ⟨A1, c1, h1, h2, h3⟩ := own_C h.line
  have hlen : (d.addline c).line.length = d.line.length + 1 := by simp [D.addline]
  rw [hlen] at h1 h3
  injection h1 with e1 e2 e3
  subst e1
  exact h3
theorem no_line {w : World} {g : Nat} {vn vl vb : Value} {d : D} (h : IsB w g vn vl vb d) : IsB (w.setCell ⟨g, 4, none⟩ (.slice none 0 0)) g vn (.slice none 0 0) vb d.nolines := by
  have k2 : Keep (fun k => k = g) w (w.setCell ⟨g, 4, none⟩ (.slice none 0 0)) := (Keep.refl (fun k => k = g) w).set (g := g) rfl 4 _
  exact ⟨blk_put h.blk 4 _ rfl, own_empty _, h.body.keep k2 fun i hi e => h.gb (e ▸ hi), by simp [Value.ownBlock], h.gb, fun k hk => by simp [Value.ownBlock] at hk⟩
theorem wt_noline {w : World} {F : Nat → Prop} {g : Nat} {vl vb : Value} (hF : ∀ k, Wt g vl vb k → F k ∨ w.heap.size ≤ k) : ∀ k, Wt g (.slice none 0 0) vb k → F k ∨ w.heap.size ≤ k := by
  rintro k (h | h | h)
  · exact hF k (.inl h)
  · simp [Value.ownBlock] at h
  · exact hF k (.inr (.inr h))
theorem e_more (vn vl vb : Value) (d : D) (n : Int) : (cellsD vn vl vb { d with left := n }).setIfInBounds 3 (.int .i64 (wrap64 (d.all + n))) = cellsD vn vl vb { d with left := n, all := wr (d.all + n) } := by rw [wr_eq]; rfl

set_option maxHeartbeats 4000000 in
set_option maxRecDepth 100000 in
theorem size_calls {tr : List Int → Option Nat} {w : World} {F : Nat → Prop} {g : Nat} {vn vl vb : Value} {d d' : D} (c : Int) (h : IsB w g vn vl vb d) (hF : ∀ k, Wt g vl vb k → F k) (hF0 : ¬ F 0) (hG : Glob w) (hst : d.st = .size) (hm : d.line.length ≤ 1099511627776) (hs : Dec.step num tr d c = some d') :
    Calls Tryz.prog 32 #[.pointer (some ⟨g, 0, none⟩), .int .u8 c] w fun e w' => ∃ v, e = .returned v ∧ After w w' F g vn v d' := by
  obtain ⟨A, n, hvl, hn⟩ := own_slice2 h.line
  subst hvl
  have H := Aside0.mk h
  have HM := Aside0.mk hm
  have HF := Aside0.mk hF
  have HF0 := Aside0.mk hF0
  have HG := Aside0.mk hG
  have HST := Aside0.mk hst
  have c4 : w.cell? ⟨g, 4, none⟩ = some (.slice A d.line.length n) := (h.cell 4).trans rfl
  unfold Dec.step at hs
  simp only [hst] at hs
  clear h hm hF hF0 hG hst hn
  by_cases hc : c = 10
  · subst hc
    rw [if_pos rfl] at hs
    obtain ⟨⟨x, is⟩, hn, hs⟩ := Option.map_eq_some_iff.1 hs
    have HN := Aside0.mk (show numF (strOfNums (d.line ++ [10])) = some (x, is) from hn)
    clear hn
    simp only at hs
    go_enter Tryz.func32, Tryz.ntmps32
    go_upto_region 6 with (first | ((with_reducible refine gate_builtin (b := .append) (xs := #[.tmp 11, .tmp 13]) rfl ?_); at_builtin; refine line_append rfl (.tmp 11) (.tmp 13) rfl rfl rfl HM.out H.out ?_; intro A1 n1 w1 c4 f4 hE; have HE := Aside0.mk hE; clear hE))
    have HGE := Aside0.mk (Glob.keep HG.out HE.out.2.2 fun h0 => HF0.out (HF.out 0 h0))
    obtain ⟨w2, hw2⟩ : ∃ w2, w2 = w1.setCell ⟨g, 4, none⟩ (.slice A1 (d.line.length + 1) n1) := ⟨_, rfl⟩
    rw [← hw2] at HE HGE ⊢
    clear hw2 c4
    have hC := line_C HE.out.b
    have hcv := C_string0 (P := Tryz.prog) (c := n1) Tryz.underlying22 Tryz.underlying5 Tryz.underlying9 hC
    have c4 : w2.cell? ⟨g, 4, none⟩ = some (.slice A1 (d.line.length + 1) n1) := (HE.out.b.cell 4).trans rfl
    clear hC
    go_upto_region 7 with (first | (go_at_call 46; (with_reducible refine (number_calls (strOfNums (d.line ++ [10])) x is _ HGE.out HN.out).mono ?_); rintro e w3 ⟨rfl, hb⟩; have HB := Aside0.mk hb; clear hb))
    clear hcv c4 f4
    have H3 := Aside0.mk (HE.out.b.below HB.out)
    have HK3 := Aside0.mk ((HE.out.2.2.mono fun i _ hi => HF.out i hi).step HB.out)
    have HWT := Aside0.mk (wt_line HF.out HE.out.2.1)
    have f4 := H3.out.fz 4
    have f2 := H3.out.fz 2
    have f3 := H3.out.fz 3
    have c4 : w3.cell? ⟨g, 4, none⟩ = some (.slice A1 (d.line.length + 1) n1) := (H3.out.cell 4).trans rfl
    have c3 : w3.cell? ⟨g, 3, none⟩ = some (.int .i64 d.all) := (H3.out.cell 3).trans rfl
    have c2 : w3.cell? ⟨g, 2, none⟩ = some (.int .i64 d.left) := (H3.out.cell 2).trans rfl
    have c1 : w3.cell? ⟨g, 1, none⟩ = some (.int .i64 d.most) := (H3.out.cell 1).trans rfl
    have HL := Aside0.mk (no_line H3.out)
    have HKL := Aside0.mk (HK3.out.set (HF.out g (.inl rfl)) 4 (.slice none 0 0))
    have HWL := Aside0.mk (wt_noline HWT.out)
    unfold sized at hs
    cases is with
    | false =>
      rw [if_pos rfl] at hs
      subst hs
      go_wp2_with (first | (go_at_call 34; (with_reducible refine (wrong_calls HL.out 12).mono ?_); rintro e w4 ⟨rfl, hB2, hk2⟩; have HB2 := Aside0.mk hB2; have HK2 := Aside0.mk hk2; clear hB2 hk2))
      go_ret
      exact ⟨_, rfl, After.nil rfl HB2.out HWL.out (HKL.out.trans HK2.out fun i _ e => HF.out i (.inl e))⟩
    | true =>
      rw [if_neg (by decide)] at hs
      have HM2 := Aside0.mk ((HL.out.put 2 (.int .i64 x) (vn' := vn) (d' := { (d.addline 10).nolines with left := x }) rfl rfl rfl).put 3 (.int .i64 (wrap64 (d.all + x))) (vn' := vn) (d' := (d.addline 10).more x) (e_more _ _ _ _ _) rfl rfl)
      have HKM := Aside0.mk ((HKL.out.set (HF.out g (.inl rfl)) 2 (.int .i64 x)).set (HF.out g (.inl rfl)) 3 (.int .i64 (wrap64 (d.all + x))))
      go_upto_region 12 with (fail)
      by_cases hgt : d.most < wr (d.all + x)
      · rw [show (d.addline 10).most = d.most from rfl, show (d.addline 10).all = d.all from rfl, if_pos hgt] at hs
        subst hs
        have b1 : decide (wrap64 (d.all + x) > d.most) = true := by rw [wr_eq]; exact decide_eq_true hgt
        have b2 : decide (d.most < wrap64 (d.all + x)) = true := b1
        clear hgt
        go_quiet (fail)
        go_wp2_with (first | (go_at_call 34; (with_reducible refine (wrong_calls (HM2.out.below (pw_below_drewN (Below.refl _ _) _)) 13).mono ?_); rintro e w4 ⟨rfl, hB2, hk2⟩; have HB2 := Aside0.mk hB2; have HK2 := Aside0.mk hk2; clear hB2 hk2))
        go_ret
        exact ⟨_, rfl, After.nil rfl HB2.out HWL.out ((HKM.out.drewN _).trans HK2.out fun i _ e => HF.out i (.inl e))⟩
      · rw [show (d.addline 10).most = d.most from rfl, show (d.addline 10).all = d.all from rfl, if_neg hgt] at hs
        have b1 : decide (wrap64 (d.all + x) > d.most) = false := by rw [wr_eq]; exact decide_eq_false hgt
        have b2 : decide (d.most < wrap64 (d.all + x)) = false := b1
        clear hgt
        by_cases hx : x = 0
        · rw [if_pos hx] at hs
          have b3 : (x == 0) = true := beq_iff_eq.2 hx
          subst hs
          clear hx
          go_quiet (fail)
          go_wp2
          go_ret
          exact ⟨_, rfl, After.on (by simp [D.go]) ((HM2.out.below (pw_below_drewN (Below.refl _ _) _)).go .trailer) HWL.out rfl (HKM.out.drewN _)⟩
        · rw [if_neg hx] at hs
          have b3 : (x == 0) = false := beq_eq_false_iff_ne.2 hx
          subst hs
          clear hx
          go_quiet (fail)
          go_wp2
          go_ret
          exact ⟨_, rfl, After.on (by simp [D.go]) ((HM2.out.below (pw_below_drewN (Below.refl _ _) _)).go .chunk) HWL.out rfl (HKM.out.drewN _)⟩
  · rw [if_neg hc] at hs
    have q1 : (c == 10) = false := beq_eq_false_iff_ne.2 hc
    have q2 : (c != 10) = true := bne_iff_ne.2 hc
    by_cases hl : 256 ≤ (d.line.length + 1 : Int)
    · rw [if_pos hl, Option.some.injEq] at hs
      subst hs
      have q3 : 256 ≤ d.line.length + 1 := by omega
      have q4 : decide (256 ≤ d.line.length + 1) = true := decide_eq_true q3
      have q5 : decide (256 ≤ (d.line.length : Int) + 1) = true := decide_eq_true (by omega)
      clear hc hl
      go_enter Tryz.func32, Tryz.ntmps32
      go_wp2_with (first | ((with_reducible refine gate_builtin (b := .append) (xs := #[.tmp 11, .tmp 13]) rfl ?_); at_builtin; refine line_append rfl (.tmp 11) (.tmp 13) rfl rfl rfl HM.out H.out ?_; intro A1 n1 w1 c4 f4 hE; have HE := Aside0.mk hE; clear hE) | (go_at_call 34; (with_reducible refine (wrong_calls HE.out.b 12).mono ?_); rintro e w2 ⟨rfl, hB2, hk2⟩; have HB2 := Aside0.mk hB2; have HK2 := Aside0.mk hk2; clear hB2 hk2))
      go_ret
      exact ⟨_, rfl, After.nil rfl HB2.out (wt_line HF.out HE.out.2.1) ((HE.out.2.2.mono fun i _ hi => HF.out i hi).trans HK2.out fun i _ e => HF.out i (.inl e))⟩
    · rw [if_neg hl, Option.some.injEq] at hs
      subst hs
      have q3 : ¬ 256 ≤ d.line.length + 1 := by omega
      have q4 : decide (256 ≤ d.line.length + 1) = false := decide_eq_false q3
      have q5 : decide (256 ≤ (d.line.length : Int) + 1) = false := decide_eq_false (by omega)
      clear hc hl
      go_enter Tryz.func32, Tryz.ntmps32
      go_wp2_with (first | ((with_reducible refine gate_builtin (b := .append) (xs := #[.tmp 11, .tmp 13]) rfl ?_); at_builtin; refine line_append rfl (.tmp 11) (.tmp 13) rfl rfl rfl HM.out H.out ?_; intro A1 n1 w1 c4 f4 hE; have HE := Aside0.mk hE; clear hE))
      go_ret
      have hs2 : (d.addline c).st = .size := HST.out
      exact ⟨_, rfl, After.on (by rw [hs2]; decide) HE.out.1 (wt_line HF.out HE.out.2.1) (by rw [hs2]; rfl) (HE.out.2.2.mono fun i _ hi => HF.out i hi)⟩

end Go.Proofs.YtfpcoanlkfgagaaGreatDoor.DecS
namespace Go.Proofs.YtfpcoanlkfgagaaGreatDoor.DecR
open Go.RowKit Go.Proofs.YtfpcoanlkfgagaaGreatDoorW.PrintWords Go.Proofs.YtfpcoanlkfgagaaGreatDoorW.PrintLast Go.Proofs.YtfpcoanlkfgagaaGreatDoor.Ext Go.Proofs.YtfpcoanlkfgagaaGreatDoor.Dec Go.Proofs.YtfpcoanlkfgagaaGreatDoor.DecW Go.Proofs.YtfpcoanlkfgagaaGreatDoor.DecA Go.Proofs.YtfpcoanlkfgagaaGreatDoor.DecB Go.Proofs.YtfpcoanlkfgagaaGreatDoor.DecN Go.Proofs.YtfpcoanlkfgagaaGreatDoor.DecT Go.Proofs.YtfpcoanlkfgagaaGreatDoor.DecS
set_option linter.unusedVariables false
set_option linter.unusedSimpArgs false
noncomputable def trF (s : ByteArray) : Option Nat :=
  if s.size < 4294967281 then
    if Lib.hasSuffix s.data.toList [13, 10] = true then
      if lineS s = [] then some 0
      else if (Lib.cut (lineS s) [58]).2.2 = false then some 1
      else (mayName.f ⟨(Lib.cut (lineS s) [58]).1.toArray⟩).bind fun a => if a = false then some 1 else (mayText.f ⟨(Lib.cut (lineS s) [58]).2.1.toArray⟩).bind fun b => if b = false then some 1 else some 2
    else some 1
  else none
noncomputable def tr (l : List Int) : Option Nat := trF (strOfNums l)
theorem cut_call2 (s : ByteArray) (w : World) (hs : s.size < 4294967281) (hG : Glob w) :
    Calls Tryz.prog 57 #[.string ⟨(lineS s).toArray⟩, .string ⟨#[58]⟩] w fun e w' => e = .returned (.tuple #[.string ⟨(Lib.cut (lineS s) [58]).1.toArray⟩, .string ⟨(Lib.cut (lineS s) [58]).2.1.toArray⟩, .bool (Lib.cut (lineS s) [58]).2.2]) ∧ Below w.heap.size w w' := by
  have hl : (⟨(lineS s).toArray⟩ : ByteArray).size < 4294967281 := by
    rw [toSize]
    have := trimSuffix_le s.data.toList [13, 10]
    rw [data_length] at this
    unfold lineS
    omega
  refine (strings_Cut.calls ⟨(lineS s).toArray⟩ ⟨#[58]⟩ _ _ _ w hG (by unfold strings_Cut.f; rw [if_pos hl])).mono ?_
  rintro e w' ⟨he, n, rfl⟩
  exact ⟨he, pw_below_drewN (Below.refl _ _) n⟩
set_option maxHeartbeats 1000000 in
set_option maxRecDepth 100000 in
/-- What must has made, called. -/
theorem must_made {num : List Int → Option (Int × Bool)} {tr : List Int → Option Nat} {w : World} {F : Nat → Prop} {g a b : Nat} {vn vl vb v2 : Value} {d d' : D} (c k : Int) (h : IsB w g vn vl vb d) (hF : ∀ k, Wt g vl vb k → F k) (ha : w.heap[a]? = some (.cells #[.int .u8 k] 5 (0, 0))) (hb : w.heap[b]? = some (.cells #[v2] 70 (0, 0)))
    (hv : v2 = fnS 32 ∨ ∃ a b, v2 = .func (.func 90) #[] #[.pointer (some ⟨a, 0, none⟩), .pointer (some ⟨b, 0, none⟩)])
    (s : St) (hs0 : s ≠ .nil) (hV : FnV w (fun k => F k ∧ ¬ Wt g vl vb k) v2 s) (hs : d' = if c = k then d.go s else d.wrong 12) :
    Calls Tryz.prog 90 #[.pointer (some ⟨g, 0, none⟩), .int .u8 c, .pointer (some ⟨a, 0, none⟩), .pointer (some ⟨b, 0, none⟩)] w fun e w' => ∃ v, e = .returned v ∧ After w w' F g vn v d' := by
  have H := Aside0.mk h
  have HF := Aside0.mk hF
  have HV := Aside0.mk hV
  have HS0 := Aside0.mk hs0
  have ca : w.cell? ⟨a, 0, none⟩ = some (.int .u8 k) := (blk_cell ha 0).trans rfl
  have cb : w.cell? ⟨b, 0, none⟩ = some v2 := (blk_cell hb 0).trans rfl
  clear h hF hV hs0 ha hb
  by_cases hc : c = k
  · rw [if_pos hc] at hs
    subst hs
    have q1 : (c == k) = true := beq_iff_eq.2 hc
    have q2 : (c != k) = false := bne_eq_false_iff_eq.2 hc
    clear hc
    rcases hv with rfl | ⟨a2, b2, rfl⟩
    all_goals ((try unfold fnS at cb); (try unfold fnS at HV); go_enter Tryz.func90, Tryz.ntmps90; go_wp2; go_ret; exact ⟨_, rfl, After.on HS0.out (H.out.go s) (fun k hk => .inl (HF.out k hk)) (HV.out.keep (Keep.refl (fun _ => False) w) (fun _ _ _ => id) fun i _ hg => ⟨.inl hg.1, hg.2⟩) (Keep.refl F w)⟩)
  · rw [if_neg hc] at hs
    subst hs
    have q1 : (c == k) = false := beq_eq_false_iff_ne.2 hc
    have q2 : (c != k) = true := bne_iff_ne.2 hc
    clear hc
    rcases hv with rfl | ⟨a2, b2, rfl⟩
    all_goals ((try unfold fnS at cb); (try unfold fnS at HV); go_enter Tryz.func90, Tryz.ntmps90; go_wp2_with (first | (go_at_call 34; (with_reducible refine (wrong_calls H.out 12).mono ?_); rintro e w2 ⟨rfl, hB2, hk2⟩; have HB2 := Aside0.mk hB2; have HK2 := Aside0.mk hk2; clear hB2 hk2)); go_ret; exact ⟨_, rfl, After.nil rfl HB2.out (fun k hk => .inl (HF.out k hk)) (HK2.out.mono fun i _ e => HF.out i (.inl e))⟩)
theorem ne_empty2 {l : List UInt8} : (⟨l.toArray⟩ : ByteArray).toList.isEmpty = (l == []) := by
  cases l with
  | nil =>
    rw [← decide_eq_emptyBytes, decide_eq_true]
    · rfl
    · rfl
  | cons a l =>
    rw [← decide_eq_emptyBytes, decide_eq_false]
    · rfl
    · intro h
      have := congrArg ByteArray.size h
      rw [toSize] at this
      simp at this
theorem setCell_size (w : World) (a : Addr) (v : Value) : (w.setCell a v).heap.size = w.heap.size := by simp [World.setCell]
theorem e_tails (vn vl vb : Value) (d : D) : (cellsD vn vl vb d).setIfInBounds 5 (.int .i64 (wrap64 (d.tail + 1))) = cellsD vn vl vb d.tails := by rw [wr_eq]; rfl

set_option maxHeartbeats 4000000 in
set_option maxRecDepth 100000 in
theorem trailer_calls {num : List Int → Option (Int × Bool)} {w : World} {F : Nat → Prop} {g : Nat} {vn vl vb : Value} {d d' : D} (c : Int) (h : IsB w g vn vl vb d) (hF : ∀ k, Wt g vl vb k → F k) (hF0 : ¬ F 0) (hG : Glob w) (hst : d.st = .trailer) (hm : d.line.length ≤ 1099511627776) (hs : Dec.step num tr d c = some d') :
    Calls Tryz.prog 47 #[.pointer (some ⟨g, 0, none⟩), .int .u8 c] w fun e w' => ∃ v, e = .returned v ∧ After w w' F g vn v d' := by
  obtain ⟨A, n, hvl, hn⟩ := own_slice2 h.line
  subst hvl
  obtain ⟨d1, hd1⟩ : ∃ d1, d1 = d.tails := ⟨_, rfl⟩
  have hl1 : d1.line = d.line := by rw [hd1]; rfl
  have hst1 : d1.st = .trailer := by rw [hd1]; exact hst
  have h5 : IsB (w.setCell ⟨g, 5, none⟩ (.int .i64 (wrap64 (d.tail + 1)))) g vn (.slice A d.line.length n) vb d1 := by rw [hd1]; exact h.put 5 _ (e_tails _ _ _ _) rfl rfl
  have c4 : w.cell? ⟨g, 4, none⟩ = some (.slice A d.line.length n) := (h.cell 4).trans rfl
  have c5 : w.cell? ⟨g, 5, none⟩ = some (.int .i64 d.tail) := (h.cell 5).trans rfl
  have f5 := h.fz 5
  have f4 := h.fz 4
  have HF := Aside0.mk hF
  rw [← hl1] at h5 c4 hm hF
  have H5 := Aside0.mk h5
  have HM := Aside0.mk hm
  have HF := Aside0.mk hF
  have HF0 := Aside0.mk hF0
  have HG := Aside0.mk (Glob.keep hG ((Keep.refl F w).set (g := g) (hF g (.inl rfl)) 5 (.int .i64 (wrap64 (d.tail + 1)))) hF0)
  have HK := Aside0.mk ((Keep.refl F w).set (g := g) (hF g (.inl rfl)) 5 (.int .i64 (wrap64 (d.tail + 1))))
  have HST := Aside0.mk hst1
  unfold Dec.step at hs
  simp only [hst] at hs
  rw [show (d.tails).wrong 12 = d1.wrong 12 by rw [hd1], show d.tails.addline c = d1.addline c by rw [hd1], ← hl1] at hs
  clear h hm hF hF0 hG hst hn h5 hst1 hd1 hl1
  by_cases ht : 8192 < wr (d.tail + 1)
  · rw [if_pos ht, Option.some.injEq] at hs
    subst hs
    have b1 : decide (wrap64 (d.tail + 1) > 8192) = true := by rw [wr_eq]; exact decide_eq_true ht
    have b2 : decide (8192 < wrap64 (d.tail + 1)) = true := b1
    clear ht
    go_enter Tryz.func47, Tryz.ntmps47
    go_wp2_with (first | (go_at_call 34; (with_reducible refine (wrong_calls H5.out 12).mono ?_); rintro e w2 ⟨rfl, hB2, hk2⟩; have HB2 := Aside0.mk hB2; have HK2 := Aside0.mk hk2; clear hB2 hk2))
    go_ret
    exact ⟨_, rfl, After.nil rfl HB2.out (fun k hk => .inl (HF.out k hk)) (HK.out.trans HK2.out fun i _ e => HF.out i (.inl e))⟩
  · rw [if_neg ht] at hs
    have b1 : decide (wrap64 (d.tail + 1) > 8192) = false := by rw [wr_eq]; exact decide_eq_false ht
    have b2 : decide (8192 < wrap64 (d.tail + 1)) = false := b1
    clear ht
    by_cases hc : c = 10
    · subst hc
      rw [if_pos rfl] at hs
      obtain ⟨kk, hn, hs⟩ := Option.map_eq_some_iff.1 hs
      unfold tr trF at hn
      split at hn
      case isFalse => cases hn
      rename_i hsz
      have C1' := fun w => suffix_call (strOfNums (d1.line ++ [10])) w hsz
      have C2' := fun w hG => cut_call2 (strOfNums (d1.line ++ [10])) w hsz hG
      clear hsz
      generalize lineS (strOfNums (d1.line ++ [10])) = ln at C1' C2' hn
      generalize Lib.cut ln [58] = cc at C2' hn
      obtain ⟨p1, p2, colon⟩ := cc
      simp only at C2' hn
      have C4' := fun r w hr => mayName.calls ⟨p1.toArray⟩ r w hr
      have C5' := fun r w hr => mayText.calls ⟨p2.toArray⟩ r w hr
      have le1 := ne_empty (l := ln)
      have le2 := ne_empty2 (l := ln)
      generalize (⟨ln.toArray⟩ : ByteArray) = LN at C1' C2' le1 le2
      generalize (⟨p1.toArray⟩ : ByteArray) = P1 at C2' C4' hn
      generalize (⟨p2.toArray⟩ : ByteArray) = P2 at C2' C5' hn
      generalize Lib.hasSuffix (strOfNums (d1.line ++ [10])).data.toList [13, 10] = bs at C1' hn
      have C1 := Aside0.mk C1'
      have C2 := Aside0.mk C2'
      have C4o := Aside0.mk C4'
      have C5o := Aside0.mk C5'
      have HN := Aside0.mk hn
      have HS := Aside0.mk hs
      have LE1 := Aside0.mk le1
      have LE2 := Aside0.mk le2
      clear C1' C2' C4' C5' hn hs le1 le2
      go_enter Tryz.func47, Tryz.ntmps47
      go_upto_region 7 with (first | ((with_reducible refine gate_builtin (b := .append) (xs := #[.tmp 28, .tmp 30]) rfl ?_); at_builtin; refine line_append rfl (.tmp 28) (.tmp 30) rfl rfl (show Value.slice (some ⟨w.heap.size, 0, none⟩) 1 1 = _ by simp [World.setCell]) HM.out H5.out ?_; intro A1 n1 w1 c4 f4 hE; have HE := Aside0.mk hE; clear hE))
      have HGE := Aside0.mk (Glob.keep HG.out HE.out.2.2 fun h0 => HF0.out (HF.out 0 h0))
      have HWT := Aside0.mk (wt_line HF.out (by have h1 := HE.out.2.1; rwa [setCell_size] at h1))
      obtain ⟨w2, hw2⟩ : ∃ w2, w2 = w1.setCell ⟨g, 4, none⟩ (.slice A1 (d1.line.length + 1) n1) := ⟨_, rfl⟩
      rw [← hw2] at HE HGE ⊢
      have HK2 := Aside0.mk (HK.out.trans HE.out.2.2 fun i _ hi => HF.out i hi)
      have H2 := Aside0.mk HE.out.b
      clear hw2 c4 c5 f4 f5 HE H5 HK HG b1 b2
      have hC := line_C H2.out
      have hcv := C_string0 (P := Tryz.prog) (c := n1) Tryz.underlying22 Tryz.underlying5 Tryz.underlying9 hC
      have c4 : w2.cell? ⟨g, 4, none⟩ = some (.slice A1 (d1.line.length + 1) n1) := (H2.out.cell 4).trans rfl
      clear hC
      go_upto_region 9 with (first | (go_at_call 69; (with_reducible refine (C1.out _).mono ?_); rintro e w3 ⟨rfl, rfl⟩) | (go_at_call 57; (with_reducible refine (C2.out _ HGE.out).mono ?_); rintro e w4 ⟨rfl, hb⟩; have HB := Aside0.mk hb; clear hb))
      clear hcv c4
      have H3 := Aside0.mk (H2.out.below HB.out)
      have HK3 := Aside0.mk (HK2.out.step HB.out)
      have f4 := H3.out.fz 4
      have c4 : w4.cell? ⟨g, 4, none⟩ = some (.slice A1 (d1.line.length + 1) n1) := (H3.out.cell 4).trans rfl
      have HL := Aside0.mk (no_line H3.out)
      have HKL := Aside0.mk (HK3.out.set (HF.out g (.inl rfl)) 4 (.slice none 0 0))
      have HWL := Aside0.mk (wt_noline HWT.out)
      go_upto_region 10 with (fail)
      have hn := HN.out
      have hs := HS.out
      cases bs with
      | false =>
        simp only [Bool.false_eq_true, if_false, Option.some.injEq] at hn
        subst hn
        subst hs
        clear HN HS C4o C5o C1 C2 LE1 LE2
        go_wp2_with (first | (go_at_call 34; (with_reducible refine (wrong_calls HL.out 12).mono ?_); rintro e w7 ⟨rfl, hB2, hk2⟩; have HB2 := Aside0.mk hB2; have HK2 := Aside0.mk hk2; clear hB2 hk2))
        go_ret
        exact ⟨_, rfl, After.nil rfl HB2.out HWL.out (HKL.out.trans HK2.out fun i _ e => HF.out i (.inl e))⟩
      | true =>
        rw [if_pos rfl] at hn
        by_cases hl0 : ln = []
        · rw [if_pos hl0, Option.some.injEq] at hn
          subst hn
          subst hs
          subst hl0
          have le1 : (LN == ⟨#[]⟩) = true := LE1.out
          have le2 : LN.toList.isEmpty = true := LE2.out
          clear HN HS C4o C5o C1 C2 LE1 LE2
          go_wp2_with (first | (go_at_call 35; (with_reducible refine (ends_calls HL.out).mono ?_); rintro e w7 ⟨rfl, hB2, hk2⟩; have HB2 := Aside0.mk hB2; have HK2 := Aside0.mk hk2; clear hB2 hk2))
          go_ret
          exact ⟨_, rfl, After.nil rfl HB2.out HWL.out (HKL.out.trans HK2.out fun i _ e => HF.out i (.inl e))⟩
        · rw [if_neg hl0] at hn
          have le1 : (LN == ⟨#[]⟩) = false := by rw [LE1.out]; simpa using hl0
          have le2 : LN.toList.isEmpty = false := by rw [LE2.out]; simpa using hl0
          cases colon with
          | false =>
            rw [if_pos rfl, Option.some.injEq] at hn
            subst hn
            subst hs
            clear HN HS C4o C5o C1 C2 LE1 LE2 hl0
            go_wp2_with (first | (go_at_call 34; (with_reducible refine (wrong_calls HL.out 12).mono ?_); rintro e w7 ⟨rfl, hB2, hk2⟩; have HB2 := Aside0.mk hB2; have HK2 := Aside0.mk hk2; clear hB2 hk2))
            go_ret
            exact ⟨_, rfl, After.nil rfl HB2.out HWL.out (HKL.out.trans HK2.out fun i _ e => HF.out i (.inl e))⟩
          | true =>
            rw [if_neg (by decide)] at hn
            obtain ⟨a, ha, hn⟩ := Option.bind_eq_some_iff.1 hn
            have CN := Aside0.mk (fun w => C4o.out a w ha)
            cases a with
            | false =>
              rw [if_pos rfl, Option.some.injEq] at hn
              subst hn
              subst hs
              clear HN HS C4o C5o C1 C2 LE1 LE2 hl0 ha
              go_wp2_with (first | (go_at_call 58; (with_reducible refine (CN.out _).mono ?_); rintro e w5 ⟨rfl, hb⟩; have HB5 := Aside0.mk hb; have HL5 := Aside0.mk (HL.out.below hb); clear hb) | (go_at_call 34; (with_reducible refine (wrong_calls HL5.out 12).mono ?_); rintro e w7 ⟨rfl, hB2, hk2⟩; have HB2 := Aside0.mk hB2; have HK2 := Aside0.mk hk2; clear hB2 hk2))
              go_ret
              exact ⟨_, rfl, After.nil rfl HB2.out HWL.out ((HKL.out.step HB5.out).trans HK2.out fun i _ e => HF.out i (.inl e))⟩
            | true =>
              rw [if_neg (by decide)] at hn
              obtain ⟨b, hb, hn⟩ := Option.bind_eq_some_iff.1 hn
              have CT := Aside0.mk (fun w => C5o.out b w hb)
              cases b with
              | false =>
                rw [if_pos rfl, Option.some.injEq] at hn
                subst hn
                subst hs
                clear HN HS C4o C5o C1 C2 LE1 LE2 hl0 ha hb
                go_wp2_with (first | (go_at_call 58; (with_reducible refine (CN.out _).mono ?_); rintro e w5 ⟨rfl, hb⟩; have HB5 := Aside0.mk hb; have HL5 := Aside0.mk (HL.out.below hb); clear hb) | (go_at_call 56; (with_reducible refine (CT.out _).mono ?_); rintro e w6 ⟨rfl, hb⟩; have HB6 := Aside0.mk hb; have HL6 := Aside0.mk (HL5.out.below hb); clear hb) | (go_at_call 34; (with_reducible refine (wrong_calls HL6.out 12).mono ?_); rintro e w7 ⟨rfl, hB2, hk2⟩; have HB2 := Aside0.mk hB2; have HK2 := Aside0.mk hk2; clear hB2 hk2))
                go_ret
                exact ⟨_, rfl, After.nil rfl HB2.out HWL.out (((HKL.out.step HB5.out).step HB6.out).trans HK2.out fun i _ e => HF.out i (.inl e))⟩
              | true =>
                rw [if_neg (by decide), Option.some.injEq] at hn
                subst hn
                subst hs
                clear HN HS C4o C5o C1 C2 LE1 LE2 hl0 ha hb
                go_wp2_with (first | (go_at_call 58; (with_reducible refine (CN.out _).mono ?_); rintro e w5 ⟨rfl, hb⟩; have HB5 := Aside0.mk hb; have HL5 := Aside0.mk (HL.out.below hb); clear hb) | (go_at_call 56; (with_reducible refine (CT.out _).mono ?_); rintro e w6 ⟨rfl, hb⟩; have HB6 := Aside0.mk hb; have HL6 := Aside0.mk (HL5.out.below hb); clear hb))
                go_ret
                have hs2 : ((d1.addline 10).nolines).st = .trailer := HST.out
                exact ⟨_, rfl, After.on (by show ((d1.addline 10).nolines).st ≠ .nil; rw [hs2]; decide) HL6.out HWL.out (by show FnV _ _ _ ((d1.addline 10).nolines).st; rw [hs2]; rfl) ((HKL.out.step HB5.out).step HB6.out)⟩
    · rw [if_neg hc, Option.some.injEq] at hs
      subst hs
      have q1 : (c == 10) = false := beq_eq_false_iff_ne.2 hc
      have q2 : (c != 10) = true := bne_iff_ne.2 hc
      clear hc
      go_enter Tryz.func47, Tryz.ntmps47
      go_wp2_with (first | ((with_reducible refine gate_builtin (b := .append) (xs := #[.tmp 28, .tmp 30]) rfl ?_); at_builtin; refine line_append rfl (.tmp 28) (.tmp 30) rfl rfl (show Value.slice (some ⟨w.heap.size, 0, none⟩) 1 1 = _ by simp [World.setCell]) HM.out H5.out ?_; intro A1 n1 w1 c4 f4 hE; have HE := Aside0.mk hE; clear hE))
      go_ret
      have hs2 : (d1.addline c).st = .trailer := HST.out
      exact ⟨_, rfl, After.on (by rw [hs2]; decide) HE.out.b (wt_line HF.out (by have h1 := HE.out.2.1; rwa [setCell_size] at h1)) (by rw [hs2]; rfl) (HK.out.trans HE.out.2.2 fun i _ hi => HF.out i hi)⟩

end Go.Proofs.YtfpcoanlkfgagaaGreatDoor.DecR
