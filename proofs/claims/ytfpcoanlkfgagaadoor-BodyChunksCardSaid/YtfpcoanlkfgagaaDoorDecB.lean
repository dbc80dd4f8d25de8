/- The walks of the decoder's states: must, what it makes, whole, rest, chunk. -/
import Derived.Test.YtfpcoanlkfgagaaDoorDecA
import Derived.Laws.EntriesVeiled
import Derived.Below
import Derived.Deep.Draws
import Derived.Deep.AppendLies
import Derived.Maps.AppendAt
import Derived.OwnWalk
import Derived.Laws.BytesArg
import Derived.Laws.MakeOwn
import Derived.Laws.OwnMore
import Derived.Deep.OwnRows
import Derived.Tactics
import Derived.Lib.ConvBytes
import Derived.Laws.Slices
import Derived.WalkKit
import Derived.KernelRfl
import Derived.RowKit3
import Derived.Deep.LoopGhost
import Derived.Deep.QuietTactic
import Derived.BigQuiet
import Derived.WideLaws
import Derived.Deep.DeepCutAuto
import Derived.Deep.CutBlock
import Derived.Deep.RegionHeld3
import Derived.Laws.Rows
import Derived.Lib.AppendStr
import Derived.ArgAppend
import Derived.Laws.IdiomCopy
import Derived.OrdersHeld
import Derived.Laws.BitsLemmas
import Derived.RowKit
import Derived.WalkMore
import Derived.Test.YtfpcoanlkfgagaaDoorWWords
import Derived.Test.YtfpcoanlkfgagaaDoorWLast
import Derived.Test.YtfpcoanlkfgagaaDoorWMore
import Derived.Test.YtfpcoanlkfgagaaDoorWTab
namespace Go.Proofs.YtfpcoanlkfgagaaDoor.DecB
open Go.RowKit Go.Proofs.YtfpcoanlkfgagaaDoorW.PrintWords Go.Proofs.YtfpcoanlkfgagaaDoorW.PrintLast Go.Proofs.YtfpcoanlkfgagaaDoor.Ext Go.Proofs.YtfpcoanlkfgagaaDoor.Dec Go.Proofs.YtfpcoanlkfgagaaDoor.DecW Go.Proofs.YtfpcoanlkfgagaaDoor.DecA
set_option linter.unusedVariables false
set_option linter.unusedSimpArgs false
theorem wr_eq (n : Int) : wrap64 n = wr n := by unfold wrap64 wr; omega
theorem e_less (vn vl vb : Value) (d : D) : (cellsD vn vl vb d).setIfInBounds 2 (.int .i64 (wrap64 (d.left - 1))) = cellsD vn vl vb d.less := by rw [wr_eq]; rfl
theorem hmf : ∀ (fn : Fn) (first cap : Array Value) (w : World), (Instr.makeFunc fn first cap).run Tryd.prog w = .ok (.func fn first cap) w := fun _ _ _ _ => rfl
set_option maxHeartbeats 1000000 in
set_option maxRecDepth 100000 in
/-- must makes a function's value over two new cells. -/
theorem must_calls (w : World) (x : Int) (v : Value) (hv : v = fnS 30 ∨ ∃ a b, v = .func (.func 86) #[] #[.pointer (some ⟨a, 0, none⟩), .pointer (some ⟨b, 0, none⟩)]) :
    Calls Tryd.prog 66 #[.int .u8 x, v] w fun e w' => ∃ a b, e = .returned (.func (.func 86) #[] #[.pointer (some ⟨a, 0, none⟩), .pointer (some ⟨b, 0, none⟩)]) ∧ w'.heap[a]? = some (.cells #[.int .u8 x] 5 (0, 0)) ∧ w'.heap[b]? = some (.cells #[v] 52 (0, 0)) ∧ w.heap.size ≤ a ∧ w.heap.size ≤ b ∧ Below w.heap.size w w' := by
  have hmf := hmf
  have e1 := blk_alloc (blk_new w (.cells #[.int .u8 x] 5)) (.cells #[v] 52)
  have e2 := blk_new (w.alloc (.cells #[.int .u8 x] 5)) (.cells #[v] 52)
  have e3 : (w.alloc (.cells #[.int .u8 x] 5)).heap.size = w.heap.size + 1 := by simp
  rw [e3] at e2
  have E1 := Aside0.mk e1
  have E2 := Aside0.mk e2
  clear e1 e2 e3
  rcases hv with rfl | ⟨a, b, rfl⟩
  all_goals unfold fnS at *
  all_goals go_enter Tryd.func66, Tryd.ntmps66
  all_goals go_wp2
  all_goals go_ret
  all_goals exact ⟨_, _, rfl, E1.out, E2.out, Nat.le_refl _, Nat.le_succ _, below_alloc (below_alloc (Below.refl _ _) _) _⟩

set_option maxHeartbeats 2000000 in
set_option maxRecDepth 100000 in
theorem whole_calls {num : List Int → Option (Int × Bool)} {tr : List Int → Option Nat} {w : World} {F : Nat → Prop} {g : Nat} {vn vl vb : Value} {d d' : D} (c : Int) (h : IsB w g vn vl vb d) (hF : ∀ k, Wt g vl vb k → F k) (hst : d.st = .whole) (hm : d.body.length ≤ 1099511627776) (hs : Dec.step num tr d c = some d') :
    Calls Tryd.prog 31 #[.pointer (some ⟨g, 0, none⟩), .int .u8 c] w fun e w' => ∃ v, e = .returned v ∧ After w w' F g vn v d' := by
  have H := Aside0.mk h
  have HM := Aside0.mk hm
  have HF := Aside0.mk hF
  have HST := Aside0.mk hst
  unfold Dec.step at hs
  simp only [hst, Option.some.injEq] at hs
  clear h hm hF hst
  by_cases hz : wr (d.left - 1) = 0
  · rw [if_pos hz] at hs
    subst hs
    have b1 : (wrap64 (d.left - 1) == 0) = true := by rw [wr_eq, hz]; rfl
    clear hz
    go_enter Tryd.func31, Tryd.ntmps31
    go_wp2_with (first | (go_at_call 52; (with_reducible refine (put_calls H.out c HM.out).mono ?_); rintro e w1 ⟨rfl, vb1, hB, hat, hk⟩; have c2 : w1.cell? ⟨g, 2, none⟩ = some (.int .i64 d.left) := (hB.cell 2).trans rfl; have f2 := hB.fz 2; have HL := Aside0.mk (hB.put 2 (.int .i64 (wrap64 (d.left - 1))) (vn' := vn) (d' := (d.put c).less) (e_less vn vl vb1 (d.put c)) rfl rfl); have HAT := Aside0.mk hat; have HK := Aside0.mk hk; clear hB hat hk) | (go_at_call 33; (with_reducible refine (ends_calls HL.out).mono ?_); rintro e w2 ⟨rfl, hB2, hk2⟩; have HB2 := Aside0.mk hB2; have HK2 := Aside0.mk hk2; clear hB2 hk2))
    go_ret
    exact ⟨_, rfl, After.nil rfl HB2.out (wt_put HF.out HAT.out) ((HK.out.mono fun i _ hi => HF.out i hi).trans ((((Keep.refl (fun k => k = g) w1).set (g := g) rfl 2 _)).trans HK2.out fun _ _ e => e) fun i _ e => HF.out i (.inl e))⟩
  · rw [if_neg hz] at hs
    subst hs
    have b1 : (wrap64 (d.left - 1) == 0) = false := by rw [wr_eq]; exact beq_eq_false_iff_ne.2 hz
    clear hz
    go_enter Tryd.func31, Tryd.ntmps31
    go_wp2_with (first | (go_at_call 52; (with_reducible refine (put_calls H.out c HM.out).mono ?_); rintro e w1 ⟨rfl, vb1, hB, hat, hk⟩; have c2 : w1.cell? ⟨g, 2, none⟩ = some (.int .i64 d.left) := (hB.cell 2).trans rfl; have f2 := hB.fz 2; have HL := Aside0.mk (hB.put 2 (.int .i64 (wrap64 (d.left - 1))) (vn' := vn) (d' := (d.put c).less) (e_less vn vl vb1 (d.put c)) rfl rfl); have HAT := Aside0.mk hat; have HK := Aside0.mk hk; clear hB hat hk))
    go_ret
    have hs2 : (d.put c).less.st = .whole := HST.out
    exact ⟨_, rfl, After.on (by rw [hs2]; decide) HL.out (wt_put HF.out HAT.out) (by rw [hs2]; rfl) ((HK.out.mono fun i _ hi => HF.out i hi).trans ((Keep.refl (fun k => k = g) w1).set (g := g) rfl 2 _) fun i _ e => HF.out i (.inl e))⟩
set_option maxHeartbeats 2000000 in
set_option maxRecDepth 100000 in
theorem rest_calls {num : List Int → Option (Int × Bool)} {tr : List Int → Option Nat} {w : World} {F : Nat → Prop} {g : Nat} {vn vl vb : Value} {d d' : D} (c : Int) (h : IsB w g vn vl vb d) (hF : ∀ k, Wt g vl vb k → F k) (hst : d.st = .rest) (hm : d.body.length ≤ 1099511627776) (hs : Dec.step num tr d c = some d') :
    Calls Tryd.prog 34 #[.pointer (some ⟨g, 0, none⟩), .int .u8 c] w fun e w' => ∃ v, e = .returned v ∧ After w w' F g vn v d' := by
  have H := Aside0.mk h
  have HM := Aside0.mk hm
  have HF := Aside0.mk hF
  have HST := Aside0.mk hst
  unfold Dec.step at hs
  simp only [hst, Option.some.injEq] at hs
  clear h hm hF hst
  obtain ⟨A, n, hvb, hn⟩ := own_slice2 H.out.body
  subst hvb
  have c6 : w.cell? ⟨g, 6, none⟩ = some (.slice A d.body.length n) := (H.out.cell 6).trans rfl
  have c1 : w.cell? ⟨g, 1, none⟩ = some (.int .i64 d.most) := (H.out.cell 1).trans rfl
  clear hn
  by_cases hz : d.most ≤ d.body.length
  · rw [if_pos hz] at hs
    subst hs
    have b1 : decide ((d.body.length : Int) ≥ d.most) = true := decide_eq_true hz
    have b2 : decide (d.most ≤ (d.body.length : Int)) = true := decide_eq_true hz
    clear hz
    go_enter Tryd.func34, Tryd.ntmps34
    go_wp2
    go_quiet (fail)
    go_wp2_with (first | (go_at_call 32; (with_reducible refine (wrong_calls (H.out.below (pw_below_drewN (Below.refl _ _) _)) 13).mono ?_); rintro e w2 ⟨rfl, hB2, hk2⟩; have HB2 := Aside0.mk hB2; have HK2 := Aside0.mk hk2; clear hB2 hk2))
    go_ret
    exact ⟨_, rfl, After.nil rfl HB2.out (fun k hk => .inl (HF.out k hk)) (((Keep.refl F w).drewN _).trans HK2.out fun i _ e => HF.out i (.inl e))⟩
  · rw [if_neg hz] at hs
    subst hs
    have b1 : decide ((d.body.length : Int) ≥ d.most) = false := decide_eq_false hz
    have b2 : decide (d.most ≤ (d.body.length : Int)) = false := decide_eq_false hz
    clear hz
    go_enter Tryd.func34, Tryd.ntmps34
    go_wp2
    go_quiet (fail)
    go_wp2_with (first | (go_at_call 52; (with_reducible refine (put_calls (H.out.below (pw_below_drewN (Below.refl _ _) _)) c HM.out).mono ?_); rintro e w1 ⟨rfl, vb1, hB, hat, hk⟩; have HB := Aside0.mk hB; have HAT := Aside0.mk hat; have HK := Aside0.mk hk; clear hB hat hk))
    go_ret
    have hs2 : (d.put c).st = .rest := HST.out
    exact ⟨_, rfl, After.on (by rw [hs2]; decide) HB.out (wt_put HF.out HAT.out) (by rw [hs2]; rfl) (((Keep.refl F w).drewN _).trans HK.out fun i _ hi => HF.out i hi)⟩
theorem chunk_end {w w1 w2 w3 w4 : World} {F : Nat → Prop} {g a3 b3 a4 b4 : Nat} {vn vl vb vb1 : Value} {d : D} (hL : IsB w2 g vn vl vb1 d) (hF : ∀ k, Wt g vl vb k → F k) (hat : vb1.ownBlock = vb.ownBlock ∨ ∃ b, vb1.ownBlock = some b ∧ w.heap.size ≤ b) (hk : Keep (Wt g vl vb) w w1) (hw2 : Keep (fun k => k = g) w1 w2)
    (ma : w3.heap[a3]? = some (.cells #[.int .u8 10] 5 (0, 0))) (mb : w3.heap[b3]? = some (.cells #[fnS 30] 52 (0, 0))) (la : w2.heap.size ≤ a3) (lb : w2.heap.size ≤ b3) (be : Below w2.heap.size w2 w3)
    (ma4 : w4.heap[a4]? = some (.cells #[.int .u8 13] 5 (0, 0))) (mb4 : w4.heap[b4]? = some (.cells #[.func (.func 86) #[] #[.pointer (some ⟨a3, 0, none⟩), .pointer (some ⟨b3, 0, none⟩)]] 52 (0, 0))) (la4 : w3.heap.size ≤ a4) (lb4 : w3.heap.size ≤ b4) (be4 : Below w3.heap.size w3 w4) :
    After w w4 F g vn (.func (.func 86) #[] #[.pointer (some ⟨a4, 0, none⟩), .pointer (some ⟨b4, 0, none⟩)]) (d.go .must1) := by
  have hs1 : w.heap.size ≤ w2.heap.size := Nat.le_trans hk.size hw2.size
  have hs2 : w2.heap.size ≤ w3.heap.size := be.size
  have hnew : ∀ k, w2.heap.size ≤ k → (F k ∨ w.heap.size ≤ k) ∧ ¬ Wt g vl vb1 k := by
    intro k hk2
    refine ⟨.inr (Nat.le_trans hs1 hk2), ?_⟩
    rintro (h | h | h)
    · have := hL.lt; omega
    · have := hL.line.lt h; omega
    · have := hL.body.lt h; omega
  refine After.on (by simp [D.go]) (((hL.below be).below be4).go .must1) (wt_put hF hat) ?_ (((hk.mono fun i _ hi => hF i hi).trans hw2 fun i _ e => hF i (.inl e)).step be |>.step be4)
  exact ⟨a4, b4, _, rfl, hnew _ (by omega), hnew _ (by omega), ma4, mb4, a3, b3, rfl, hnew _ la, hnew _ lb, blk_below ma be4, blk_below mb be4⟩

set_option maxHeartbeats 2000000 in
set_option maxRecDepth 100000 in
theorem chunk_calls {num : List Int → Option (Int × Bool)} {tr : List Int → Option Nat} {w : World} {F : Nat → Prop} {g : Nat} {vn vl vb : Value} {d d' : D} (c : Int) (h : IsB w g vn vl vb d) (hF : ∀ k, Wt g vl vb k → F k) (hst : d.st = .chunk) (hm : d.body.length ≤ 1099511627776) (hs : Dec.step num tr d c = some d') :
    Calls Tryd.prog 51 #[.pointer (some ⟨g, 0, none⟩), .int .u8 c] w fun e w' => ∃ v, e = .returned v ∧ After w w' F g vn v d' := by
  have H := Aside0.mk h
  have HM := Aside0.mk hm
  have HF := Aside0.mk hF
  have HST := Aside0.mk hst
  unfold Dec.step at hs
  simp only [hst, Option.some.injEq] at hs
  clear h hm hF hst
  have e10 : (10 : Int) = 10 := rfl
  by_cases hz : 0 < wr (d.left - 1)
  · rw [if_pos hz] at hs
    subst hs
    have b1 : decide (wrap64 (d.left - 1) > 0) = true := by rw [wr_eq]; exact decide_eq_true hz
    have b2 : decide (0 < wrap64 (d.left - 1)) = true := b1
    clear hz
    go_enter Tryd.func51, Tryd.ntmps51
    go_wp2_with (first | (go_at_call 52; (with_reducible refine (put_calls H.out c HM.out).mono ?_); rintro e w1 ⟨rfl, vb1, hB, hat, hk⟩; have c2 : w1.cell? ⟨g, 2, none⟩ = some (.int .i64 d.left) := (hB.cell 2).trans rfl; have f2 := hB.fz 2; have HL := Aside0.mk (hB.put 2 (.int .i64 (wrap64 (d.left - 1))) (vn' := vn) (d' := (d.put c).less) (e_less vn vl vb1 (d.put c)) rfl rfl); have HAT := Aside0.mk hat; have HK := Aside0.mk hk; clear hB hat hk))
    go_ret
    have hs2 : (d.put c).less.st = .chunk := HST.out
    exact ⟨_, rfl, After.on (by rw [hs2]; decide) HL.out (wt_put HF.out HAT.out) (by rw [hs2]; rfl) ((HK.out.mono fun i _ hi => HF.out i hi).trans ((Keep.refl (fun k => k = g) w1).set (g := g) rfl 2 _) fun i _ e => HF.out i (.inl e))⟩
  · rw [if_neg hz] at hs
    subst hs
    have b1 : decide (wrap64 (d.left - 1) > 0) = false := by rw [wr_eq]; exact decide_eq_false hz
    have b2 : decide (0 < wrap64 (d.left - 1)) = false := b1
    clear hz
    go_enter Tryd.func51, Tryd.ntmps51
    go_wp2_with (first | (go_at_call 52; (with_reducible refine (put_calls H.out c HM.out).mono ?_); rintro e w1 ⟨rfl, vb1, hB, hat, hk⟩; have c2 : w1.cell? ⟨g, 2, none⟩ = some (.int .i64 d.left) := (hB.cell 2).trans rfl; have f2 := hB.fz 2; have HL := Aside0.mk (hB.put 2 (.int .i64 (wrap64 (d.left - 1))) (vn' := vn) (d' := (d.put c).less) (e_less vn vl vb1 (d.put c)) rfl rfl); have HAT := Aside0.mk hat; have HK := Aside0.mk hk; clear hB hat hk) | (go_at_call 66; (with_reducible refine (must_calls _ 10 (.func (.func 30) #[] #[]) (.inl rfl)).mono ?_); rintro e w3 ⟨a3, b3, rfl, ha, hb, hla, hlb, hbe⟩; have MA := Aside0.mk ha; have MB := Aside0.mk hb; have LA := Aside0.mk hla; have LB := Aside0.mk hlb; have BE := Aside0.mk hbe; clear ha hb hla hlb hbe) | (go_at_call 66; (with_reducible refine (must_calls _ 13 (.func (.func 86) #[] #[.pointer (some ⟨a3, 0, none⟩), .pointer (some ⟨b3, 0, none⟩)]) (.inr ⟨_, _, rfl⟩)).mono ?_); rintro e w4 ⟨a4, b4, rfl, ha, hb, hla, hlb, hbe⟩; have MA4 := Aside0.mk ha; have MB4 := Aside0.mk hb; have LA4 := Aside0.mk hla; have LB4 := Aside0.mk hlb; have BE4 := Aside0.mk hbe; clear ha hb hla hlb hbe))
    go_ret
    refine ⟨_, rfl, chunk_end HL.out HF.out HAT.out HK.out ((Keep.refl (fun k => k = g) w1).set (g := g) rfl 2 _) MA.out MB.out LA.out LB.out BE.out MA4.out MB4.out LA4.out LB4.out BE4.out⟩
end Go.Proofs.YtfpcoanlkfgagaaDoor.DecB
