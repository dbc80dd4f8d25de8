/- The walk of the decoder's Push. -/
import Derived.Test.YtfpcoanlkfgagaaGreatDoorDecR
import Derived.Laws.EntriesVeiled
import Derived.Below
import Derived.Deep.Draws
import Derived.Deep.AppendLies
import Derived.Maps.AppendAt
import Derived.OwnWalk
import Derived.Laws.BytesArg
import Derived.Laws.MakeOwn
import Derived.Laws.OwnMore
import Derived.Deep.OwnRows
import Derived.Tactics
import Derived.Lib.ConvBytes
import Derived.Laws.Slices
import Derived.WalkKit
import Derived.KernelRfl
import Derived.RowKit3
import Derived.Deep.LoopGhost
import Derived.Deep.QuietTactic
import Derived.BigQuiet
import Derived.WideLaws
import Derived.Deep.DeepCutAuto
import Derived.Deep.CutBlock
import Derived.Deep.RegionHeld3
import Derived.Laws.Rows
import Derived.Lib.AppendStr
import Derived.ArgAppend
import Derived.Laws.IdiomCopy
import Derived.OrdersHeld
import Derived.Laws.BitsLemmas
import Derived.RowKit
import Derived.WalkMore
import Derived.Test.YtfpcoanlkfgagaaGreatDoorWWords
import Derived.Test.YtfpcoanlkfgagaaGreatDoorWLast
import Derived.Test.YtfpcoanlkfgagaaGreatDoorWMore
import Derived.Test.YtfpcoanlkfgagaaGreatDoorWTab
namespace Go.Proofs.YtfpcoanlkfgagaaGreatDoor.DecP
open Go.RowKit Go.Proofs.YtfpcoanlkfgagaaGreatDoorW.PrintWords Go.Proofs.YtfpcoanlkfgagaaGreatDoorW.PrintLast Go.Proofs.YtfpcoanlkfgagaaGreatDoor.Ext Go.Proofs.YtfpcoanlkfgagaaGreatDoor.Dec Go.Proofs.YtfpcoanlkfgagaaGreatDoor.DecW Go.Proofs.YtfpcoanlkfgagaaGreatDoor.DecA Go.Proofs.YtfpcoanlkfgagaaGreatDoor.DecB Go.Proofs.YtfpcoanlkfgagaaGreatDoor.DecN Go.Proofs.YtfpcoanlkfgagaaGreatDoor.DecT Go.Proofs.YtfpcoanlkfgagaaGreatDoor.DecS Go.Proofs.YtfpcoanlkfgagaaGreatDoor.DecR
set_option linter.unusedVariables false
set_option linter.unusedSimpArgs false
theorem eql_nil (W : World) : (binOp .eql 70 .nilFunc .nilFunc).run Tryz.prog W = .ok (.bool true) W := by kernel_rfl
theorem neq_nil (W : World) : (binOp .neq 70 .nilFunc .nilFunc).run Tryz.prog W = .ok (.bool false) W := by kernel_rfl
theorem eql_fn (fn : Fn) (fi ca : Array Value) (W : World) : (binOp .eql 70 (.func fn fi ca) .nilFunc).run Tryz.prog W = .ok (.bool false) W := by kernel_rfl
theorem neq_fn (fn : Fn) (fi ca : Array Value) (W : World) : (binOp .neq 70 (.func fn fi ca) .nilFunc).run Tryz.prog W = .ok (.bool true) W := by kernel_rfl
/-- What comes next, called: a function that captures nothing, or two cells. -/
theorem next_calls {w : World} {F : Nat → Prop} {g : Nat} {vn vl vb : Value} {d d' : D} (c : Int) (h : IsB w g vn vl vb d) (hF : ∀ k, Wt g vl vb k → F k) (hV : FnV w (fun k => F k ∧ ¬ Wt g vl vb k) vn d.st) (hF0 : ¬ F 0) (hG : Glob w) (hm : d.line.length + d.body.length ≤ 1099511627776) (hs : Dec.step num tr d c = some d') :
    ∃ f : Nat, (∀ args w, (callFunc f args).run Tryz.prog w = .ok (.enter f args) w) ∧
      ((vn = .func (.func f) #[] #[] ∧ Calls Tryz.prog f #[.pointer (some ⟨g, 0, none⟩), .int .u8 c] w fun e w' => ∃ v, e = .returned v ∧ After w w' F g vn v d') ∨
       (∃ a b, vn = .func (.func f) #[] #[.pointer (some ⟨a, 0, none⟩), .pointer (some ⟨b, 0, none⟩)] ∧ Calls Tryz.prog f #[.pointer (some ⟨g, 0, none⟩), .int .u8 c, .pointer (some ⟨a, 0, none⟩), .pointer (some ⟨b, 0, none⟩)] w fun e w' => ∃ v, e = .returned v ∧ After w w' F g vn v d')) := by
  have hs0 := hs
  cases hst : d.st with
  | nil => simp [Dec.step, hst] at hs
  | size => rw [hst] at hV; exact ⟨32, enters_ Tryz.func32 (by kernel_rfl) rfl, .inl ⟨hV, size_calls c h hF hF0 hG hst (by omega) hs0⟩⟩
  | whole => rw [hst] at hV; exact ⟨33, enters_ Tryz.func33 (by kernel_rfl) rfl, .inl ⟨hV, whole_calls c h hF hst (by omega) hs0⟩⟩
  | rest => rw [hst] at hV; exact ⟨36, enters_ Tryz.func36 (by kernel_rfl) rfl, .inl ⟨hV, rest_calls c h hF hst (by omega) hs0⟩⟩
  | chunk => rw [hst] at hV; exact ⟨48, enters_ Tryz.func48 (by kernel_rfl) rfl, .inl ⟨hV, chunk_calls c h hF hst (by omega) hs0⟩⟩
  | trailer => rw [hst] at hV; exact ⟨47, enters_ Tryz.func47 (by kernel_rfl) rfl, .inl ⟨hV, trailer_calls c h hF hF0 hG hst (by omega) hs0⟩⟩
  | must1 =>
    rw [hst] at hV
    simp only [Dec.step, hst, Option.some.injEq] at hs
    obtain ⟨a, b, v2, rfl, _, _, ca, cb, h2⟩ := hV
    have hv2 : ∃ a b, v2 = .func (.func 90) #[] #[.pointer (some ⟨a, 0, none⟩), .pointer (some ⟨b, 0, none⟩)] := by obtain ⟨a2, b2, rfl, _⟩ := h2; exact ⟨a2, b2, rfl⟩
    exact ⟨90, enters_ Tryz.func90 (by kernel_rfl) rfl, .inr ⟨a, b, rfl, must_made (num := num) (tr := tr) c 13 h hF ca cb (.inr hv2) .must2 (by decide) h2 hs.symm⟩⟩
  | must2 =>
    rw [hst] at hV
    simp only [Dec.step, hst, Option.some.injEq] at hs
    obtain ⟨a, b, rfl, _, _, ca, cb⟩ := hV
    exact ⟨90, enters_ Tryz.func90 (by kernel_rfl) rfl, .inr ⟨a, b, rfl, must_made (num := num) (tr := tr) c 10 h hF ca cb (.inl rfl) .size (by decide) rfl hs.symm⟩⟩
/-- Behind the call: what comes next is stored, if there is something. -/
theorem after_nil {w w' : World} {F : Nat → Prop} {g : Nat} {vn v : Value} {d' : D} (h : After w w' F g vn v d') (hs : d'.st = .nil) : w'.cell? ⟨g, 0, none⟩ = some .nilFunc ∧ IsD w' (fun k => F k ∨ w.heap.size ≤ k) g d' := by
  obtain ⟨vl, vb, hB, hW, hV, hk⟩ := h
  rw [if_pos hs] at hB
  exact ⟨(hB.cell 0).trans rfl, .nilFunc, vl, vb, hB, hW, by rw [hs]; rfl⟩
theorem after_on {w w' : World} {F : Nat → Prop} {g : Nat} {vn v : Value} {d' : D} (h : After w w' F g vn v d') (hs : d'.st ≠ .nil) : w'.cell? ⟨g, 0, none⟩ = some vn ∧ w'.frozen? ⟨g, 0, none⟩ = false ∧ IsD (w'.setCell ⟨g, 0, none⟩ v) (fun k => F k ∨ w.heap.size ≤ k) g d' ∧ Keep F w w' := by
  obtain ⟨vl, vb, hB, hW, hV, hk⟩ := h
  rw [if_neg hs] at hB
  refine ⟨(hB.cell 0).trans rfl, hB.fz 0, ⟨v, vl, vb, hB.put 0 v rfl rfl rfl, hW, ?_⟩, hk⟩
  exact (hV hs).keep (F := fun k => k = g) ((Keep.refl (fun k => k = g) w').set (g := g) rfl 0 v) (fun i _ hi e => hi.2 (.inl e)) fun i _ hi => hi
theorem fn_form {w' : World} {G : Nat → Prop} {v : Value} {s : St} (h : FnV w' G v s) (hs : s ≠ .nil) : ∃ f caps, v = .func f #[] caps := by
  cases s with
  | nil => exact absurd rfl hs
  | must1 => obtain ⟨a, b, v2, rfl, _⟩ := h; exact ⟨_, _, rfl⟩
  | must2 => obtain ⟨a, b, rfl, _⟩ := h; exact ⟨_, _, rfl⟩
  | _ => exact ⟨_, _, h⟩
theorem after_form {w w' : World} {F : Nat → Prop} {g : Nat} {vn v : Value} {d' : D} (h : After w w' F g vn v d') (hs : d'.st ≠ .nil) : ∃ f caps, v = .func f #[] caps := by
  obtain ⟨vl, vb, hB, hW, hV, hk⟩ := h
  exact fn_form (hV hs) hs
theorem after_keep {w w' : World} {F : Nat → Prop} {g : Nat} {vn v : Value} {d' : D} (h : After w w' F g vn v d') : Keep F w w' := by
  obtain ⟨vl, vb, hB, hW, hV, hk⟩ := h
  exact hk
def Pushed (w w' : World) (F : Nat → Prop) (g : Nat) (r : D) : Prop := ∃ F', IsD w' F' g r ∧ (∀ i, F' i → F i ∨ w.heap.size ≤ i) ∧ Keep F w w'
set_option maxHeartbeats 4000000 in
set_option maxRecDepth 100000 in
theorem push_some {w : World} {F : Nat → Prop} {g b off c : Nat} {d r : D} {k : Nat} {xs : List Int} (h : IsD w F g d) (hF0 : ¬ F 0) (hFb : ¬ F b) (hG : Glob w) (hm : d.line.length + d.body.length + xs.length ≤ 1099511627776) (hx : xs.length ≤ c)
    (hr : ∀ j, j < xs.length → w.cell? ⟨b, off + j, none⟩ = some (.int .u8 (xs.getD j 0))) (hp : push num tr d xs = some (r, k)) :
    Calls Tryz.prog 19 #[.pointer (some ⟨g, 0, none⟩), .slice (some ⟨b, off, none⟩) xs.length c] w fun e w' => e = .returned (.int .i64 k) ∧ Pushed w w' F g r := by
  have H := Aside0.mk h
  have HGX := Aside0.mk (show F g from by obtain ⟨_, vl, vb, _, hW, _⟩ := h; exact hW g (.inl rfl))
  have HF0 := Aside0.mk hF0
  have HFB := Aside0.mk hFb
  have HG := Aside0.mk hG
  have HM := Aside0.mk hm
  have HR := Aside0.mk hr
  have HP := Aside0.mk hp
  have HX : xs.length ≤ 9223372036854775807 := by omega
  have en := eql_nil
  have nn := neq_nil
  have ef := eql_fn
  have nf := neq_fn
  clear h hF0 hFb hG hm hr hp hx
  go_enter Tryz.func19, Tryz.ntmps19
  go_wp2
  go_step3
  go_wp2
  go_step3
  go_wp2
  go_loopg [5, 13] xs.length (fun kq v5 v13 w' => ∃ (i kk : Nat) (di : D) (Fi : Nat → Prop), v5 = .int .i64 (i : Int) ∧ v13 = .int .i64 (i : Int) ∧ Aside0 (kq + i = xs.length) ∧ Aside0 (IsD w' Fi g di) ∧ Aside0 (∀ j, Fi j → F j ∨ w.heap.size ≤ j) ∧ Aside0 (Keep F w w') ∧ Aside0 (push num tr di (xs.drop i) = some (r, kk) ∧ k = i + kk) ∧ Aside0 (di.line.length + di.body.length + (xs.length - i) ≤ 1099511627776))
  case atStart => exact ⟨0, k, d, F, rfl, rfl, ⟨rfl⟩, H, ⟨fun _ h => .inl h⟩, ⟨Keep.refl F w⟩, ⟨HP.out, by omega⟩, ⟨HM.out⟩⟩
  case round =>
    clear H HM HP
    obtain ⟨i, kk, di, Fi, rfl, rfl, HI, HD, HFi, HK, HP, HM⟩ := hrel
    by_cases hi : i < xs.length
    · obtain ⟨x, hx⟩ : ∃ x, x = xs.getD i 0 := ⟨_, rfl⟩
      have hdrop : xs.drop i = x :: xs.drop (i + 1) := by
        rw [List.drop_eq_getElem_cons hi, hx]
        simp [List.getD, List.getElem?_eq_getElem hi]
      have hcell : wr.cell? ⟨b, off + i, none⟩ = some (.int .u8 x) := by
        rw [hx, ← HR.out i hi]
        exact World.cell?_of_block (HK.out.block b (World.block_lt_of_cell? w ⟨b, off + i, none⟩ (HR.out i hi)) HFB.out)
      have hc0 : ((i : Int) < (xs.length : Int)) = True := eq_true (Int.ofNat_lt.2 hi)
      have hc1 : decide ((i : Int) < (xs.length : Int)) = true := decide_eq_true (Int.ofNat_lt.2 hi)
      have hwi : wrap64 ((i : Int) + 1) = ((i + 1 : Nat) : Int) := wrap64_next i (by omega)
      obtain ⟨vn, vl, vb, hB, hW, hV⟩ := HD.out
      by_cases hst : di.st = .nil
      · have hvn : vn = .nilFunc := by rw [hst] at hV; exact hV
        subst hvn
        have c0 : wr.cell? ⟨g, 0, none⟩ = some .nilFunc := (hB.cell 0).trans rfl
        have hk2 := HP.out
        rw [push_nil hst] at hk2
        simp only [Option.some.injEq, Prod.mk.injEq] at hk2
        obtain ⟨⟨rfl, rfl⟩, rfl⟩ := hk2
        have HI2 := Aside0.mk hi
        clear hx hdrop hB hW hV hst hi hwi
        go_wp2
        try rw [Exit.noGoto_ret]
        go_ret
        exact ⟨rfl, Fi, HD.out, HFi.out, HK.out⟩
      · have hp := HP.out.1
        rw [hdrop] at hp
        simp only [push, if_neg hst] at hp
        cases hs : Dec.step num tr di x with
        | none => rw [hs] at hp; cases hp
        | some d1 =>
          rw [hs] at hp
          obtain ⟨⟨r1, k1⟩, hp1, hp2⟩ := Option.map_eq_some_iff.1 hp
          simp only [Prod.mk.injEq] at hp2
          obtain ⟨rfl, hk1⟩ := hp2
          have HP1 := Aside0.mk hp1
          have HK1 := Aside0.mk hk1
          have hlen := step_len hs
          have hFi0 : ¬ Fi 0 := fun h0 => by
            rcases HFi.out 0 h0 with h | h
            · exact HF0.out h
            · obtain ⟨m, hm⟩ := HG.out
              have := World.block_lt_of_cell? w ⟨0, 0, none⟩ hm
              have h' : (0 : Nat) < w.heap.size := this
              omega
          obtain ⟨f, he, hc⟩ := next_calls x hB hW hV hFi0 (Glob.keep HG.out HK.out HF0.out) (by have := HM.out; omega) hs
          have c0 : wr.cell? ⟨g, 0, none⟩ = some vn := (hB.cell 0).trans rfl
          have HLEN := Aside0.mk hlen
          have HGF := Aside0.mk (show Fi g from hW g (.inl rfl))
          have HI2 := Aside0.mk hi
          have HW := Aside0.mk hwi
          have HFS := Aside0.mk (fun (j : Nat) (h : Fi j ∨ wr.heap.size ≤ j) => (show F j ∨ w.heap.size ≤ j from by rcases h with h | h; exact HFi.out j h; exact .inr (Nat.le_trans HK.out.size h)))
          clear hx hdrop hB hW hV hst hi hwi hp hs hp1 hk1 hlen hFi0
          by_cases hs1 : d1.st = .nil
          · rcases hc with ⟨rfl, hc⟩ | ⟨a2, b2, rfl, hc⟩
            all_goals
              have HC := Aside0.mk hc
              clear hc
              go_wp2_with (first | (go_at_fn f; (with_reducible refine (HC.out).mono ?_); rintro e w2 ⟨v, rfl, hA⟩; have c0n := (after_nil hA hs1).1; have HA := Aside0.mk hA; clear hA c0))
              go_roundg (gk - 1)
              case measure => have := HI.out; have := HI2.out; omega
              case rel => exact ⟨i + 1, k1, d1, _, by rw [HW.out], by rw [HW.out], ⟨by have := HI.out; have := HI2.out; omega⟩, ⟨(after_nil HA.out hs1).2⟩, HFS, ⟨HK.out.trans (after_keep HA.out) fun j hj h => by rcases HFi.out j h with h | h; exact h; omega⟩, ⟨HP1.out, by have := HP.out.2; have := HK1.out; omega⟩, ⟨by have := HM.out; have := HLEN.out; have := HI2.out; omega⟩⟩
          · rcases hc with ⟨rfl, hc⟩ | ⟨a2, b2, rfl, hc⟩
            all_goals
              have HC := Aside0.mk hc
              clear hc
              go_wp2_with (first | (go_at_fn f; (with_reducible refine (HC.out).mono ?_); rintro e w2 ⟨v, rfl, hA⟩; have hA2 := after_on hA hs1; have c0n := hA2.1; have f0n := hA2.2.1; obtain ⟨fv, cv, hfv⟩ := after_form hA hs1; subst hfv; have HA := Aside0.mk hA2; clear hA hA2 c0))
              go_roundg (gk - 1)
              case measure => have := HI.out; have := HI2.out; omega
              case rel => exact ⟨i + 1, k1, d1, _, by rw [HW.out], by rw [HW.out], ⟨by have := HI.out; have := HI2.out; omega⟩, ⟨HA.out.2.2.1⟩, HFS, ⟨(HK.out.trans HA.out.2.2.2 fun j hj h => by rcases HFi.out j h with h | h; exact h; omega).set (g := g) (HGX.out) 0 _⟩, ⟨HP1.out, by have := HP.out.2; have := HK1.out; omega⟩, ⟨by have := HM.out; have := HLEN.out; have := HI2.out; omega⟩⟩
    · have hie : i = xs.length := by have := HI.out; omega
      subst hie
      have hk2 := HP.out
      rw [List.drop_length] at hk2
      simp only [push, Option.some.injEq, Prod.mk.injEq] at hk2
      obtain ⟨⟨rfl, rfl⟩, rfl⟩ := hk2
      clear hi
      go_wp2
      try rw [Exit.noGoto_ret]
      go_ret
      exact ⟨rfl, Fi, HD.out, HFi.out, HK.out⟩
set_option maxHeartbeats 4000000 in
set_option maxRecDepth 100000 in
theorem push_none {w : World} {F : Nat → Prop} {g c : Nat} {A : Option Addr} {d : D} (h : IsD w F g d) :
    Calls Tryz.prog 19 #[.pointer (some ⟨g, 0, none⟩), .slice A 0 c] w fun e w' => e = .returned (.int .i64 0) ∧ w' = w := by
  go_enter Tryz.func19, Tryz.ntmps19
  go_wp2
  go_step3
  go_wp2
  go_step3
  go_wp2
  refine wp_loop_rounds 1 ?_
  rw [rounds_succ]
  go_wp2
  try rw [Exit.noGoto_ret]
  go_ret
  exact ⟨rfl, rfl⟩
/-- Push, of any row of bytes that is not the decoder's own. -/
theorem push_calls {w : World} {F : Nat → Prop} {g c : Nat} {A : Option Addr} {d r : D} {k : Nat} {xs : List Int} (h : IsD w F g d) (hF0 : ¬ F 0) (hFb : ∀ ad, A = some ad → 0 < xs.length → ¬ F ad.block) (hG : Glob w) (hm : d.line.length + d.body.length + xs.length ≤ 1099511627776) (hx : xs.length ≤ c)
    (hr : Kd.C (Kd.int .u8) w A xs.length xs) (hp : push num tr d xs = some (r, k)) :
    Calls Tryz.prog 19 #[.pointer (some ⟨g, 0, none⟩), .slice A xs.length c] w fun e w' => e = .returned (.int .i64 k) ∧ Pushed w w' F g r := by
  by_cases hn : xs = []
  · subst hn
    simp only [push, Option.some.injEq, Prod.mk.injEq] at hp
    obtain ⟨rfl, rfl⟩ := hp
    refine (push_none h).mono ?_
    rintro e w' ⟨he, rfl⟩
    exact ⟨he, F, h, fun _ h => .inl h, Keep.refl F _⟩
  · have hpos : 0 < xs.length := List.length_pos_iff.2 hn
    obtain ⟨_, _, hcells⟩ := Kd.reads_of_C (d := (0 : Int)) hr
    obtain ⟨ad, rfl, hc⟩ := hcells hpos
    have hpl := plain_addr (hc 0 hpos)
    have h0 : ad = ⟨ad.block, ad.off, none⟩ := by
      cases ad with
      | mk b o s =>
        cases s with
        | none => rfl
        | some x => simp [Addr.add] at hpl
    rw [h0] at hc ⊢
    refine push_some h hF0 (hFb ad rfl hpos) hG hm hx (fun j hj => ?_) hp
    have := hc j hj
    rwa [add_plain2] at this

end Go.Proofs.YtfpcoanlkfgagaaGreatDoor.DecP
