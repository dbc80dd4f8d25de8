/- The walks of the decoder's New, Done, Wrong, Body, End. -/
import Derived.Test.YtfpcoanlkfgagaaDoorDecP
import Derived.Laws.EntriesVeiled
import Derived.Below
import Derived.Deep.Draws
import Derived.Deep.AppendLies
import Derived.Maps.AppendAt
import Derived.OwnWalk
import Derived.Laws.BytesArg
import Derived.Laws.MakeOwn
import Derived.Laws.OwnMore
import Derived.Deep.OwnRows
import Derived.Tactics
import Derived.Lib.ConvBytes
import Derived.Laws.Slices
import Derived.WalkKit
import Derived.KernelRfl
import Derived.RowKit3
import Derived.Deep.LoopGhost
import Derived.Deep.QuietTactic
import Derived.BigQuiet
import Derived.WideLaws
import Derived.Deep.DeepCutAuto
import Derived.Deep.CutBlock
import Derived.Deep.RegionHeld3
import Derived.Laws.Rows
import Derived.Lib.AppendStr
import Derived.ArgAppend
import Derived.Laws.IdiomCopy
import Derived.OrdersHeld
import Derived.Laws.BitsLemmas
import Derived.RowKit
import Derived.WalkMore
import Derived.Test.YtfpcoanlkfgagaaDoorWWords
import Derived.Test.YtfpcoanlkfgagaaDoorWLast
import Derived.Test.YtfpcoanlkfgagaaDoorWMore
import Derived.Test.YtfpcoanlkfgagaaDoorWTab
namespace Go.Proofs.YtfpcoanlkfgagaaDoor.DecQ
open Go.RowKit Go.Proofs.YtfpcoanlkfgagaaDoorW.PrintWords Go.Proofs.YtfpcoanlkfgagaaDoorW.PrintLast Go.Proofs.YtfpcoanlkfgagaaDoor.Ext Go.Proofs.YtfpcoanlkfgagaaDoor.Dec Go.Proofs.YtfpcoanlkfgagaaDoor.DecW Go.Proofs.YtfpcoanlkfgagaaDoor.DecA Go.Proofs.YtfpcoanlkfgagaaDoor.DecB Go.Proofs.YtfpcoanlkfgagaaDoor.DecP
set_option linter.unusedVariables false
set_option linter.unusedSimpArgs false
def D0 (m : Int) : D := ⟨.nil, m, 0, 0, [], 0, [], false, false, 0⟩
def newD (ch : Bool) (len m : Int) : D :=
  if ch = true then { D0 m with st := .size }
  else if 0 ≤ len then (if m < len then ({ D0 m with left := len } : D).wrong 13 else if len = 0 then ({ D0 m with left := len } : D).ends else { D0 m with left := len, st := .whole })
  else { D0 m with opn := true, st := .rest }
theorem wt_new {g : Nat} : ∀ k, Wt g (.slice none 0 0) (.slice none 0 0) k → k = g := by
  rintro k (h | h | h)
  · exact h
  · simp [Value.ownBlock] at h
  · simp [Value.ownBlock] at h
theorem two_blk (w : World) (A B : Obj) : ((w.alloc A).alloc B).heap[w.heap.size + 1]? = some B := by
  have h := blk_new (w.alloc A) B
  have e : (w.alloc A).heap.size = w.heap.size + 1 := by simp
  rwa [e] at h
theorem isB_blk {w : World} {g : Nat} {vn : Value} {d : D} (h : w.heap[g]? = some (.cells (cellsD vn (.slice none 0 0) (.slice none 0 0) d) 54 (0, 0))) (hl : d.line = []) (hb : d.body = []) : IsB w g vn (.slice none 0 0) (.slice none 0 0) d :=
  ⟨h, by rw [hl]; exact own_empty _, by rw [hb]; exact own_empty _, by simp [Value.ownBlock], by simp [Value.ownBlock], fun k hk => by simp [Value.ownBlock] at hk⟩
theorem isD_of {w : World} {g : Nat} {vn : Value} {d : D} (h : IsB w g vn (.slice none 0 0) (.slice none 0 0) d) (hV : FnV w (fun _ => False) vn d.st) : IsD w (fun k => k = g) g d :=
  ⟨vn, _, _, h, wt_new, hV.keep (Keep.refl (fun _ => False) w) (fun _ _ _ => id) fun _ _ h => h.elim⟩
set_option maxHeartbeats 4000000 in
set_option maxRecDepth 100000 in
theorem new_calls (st len most : Int) (ch cl : Bool) (w : World) :
    Calls Tryd.prog 12 #[.agg #[.int .i64 st, .int .i64 len, .bool ch, .bool cl], .int .i64 most] w fun e w' => ∃ g, e = .returned (.pointer (some ⟨g, 0, none⟩)) ∧ IsD w' (fun k => k = g) g (newD ch len (max most 0)) ∧ w.heap.size ≤ g ∧ Below w.heap.size w w' := by
  unfold newD
  cases ch with
  | true =>
    go_enter Tryd.func12, Tryd.ntmps12
    go_wp2
    go_ret
    exact ⟨w.heap.size + 1, rfl, isD_of (vn := fnS 30) (isB_blk (two_blk _ _ _) rfl rfl) rfl, Nat.le_succ _, below_alloc (below_alloc (Below.refl _ _) _) _⟩
  | false =>
    rw [if_neg (by decide)]
    by_cases h0 : 0 ≤ len
    · rw [if_pos h0]
      have z1 : decide (len ≥ 0) = true := decide_eq_true h0
      have z2 : decide (0 ≤ len) = true := z1
      by_cases hgt : max most 0 < len
      · rw [if_pos hgt]
        have z3 : decide (len > max most 0) = true := decide_eq_true hgt
        have z4 : decide (max most 0 < len) = true := z3
        clear h0 hgt
        have HB1 : Aside0 (∀ q : Nat, IsB (((w.alloc (.cells #[.int .i64 st, .int .i64 len, .bool false, .bool cl] 29)).alloc (.cells #[.func (.func 31) #[] #[], .int .i64 (max most 0), .int .i64 len, .int .i64 0, .slice none 0 0, .int .i64 0, .slice none 0 0, .bool false, .bool false, .int .i64 0] 54)).drewN q) (w.heap.size + 1) (.func (.func 31) #[] #[]) (.slice none 0 0) (.slice none 0 0) ({ D0 (max most 0) with left := len } : D)) := ⟨fun q => isB_blk (two_blk w _ _) rfl rfl⟩
        go_enter Tryd.func12, Tryd.ntmps12
        go_upto_region 7 with (fail)
        go_quiet (fail)
        go_wp2_with (first | (go_at_call 32; (with_reducible refine (wrong_calls (HB1.out _) 13).mono ?_); rintro e w2 ⟨rfl, hB2, hk2⟩; have HB2 := Aside0.mk hB2; have HK2 := Aside0.mk hk2; clear hB2 hk2))
        go_ret
        exact ⟨w.heap.size + 1, rfl, isD_of HB2.out rfl, Nat.le_succ _, (((below_alloc (below_alloc (Below.refl _ _) _) _ : Below w.heap.size w ((w.alloc (.cells #[.int .i64 st, .int .i64 len, .bool false, .bool cl] 29)).alloc (.cells #[.func (.func 31) #[] #[], .int .i64 (max most 0), .int .i64 len, .int .i64 0, .slice none 0 0, .int .i64 0, .slice none 0 0, .bool false, .bool false, .int .i64 0] 54)))).trans (pw_below_drewN (Below.refl _ _) _)).trans (HK2.out.below (fun k hk => by omega) (by simp; omega))⟩
      · rw [if_neg hgt]
        have z3 : decide (len > max most 0) = false := decide_eq_false hgt
        have z4 : decide (max most 0 < len) = false := z3
        clear h0 hgt
        by_cases hz : len = 0
        · rw [if_pos hz]
          have z5 : (len == 0) = true := beq_iff_eq.2 hz
          clear hz
          have HB1 : Aside0 (∀ q : Nat, IsB (((w.alloc (.cells #[.int .i64 st, .int .i64 len, .bool false, .bool cl] 29)).alloc (.cells #[.func (.func 31) #[] #[], .int .i64 (max most 0), .int .i64 len, .int .i64 0, .slice none 0 0, .int .i64 0, .slice none 0 0, .bool false, .bool false, .int .i64 0] 54)).drewN q) (w.heap.size + 1) (.func (.func 31) #[] #[]) (.slice none 0 0) (.slice none 0 0) ({ D0 (max most 0) with left := len } : D)) := ⟨fun q => isB_blk (two_blk w _ _) rfl rfl⟩
          go_enter Tryd.func12, Tryd.ntmps12
          go_upto_region 7 with (fail)
          go_quiet (fail)
          go_wp2_with (first | (go_at_call 33; (with_reducible refine (ends_calls (HB1.out _)).mono ?_); rintro e w2 ⟨rfl, hB2, hk2⟩; have HB2 := Aside0.mk hB2; have HK2 := Aside0.mk hk2; clear hB2 hk2))
          go_ret
          exact ⟨w.heap.size + 1, rfl, isD_of HB2.out rfl, Nat.le_succ _, (((below_alloc (below_alloc (Below.refl _ _) _) _ : Below w.heap.size w ((w.alloc (.cells #[.int .i64 st, .int .i64 len, .bool false, .bool cl] 29)).alloc (.cells #[.func (.func 31) #[] #[], .int .i64 (max most 0), .int .i64 len, .int .i64 0, .slice none 0 0, .int .i64 0, .slice none 0 0, .bool false, .bool false, .int .i64 0] 54)))).trans (pw_below_drewN (Below.refl _ _) _)).trans (HK2.out.below (fun k hk => by omega) (by simp; omega))⟩
        · rw [if_neg hz]
          have z5 : (len == 0) = false := beq_eq_false_iff_ne.2 hz
          clear hz
          go_enter Tryd.func12, Tryd.ntmps12
          go_upto_region 7 with (fail)
          go_quiet (fail)
          go_wp2
          go_ret
          exact ⟨w.heap.size + 1, rfl, isD_of (vn := fnS 31) (isB_blk (two_blk _ _ _) rfl rfl) rfl, Nat.le_succ _, pw_below_drewN (below_alloc (below_alloc (Below.refl _ _) _) _) _⟩
    · rw [if_neg h0]
      have z1 : decide (len ≥ 0) = false := decide_eq_false h0
      have z2 : decide (0 ≤ len) = false := z1
      clear h0
      go_enter Tryd.func12, Tryd.ntmps12
      go_wp2
      go_ret
      exact ⟨w.heap.size + 1, rfl, isD_of (vn := fnS 34) (isB_blk (two_blk _ _ _) rfl rfl) rfl, Nat.le_succ _, below_alloc (below_alloc (Below.refl _ _) _) _⟩

theorem eql_sl (ad : Addr) (n c : Nat) (W : World) : (binOp .eql 22 (.slice (some ad) n c) (.slice none 0 0)).run Tryd.prog W = .ok (.bool false) W := by kernel_rfl
theorem eql_sn (W : World) : (binOp .eql 22 (.slice none 0 0) (.slice none 0 0)).run Tryd.prog W = .ok (.bool true) W := by kernel_rfl
def clonePost (w w' : World) (xs : List Int) (e : Ending) : Prop := ∃ v, e = .returned v ∧ Own w' v xs ∧ (∀ k, v.ownBlock = some k → w.heap.size ≤ k) ∧ Below w.heap.size w w'
set_option maxHeartbeats 2000000 in
set_option maxRecDepth 100000 in
theorem clone_calls {w : World} {v : Value} {xs : List Int} (h : Own w v xs) (hm : xs.length ≤ 1099511627776) :
    Calls Tryd.prog 35 #[v] w fun e w' => clonePost w w' xs e := by
  have hC := own_C h
  rcases h.2 with ⟨rfl, h0⟩ | ⟨g, cap, cur, rfl, hb, hr, hc, hcm, hs, ht⟩
  · obtain rfl : xs = [] := List.length_eq_zero_iff.1 h0
    have hq := eql_sn
    clear hC h hm h0
    go_enter Tryd.func35, Tryd.ntmps35
    go_wp2
    go_ret
    exact ⟨_, rfl, own_empty _, fun k hk => by simp [Value.ownBlock] at hk, Below.refl _ _⟩
  · obtain ⟨A, c, hv, hn, hC⟩ := hC
    simp only [Value.slice.injEq, true_and] at hv
    obtain ⟨rfl, rfl⟩ := hv
    have hq := eql_sl
    have HRR := Aside0.mk (own_reads' h)
    have HM := Aside0.mk hm
    clear hC h hm hb hr hc hcm hs ht
    go_enter Tryd.func35, Tryd.ntmps35
    have HO := Aside0.mk (own_lit w w.heap.size 5 .u8 [] (Nat.le_refl _) (by simp))
    go_wp2_with (first | ((with_reducible refine gate_builtin (b := .append) (xs := #[.tmp 5, .tmp 6]) rfl ?_); at_builtin; refine print_append_row (w0 := w) w.heap.size rfl (.tmp 5) (.tmp 6) 22 5 .u8 1 rfl Tryd.underlying22 info5 (by decide) (.slice (some ⟨w.heap.size, 0, none⟩) 0 0) [] xs (some ⟨g, 0, none⟩) xs.length cap rfl rfl HO.out (HRR.out.allocS _) (below_alloc (Below.refl _ _) _) (by simp) (by have := HM.out; simp; omega) ?_; intro v1 w1 ho hb _ _; have HO1 := Aside0.mk ho; have HB1 := Aside0.mk hb; clear ho hb))
    go_ret
    exact ⟨_, rfl, own_less HO1.out (Nat.zero_le _), fun k hk => (World.ownsRow.lt HO1.out k hk).1, HB1.out⟩

set_option maxHeartbeats 2000000 in
set_option maxRecDepth 100000 in
theorem done_calls {w : World} {F : Nat → Prop} {g : Nat} {d : D} (h : IsD w F g d) :
    Calls Tryd.prog 15 #[.pointer (some ⟨g, 0, none⟩)] w fun e w' => e = .returned (.bool d.done) ∧ w = w' := by
  obtain ⟨vn, vl, vb, hB, _, _⟩ := h
  have c8 : w.cell? ⟨g, 8, none⟩ = some (.bool d.done) := (hB.cell 8).trans rfl
  clear hB
  go_enter Tryd.func15, Tryd.ntmps15
  go_wp2
  go_ret
  exact ⟨rfl, rfl⟩
set_option maxHeartbeats 2000000 in
set_option maxRecDepth 100000 in
theorem done_nil (w : World) : Calls Tryd.prog 15 #[.pointer none] w fun e w' => e = .returned (.bool false) ∧ w = w' := by
  go_enter Tryd.func15, Tryd.ntmps15
  go_wp2
  go_ret
  exact ⟨rfl, rfl⟩
set_option maxHeartbeats 2000000 in
set_option maxRecDepth 100000 in
theorem err_calls {w : World} {F : Nat → Prop} {g : Nat} {d : D} (h : IsD w F g d) :
    Calls Tryd.prog 18 #[.pointer (some ⟨g, 0, none⟩)] w fun e w' => e = .returned (.int .i64 d.e) ∧ w = w' := by
  obtain ⟨vn, vl, vb, hB, _, _⟩ := h
  have c9 : w.cell? ⟨g, 9, none⟩ = some (.int .i64 d.e) := (hB.cell 9).trans rfl
  clear hB
  go_enter Tryd.func18, Tryd.ntmps18
  go_wp2
  go_ret
  exact ⟨rfl, rfl⟩
set_option maxHeartbeats 2000000 in
set_option maxRecDepth 100000 in
theorem err_nil (w : World) : Calls Tryd.prog 18 #[.pointer none] w fun e w' => e = .returned (.int .i64 1) ∧ w = w' := by
  go_enter Tryd.func18, Tryd.ntmps18
  go_wp2
  go_ret
  exact ⟨rfl, rfl⟩
set_option maxHeartbeats 2000000 in
set_option maxRecDepth 100000 in
theorem body_calls {w : World} {F : Nat → Prop} {g : Nat} {d : D} (h : IsD w F g d) (hm : d.body.length ≤ 1099511627776) :
    Calls Tryd.prog 16 #[.pointer (some ⟨g, 0, none⟩)] w fun e w' => clonePost w w' d.body e := by
  obtain ⟨vn, vl, vb, hB, _, _⟩ := h
  have c6 : w.cell? ⟨g, 6, none⟩ = some vb := (hB.cell 6).trans rfl
  have HC := Aside0.mk (clone_calls hB.body hm)
  obtain ⟨A, n, rfl, _⟩ := own_slice2 hB.body
  clear hB hm
  go_enter Tryd.func16, Tryd.ntmps16
  go_wp2_with (first | (go_at_call 35; (with_reducible refine HC.out.mono ?_); rintro e w1 ⟨v, rfl, h1, h2, h3⟩; have H1 := Aside0.mk h1; have H2 := Aside0.mk h2; have H3 := Aside0.mk h3; clear h1 h2 h3))
  go_ret
  exact ⟨_, rfl, H1.out, H2.out, H3.out⟩
set_option maxHeartbeats 2000000 in
set_option maxRecDepth 100000 in
theorem body_nil (w : World) : Calls Tryd.prog 16 #[.pointer none] w fun e w' => e = .returned (.slice none 0 0) ∧ w = w' := by
  go_enter Tryd.func16, Tryd.ntmps16
  go_wp2
  go_ret
  exact ⟨rfl, rfl⟩
set_option maxHeartbeats 2000000 in
set_option maxRecDepth 100000 in
theorem end_nil (w : World) : Calls Tryd.prog 17 #[.pointer none] w fun e w' => e = .returned (.tuple #[]) ∧ w = w' := by
  go_enter Tryd.func17, Tryd.ntmps17
  go_wp2
  go_end0
  exact ⟨rfl, rfl⟩
set_option maxHeartbeats 2000000 in
set_option maxRecDepth 100000 in
theorem push_nil_calls (A : Option Addr) (n c : Nat) (w : World) : Calls Tryd.prog 14 #[.pointer none, .slice A n c] w fun e w' => e = .returned (.int .i64 0) ∧ w = w' := by
  go_enter Tryd.func14, Tryd.ntmps14
  go_wp2
  go_step3
  go_wp2
  try rw [Exit.noGoto_ret]
  go_ret
  exact ⟨rfl, rfl⟩
set_option maxHeartbeats 2000000 in
set_option maxRecDepth 100000 in
theorem copy_nil (w : World) : Calls Tryd.prog 19 #[.pointer none] w fun e w' => e = .returned (.pointer none) ∧ w = w' := by
  go_enter Tryd.func19, Tryd.ntmps19
  go_wp2
  go_ret
  exact ⟨rfl, rfl⟩

end Go.Proofs.YtfpcoanlkfgagaaDoor.DecQ
