/- The walks of the decoder's New, Done, Wrong, Body, End. -/
import Derived.Test.YtfpcoanlkfgagaaGreatDoorDecP
import Derived.Laws.EntriesVeiled
import Derived.Below
import Derived.Deep.Draws
import Derived.Deep.AppendLies
import Derived.Maps.AppendAt
import Derived.OwnWalk
import Derived.Laws.BytesArg
import Derived.Laws.MakeOwn
import Derived.Laws.OwnMore
import Derived.Deep.OwnRows
import Derived.Tactics
import Derived.Lib.ConvBytes
import Derived.Laws.Slices
import Derived.WalkKit
import Derived.KernelRfl
import Derived.RowKit3
import Derived.Deep.LoopGhost
import Derived.Deep.QuietTactic
import Derived.BigQuiet
import Derived.WideLaws
import Derived.Deep.DeepCutAuto
import Derived.Deep.CutBlock
import Derived.Deep.RegionHeld3
import Derived.Laws.Rows
import Derived.Lib.AppendStr
import Derived.ArgAppend
import Derived.Laws.IdiomCopy
import Derived.OrdersHeld
import Derived.Laws.BitsLemmas
import Derived.RowKit
import Derived.WalkMore
import Derived.Test.YtfpcoanlkfgagaaGreatDoorWWords
import Derived.Test.YtfpcoanlkfgagaaGreatDoorWLast
import Derived.Test.YtfpcoanlkfgagaaGreatDoorWMore
import Derived.Test.YtfpcoanlkfgagaaGreatDoorWTab
namespace Go.Proofs.YtfpcoanlkfgagaaGreatDoor.DecQ
open Go.RowKit Go.Proofs.YtfpcoanlkfgagaaGreatDoorW.PrintWords Go.Proofs.YtfpcoanlkfgagaaGreatDoorW.PrintLast Go.Proofs.YtfpcoanlkfgagaaGreatDoor.Ext Go.Proofs.YtfpcoanlkfgagaaGreatDoor.Dec Go.Proofs.YtfpcoanlkfgagaaGreatDoor.DecW Go.Proofs.YtfpcoanlkfgagaaGreatDoor.DecA Go.Proofs.YtfpcoanlkfgagaaGreatDoor.DecB Go.Proofs.YtfpcoanlkfgagaaGreatDoor.DecP
set_option linter.unusedVariables false
set_option linter.unusedSimpArgs false
def D0 (m : Int) : D := ⟨.nil, m, 0, 0, [], 0, [], false, false, 0⟩
def newD (ch : Bool) (len m : Int) : D :=
  if ch = true then { D0 m with st := .size }
  else if 0 ≤ len then (if m < len then ({ D0 m with left := len } : D).wrong 13 else if len = 0 then ({ D0 m with left := len } : D).ends else { D0 m with left := len, st := .whole })
  else { D0 m with opn := true, st := .rest }
theorem wt_new {g : Nat} : ∀ k, Wt g (.slice none 0 0) (.slice none 0 0) k → k = g := by
  rintro k (h | h | h)
  · exact h
  · simp [Value.ownBlock] at h
  · simp [Value.ownBlock] at h
theorem two_blk (w : World) (A B : Obj) : ((w.alloc A).alloc B).heap[w.heap.size + 1]? = some B := by
  have h := blk_new (w.alloc A) B
  have e : (w.alloc A).heap.size = w.heap.size + 1 := by simp
  rwa [e] at h
theorem isB_blk {w : World} {g : Nat} {vn : Value} {d : D} (h : w.heap[g]? = some (.cells (cellsD vn (.slice none 0 0) (.slice none 0 0) d) 72 (0, 0))) (hl : d.line = []) (hb : d.body = []) : IsB w g vn (.slice none 0 0) (.slice none 0 0) d :=
  ⟨h, by rw [hl]; exact own_empty _, by rw [hb]; exact own_empty _, by simp [Value.ownBlock], by simp [Value.ownBlock], fun k hk => by simp [Value.ownBlock] at hk⟩
theorem isD_of {w : World} {g : Nat} {vn : Value} {d : D} (h : IsB w g vn (.slice none 0 0) (.slice none 0 0) d) (hV : FnV w (fun _ => False) vn d.st) : IsD w (fun k => k = g) g d :=
  ⟨vn, _, _, h, wt_new, hV.keep (Keep.refl (fun _ => False) w) (fun _ _ _ => id) fun _ _ h => h.elim⟩
set_option maxHeartbeats 4000000 in
set_option maxRecDepth 100000 in
theorem new_calls (st len most : Int) (ch cl : Bool) (w : World) :
    Calls Tryz.prog 18 #[.agg #[.int .i64 st, .int .i64 len, .bool ch, .bool cl], .int .i64 most] w fun e w' => ∃ g, e = .returned (.pointer (some ⟨g, 0, none⟩)) ∧ IsD w' (fun k => k = g) g (newD ch len (max most 0)) ∧ w.heap.size ≤ g ∧ Below w.heap.size w w' := by
  unfold newD
  cases ch with
  | true =>
    go_enter Tryz.func18, Tryz.ntmps18
    go_wp2
    go_ret
    exact ⟨w.heap.size + 1, rfl, isD_of (vn := fnS 32) (isB_blk (two_blk _ _ _) rfl rfl) rfl, Nat.le_succ _, below_alloc (below_alloc (Below.refl _ _) _) _⟩
  | false =>
    rw [if_neg (by decide)]
    by_cases h0 : 0 ≤ len
    · rw [if_pos h0]
      have z1 : decide (len ≥ 0) = true := decide_eq_true h0
      have z2 : decide (0 ≤ len) = true := z1
      by_cases hgt : max most 0 < len
      · rw [if_pos hgt]
        have z3 : decide (len > max most 0) = true := decide_eq_true hgt
        have z4 : decide (max most 0 < len) = true := z3
        clear h0 hgt
        have HB1 : Aside0 (∀ q : Nat, IsB (((w.alloc (.cells #[.int .i64 st, .int .i64 len, .bool false, .bool cl] 35)).alloc (.cells #[.func (.func 33) #[] #[], .int .i64 (max most 0), .int .i64 len, .int .i64 0, .slice none 0 0, .int .i64 0, .slice none 0 0, .bool false, .bool false, .int .i64 0] 72)).drewN q) (w.heap.size + 1) (.func (.func 33) #[] #[]) (.slice none 0 0) (.slice none 0 0) ({ D0 (max most 0) with left := len } : D)) := ⟨fun q => isB_blk (two_blk w _ _) rfl rfl⟩
        go_enter Tryz.func18, Tryz.ntmps18
        go_upto_region 7 with (fail)
        go_quiet (fail)
        go_wp2_with (first | (go_at_call 34; (with_reducible refine (wrong_calls (HB1.out _) 13).mono ?_); rintro e w2 ⟨rfl, hB2, hk2⟩; have HB2 := Aside0.mk hB2; have HK2 := Aside0.mk hk2; clear hB2 hk2))
        go_ret
        exact ⟨w.heap.size + 1, rfl, isD_of HB2.out rfl, Nat.le_succ _, (((below_alloc (below_alloc (Below.refl _ _) _) _ : Below w.heap.size w ((w.alloc (.cells #[.int .i64 st, .int .i64 len, .bool false, .bool cl] 35)).alloc (.cells #[.func (.func 33) #[] #[], .int .i64 (max most 0), .int .i64 len, .int .i64 0, .slice none 0 0, .int .i64 0, .slice none 0 0, .bool false, .bool false, .int .i64 0] 72)))).trans (pw_below_drewN (Below.refl _ _) _)).trans (HK2.out.below (fun k hk => by omega) (by simp; omega))⟩
      · rw [if_neg hgt]
        have z3 : decide (len > max most 0) = false := decide_eq_false hgt
        have z4 : decide (max most 0 < len) = false := z3
        clear h0 hgt
        by_cases hz : len = 0
        · rw [if_pos hz]
          have z5 : (len == 0) = true := beq_iff_eq.2 hz
          clear hz
          have HB1 : Aside0 (∀ q : Nat, IsB (((w.alloc (.cells #[.int .i64 st, .int .i64 len, .bool false, .bool cl] 35)).alloc (.cells #[.func (.func 33) #[] #[], .int .i64 (max most 0), .int .i64 len, .int .i64 0, .slice none 0 0, .int .i64 0, .slice none 0 0, .bool false, .bool false, .int .i64 0] 72)).drewN q) (w.heap.size + 1) (.func (.func 33) #[] #[]) (.slice none 0 0) (.slice none 0 0) ({ D0 (max most 0) with left := len } : D)) := ⟨fun q => isB_blk (two_blk w _ _) rfl rfl⟩
          go_enter Tryz.func18, Tryz.ntmps18
          go_upto_region 7 with (fail)
          go_quiet (fail)
          go_wp2_with (first | (go_at_call 35; (with_reducible refine (ends_calls (HB1.out _)).mono ?_); rintro e w2 ⟨rfl, hB2, hk2⟩; have HB2 := Aside0.mk hB2; have HK2 := Aside0.mk hk2; clear hB2 hk2))
          go_ret
          exact ⟨w.heap.size + 1, rfl, isD_of HB2.out rfl, Nat.le_succ _, (((below_alloc (below_alloc (Below.refl _ _) _) _ : Below w.heap.size w ((w.alloc (.cells #[.int .i64 st, .int .i64 len, .bool false, .bool cl] 35)).alloc (.cells #[.func (.func 33) #[] #[], .int .i64 (max most 0), .int .i64 len, .int .i64 0, .slice none 0 0, .int .i64 0, .slice none 0 0, .bool false, .bool false, .int .i64 0] 72)))).trans (pw_below_drewN (Below.refl _ _) _)).trans (HK2.out.below (fun k hk => by omega) (by simp; omega))⟩
        · rw [if_neg hz]
          have z5 : (len == 0) = false := beq_eq_false_iff_ne.2 hz
          clear hz
          go_enter Tryz.func18, Tryz.ntmps18
          go_upto_region 7 with (fail)
          go_quiet (fail)
          go_wp2
          go_ret
          exact ⟨w.heap.size + 1, rfl, isD_of (vn := fnS 33) (isB_blk (two_blk _ _ _) rfl rfl) rfl, Nat.le_succ _, pw_below_drewN (below_alloc (below_alloc (Below.refl _ _) _) _) _⟩
    · rw [if_neg h0]
      have z1 : decide (len ≥ 0) = false := decide_eq_false h0
      have z2 : decide (0 ≤ len) = false := z1
      clear h0
      go_enter Tryz.func18, Tryz.ntmps18
      go_wp2
      go_ret
      exact ⟨w.heap.size + 1, rfl, isD_of (vn := fnS 36) (isB_blk (two_blk _ _ _) rfl rfl) rfl, Nat.le_succ _, below_alloc (below_alloc (Below.refl _ _) _) _⟩

theorem eql_sl (ad : Addr) (n c : Nat) (W : World) : (binOp .eql 22 (.slice (some ad) n c) (.slice none 0 0)).run Tryz.prog W = .ok (.bool false) W := by kernel_rfl
theorem eql_sn (W : World) : (binOp .eql 22 (.slice none 0 0) (.slice none 0 0)).run Tryz.prog W = .ok (.bool true) W := by kernel_rfl
def clonePost (w w' : World) (xs : List Int) (e : Ending) : Prop := ∃ v, e = .returned v ∧ Own w' v xs ∧ (∀ k, v.ownBlock = some k → w.heap.size ≤ k) ∧ Below w.heap.size w w'
set_option maxHeartbeats 2000000 in
set_option maxRecDepth 100000 in
theorem clone_calls {w : World} {v : Value} {xs : List Int} (h : Own w v xs) (hm : xs.length ≤ 1099511627776) :
    Calls Tryz.prog 25 #[v] w fun e w' => clonePost w w' xs e := by
  have hC := own_C h
  rcases h.2 with ⟨rfl, h0⟩ | ⟨g, cap, cur, rfl, hb, hr, hc, hcm, hs, ht⟩
  · obtain rfl : xs = [] := List.length_eq_zero_iff.1 h0
    have hq := eql_sn
    clear hC h hm h0
    go_enter Tryz.func25, Tryz.ntmps25
    go_wp2
    go_ret
    exact ⟨_, rfl, own_empty _, fun k hk => by simp [Value.ownBlock] at hk, Below.refl _ _⟩
  · obtain ⟨A, c, hv, hn, hC⟩ := hC
    simp only [Value.slice.injEq, true_and] at hv
    obtain ⟨rfl, rfl⟩ := hv
    have hq := eql_sl
    have HRR := Aside0.mk (own_reads' h)
    have HM := Aside0.mk hm
    clear hC h hm hb hr hc hcm hs ht
    go_enter Tryz.func25, Tryz.ntmps25
    have HO := Aside0.mk (own_lit w w.heap.size 5 .u8 [] (Nat.le_refl _) (by simp))
    go_wp2_with (first | ((with_reducible refine gate_builtin (b := .append) (xs := #[.tmp 5, .tmp 6]) rfl ?_); at_builtin; refine print_append_row (w0 := w) w.heap.size rfl (.tmp 5) (.tmp 6) 22 5 .u8 1 rfl Tryz.underlying22 info5 (by decide) (.slice (some ⟨w.heap.size, 0, none⟩) 0 0) [] xs (some ⟨g, 0, none⟩) xs.length cap rfl rfl HO.out (HRR.out.allocS _) (below_alloc (Below.refl _ _) _) (by simp) (by have := HM.out; simp; omega) ?_; intro v1 w1 ho hb _ _; have HO1 := Aside0.mk ho; have HB1 := Aside0.mk hb; clear ho hb))
    go_ret
    exact ⟨_, rfl, own_less HO1.out (Nat.zero_le _), fun k hk => (World.ownsRow.lt HO1.out k hk).1, HB1.out⟩

set_option maxHeartbeats 2000000 in
set_option maxRecDepth 100000 in
theorem done_calls {w : World} {F : Nat → Prop} {g : Nat} {d : D} (h : IsD w F g d) :
    Calls Tryz.prog 23 #[.pointer (some ⟨g, 0, none⟩)] w fun e w' => e = .returned (.bool d.done) ∧ w = w' := by
  obtain ⟨vn, vl, vb, hB, _, _⟩ := h
  have c8 : w.cell? ⟨g, 8, none⟩ = some (.bool d.done) := (hB.cell 8).trans rfl
  clear hB
  go_enter Tryz.func23, Tryz.ntmps23
  go_wp2
  go_ret
  exact ⟨rfl, rfl⟩
set_option maxHeartbeats 2000000 in
set_option maxRecDepth 100000 in
theorem done_nil (w : World) : Calls Tryz.prog 23 #[.pointer none] w fun e w' => e = .returned (.bool false) ∧ w = w' := by
  go_enter Tryz.func23, Tryz.ntmps23
  go_wp2
  go_ret
  exact ⟨rfl, rfl⟩
set_option maxHeartbeats 2000000 in
set_option maxRecDepth 100000 in
theorem err_calls {w : World} {F : Nat → Prop} {g : Nat} {d : D} (h : IsD w F g d) :
    Calls Tryz.prog 20 #[.pointer (some ⟨g, 0, none⟩)] w fun e w' => e = .returned (.int .i64 d.e) ∧ w = w' := by
  obtain ⟨vn, vl, vb, hB, _, _⟩ := h
  have c9 : w.cell? ⟨g, 9, none⟩ = some (.int .i64 d.e) := (hB.cell 9).trans rfl
  clear hB
  go_enter Tryz.func20, Tryz.ntmps20
  go_wp2
  go_ret
  exact ⟨rfl, rfl⟩
set_option maxHeartbeats 2000000 in
set_option maxRecDepth 100000 in
theorem err_nil (w : World) : Calls Tryz.prog 20 #[.pointer none] w fun e w' => e = .returned (.int .i64 1) ∧ w = w' := by
  go_enter Tryz.func20, Tryz.ntmps20
  go_wp2
  go_ret
  exact ⟨rfl, rfl⟩
set_option maxHeartbeats 2000000 in
set_option maxRecDepth 100000 in
theorem body_calls {w : World} {F : Nat → Prop} {g : Nat} {d : D} (h : IsD w F g d) (hm : d.body.length ≤ 1099511627776) :
    Calls Tryz.prog 22 #[.pointer (some ⟨g, 0, none⟩)] w fun e w' => clonePost w w' d.body e := by
  obtain ⟨vn, vl, vb, hB, _, _⟩ := h
  have c6 : w.cell? ⟨g, 6, none⟩ = some vb := (hB.cell 6).trans rfl
  have HC := Aside0.mk (clone_calls hB.body hm)
  obtain ⟨A, n, rfl, _⟩ := own_slice2 hB.body
  clear hB hm
  go_enter Tryz.func22, Tryz.ntmps22
  go_wp2_with (first | (go_at_call 25; (with_reducible refine HC.out.mono ?_); rintro e w1 ⟨v, rfl, h1, h2, h3⟩; have H1 := Aside0.mk h1; have H2 := Aside0.mk h2; have H3 := Aside0.mk h3; clear h1 h2 h3))
  go_ret
  exact ⟨_, rfl, H1.out, H2.out, H3.out⟩
set_option maxHeartbeats 2000000 in
set_option maxRecDepth 100000 in
theorem body_nil (w : World) : Calls Tryz.prog 22 #[.pointer none] w fun e w' => e = .returned (.slice none 0 0) ∧ w = w' := by
  go_enter Tryz.func22, Tryz.ntmps22
  go_wp2
  go_ret
  exact ⟨rfl, rfl⟩
set_option maxHeartbeats 2000000 in
set_option maxRecDepth 100000 in
theorem end_nil (w : World) : Calls Tryz.prog 21 #[.pointer none] w fun e w' => e = .returned (.tuple #[]) ∧ w = w' := by
  go_enter Tryz.func21, Tryz.ntmps21
  go_wp2
  go_end0
  exact ⟨rfl, rfl⟩
set_option maxHeartbeats 2000000 in
set_option maxRecDepth 100000 in
theorem push_nil_calls (A : Option Addr) (n c : Nat) (w : World) : Calls Tryz.prog 19 #[.pointer none, .slice A n c] w fun e w' => e = .returned (.int .i64 0) ∧ w = w' := by
  go_enter Tryz.func19, Tryz.ntmps19
  go_wp2
  go_step3
  go_wp2
  try rw [Exit.noGoto_ret]
  go_ret
  exact ⟨rfl, rfl⟩
set_option maxHeartbeats 2000000 in
set_option maxRecDepth 100000 in
theorem copy_nil (w : World) : Calls Tryz.prog 26 #[.pointer none] w fun e w' => e = .returned (.pointer none) ∧ w = w' := by
  go_enter Tryz.func26, Tryz.ntmps26
  go_wp2
  go_ret
  exact ⟨rfl, rfl⟩

end Go.Proofs.YtfpcoanlkfgagaaGreatDoor.DecQ
namespace Go.Proofs.YtfpcoanlkfgagaaGreatDoor.DecE
open Go.RowKit Go.Proofs.YtfpcoanlkfgagaaGreatDoorW.PrintWords Go.Proofs.YtfpcoanlkfgagaaGreatDoorW.PrintLast Go.Proofs.YtfpcoanlkfgagaaGreatDoor.Ext Go.Proofs.YtfpcoanlkfgagaaGreatDoor.Dec Go.Proofs.YtfpcoanlkfgagaaGreatDoor.DecW Go.Proofs.YtfpcoanlkfgagaaGreatDoor.DecA Go.Proofs.YtfpcoanlkfgagaaGreatDoor.DecP Go.Proofs.YtfpcoanlkfgagaaGreatDoor.DecQ
set_option linter.unusedVariables false
set_option linter.unusedSimpArgs false
/-- What it is then. -/
def endD (d : D) : D := if d.st = .nil then d else if d.opn = true then d.ends else d.wrong 15
theorem IsB.open_ {w : World} {g : Nat} {vn vl vb : Value} {d : D} (h : IsB w g vn vl vb d) : w.cell? ⟨g, 7, none⟩ = some (.bool d.opn) := (h.cell 7).trans rfl
set_option maxHeartbeats 4000000 in
set_option maxRecDepth 100000 in
theorem end_calls {w : World} {F : Nat → Prop} {g : Nat} {d : D} (h : IsD w F g d) :
    Calls Tryz.prog 21 #[.pointer (some ⟨g, 0, none⟩)] w fun e w' => e = .returned (.tuple #[]) ∧ IsD w' F g (endD d) ∧ Keep F w w' := by
  have hD := h
  obtain ⟨vn, vl, vb, hB, hF, hV⟩ := h
  have hend : ∀ d' : D, d'.st = .nil → ∀ w', IsB w' g .nilFunc vl vb d' → IsD w' F g d' := fun d' hs w' h' => ⟨.nilFunc, vl, vb, h', hF, by rw [hs]; rfl⟩
  by_cases hst : d.st = .nil
  · rw [hst] at hV
    obtain rfl : vn = .nilFunc := hV
    have c0 : w.cell? ⟨g, 0, none⟩ = some .nilFunc := (hB.cell 0).trans rfl
    rw [show endD d = d from if_pos hst]
    have HD := Aside0.mk hD
    have q1 := eql_nil
    clear hD hB hF hend hst
    go_enter Tryz.func21, Tryz.ntmps21
    go_wp2
    go_end0
    exact ⟨rfl, HD.out, Keep.refl _ _⟩
  · obtain ⟨fn, ca, rfl⟩ := fn_form hV hst
    have c0 : w.cell? ⟨g, 0, none⟩ = some (.func fn #[] ca) := (hB.cell 0).trans rfl
    have c7 := IsB.open_ hB
    have q1 := eql_fn
    have HB := Aside0.mk hB
    have HN := Aside0.mk hend
    have HF := Aside0.mk (hF g (.inl rfl))
    unfold endD
    rw [if_neg hst]
    clear hD hB hF hV hend hst
    cases hop : d.opn with
    | true =>
      rw [hop] at c7
      rw [if_pos rfl]
      clear hop
      go_enter Tryz.func21, Tryz.ntmps21
      go_wp2_with (first | (go_at_call 35; (with_reducible refine (ends_calls HB.out).mono ?_); rintro e w2 ⟨rfl, hB2, hk2⟩; have HB2 := Aside0.mk hB2; have HK2 := Aside0.mk hk2; clear hB2 hk2))
      go_end0
      exact ⟨rfl, HN.out _ rfl _ HB2.out, HK2.out.mono fun k _ hk => hk ▸ HF.out⟩
    | false =>
      rw [hop] at c7
      rw [if_neg (by decide)]
      clear hop
      go_enter Tryz.func21, Tryz.ntmps21
      go_wp2_with (first | (go_at_call 34; (with_reducible refine (wrong_calls HB.out 15).mono ?_); rintro e w2 ⟨rfl, hB2, hk2⟩; have HB2 := Aside0.mk hB2; have HK2 := Aside0.mk hk2; clear hB2 hk2))
      go_end0
      exact ⟨rfl, HN.out _ rfl _ HB2.out, HK2.out.mono fun k _ hk => hk ▸ HF.out⟩
end Go.Proofs.YtfpcoanlkfgagaaGreatDoor.DecE
