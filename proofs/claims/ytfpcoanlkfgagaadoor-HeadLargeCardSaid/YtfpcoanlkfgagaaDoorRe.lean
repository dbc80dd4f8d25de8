/- head.field: plain function and walk, by hand. -/
import Derived.Test.YtfpcoanlkfgagaaDoorRd
namespace Go.Proofs.YtfpcoanlkfgagaaDoor.PA
open Go.RowKit Go.Proofs.YtfpcoanlkfgagaaDoorW.PrintWords Go.Proofs.YtfpcoanlkfgagaaDoorW.PrintLast Go.Proofs.YtfpcoanlkfgagaaDoor.Ext Go.Proofs.YtfpcoanlkfgagaaDoorW.PrintMore
attribute [local go_sem] max2_int min2_int max_two min_two
set_option linter.unusedVariables false
set_option linter.unusedSimpArgs false
abbrev colon : ByteArray := ⟨#[58]⟩
theorem below_lower {B : Nat} {w W W1 : World} (h : Below B w W) (hb : Below W.heap.size W W1) (hB : B ≤ W.heap.size) : Below B w W1 :=
 h.trans ⟨hb.os, hb.tape, hb.output, hb.size, fun i hi => hb.block i (by omega)⟩
theorem HBlk.alloc {w : World} {g : Nat} {st : Int} {old : Bool} {v : Value} {sz : Int} (h : HBlk w g st old v sz) (o : Obj) : HBlk (w.alloc o) g st old v sz := (Below.heap_alloc w o g h.lt).trans h
def head_head_field.f (k : Nat) (n : Nat) (s : ByteArray) : Option (Int × ByteArray × ByteArray) :=
 (strings_Cut.f s colon).bind fun t => (if t.2.2 = true then (head_MayName.f k t.1).bind fun m => (if m = true then (head_MayText.f k t.2.1).bind fun m2 => (if m2 = true then (if n < 64 then (head_small.f t.1).bind fun a => (head_trimmed.f t.2.1).bind fun b => some (0, a, b) else some (10, ⟨#[]⟩, ⟨#[]⟩)) else some (10, ⟨#[]⟩, ⟨#[]⟩)) else some (10, ⟨#[]⟩, ⟨#[]⟩)) else some (10, ⟨#[]⟩, ⟨#[]⟩))
set_option maxHeartbeats 8000000 in
set_option maxRecDepth 100000 in
theorem head_head_field.calls (k : Nat) (B g : Nat) (st : Int) (old : Bool) (v : Value) (sz : Int) (fs : List S75) (a1 : ByteArray) (r1 : Int) (r2 r3 : ByteArray) (w : World) (hI : HBlk w g st old v sz) (hR : Kd.R k75 75 w B (fun k => k ≠ g) v fs) (hBg : B ≤ g) (hG : Glob w) (h : head_head_field.f k fs.length a1 = some (r1, r2, r3)) :
  Calls Tryd.prog 55 #[.pointer (some ⟨g, 0, none⟩), .string a1] w fun e w' => e = .returned (.int .i64 r1) ∧ ∃ v1 fs1, HBlk w' g st old v1 sz ∧ Kd.R k75 75 w' B (fun k => k ≠ g) v1 fs1 ∧ Below B w w' ∧ (r1 = 0 → fs1 = fs ++ [⟨r2, r3⟩]) := by
 have HI := Aside0.mk hI
 have HR := Aside0.mk hR
 have HG := Aside0.mk hG
 clear hI hR hG
 unfold head_head_field.f at h
 replace h := Option.bind_eq_some_iff.mp h
 obtain ⟨⟨nm, vl, is⟩, hc, h⟩ := h
 dsimp only at h
 have HC := Aside0.mk hc
 clear hc
 cases is with
 | false =>
  rw [if_neg (by decide)] at h
  simp only [Option.some.injEq, Prod.mk.injEq] at h
  obtain ⟨rfl, rfl, rfl⟩ := h
  go_enter Tryd.func55, Tryd.ntmps55
  go_wp2_with (first | ((with_reducible refine gate_callee (f := 64) rfl ?_); refine goesL_ (some 10) rfl rfl Tryd.func64 (by kernel_rfl) rfl #[.string a1, .string colon] rfl (by (try simp only [List.map_toArray, List.map_cons, List.map_nil]); first | done | rfl) ?_; (with_reducible refine (strings_Cut.calls a1 colon nm vl false _ HG.out HC.out).mono ?_); rintro e w' ⟨rfl, ⟨nd, rfl⟩⟩; refine ⟨_, rfl, ?_⟩))
  go_ret
  exact ⟨rfl, _, fs, HI.out, HR.out, by repeat (first | exact Below.refl _ _ | apply pw_below_drewN), fun hx => absurd hx (by decide)⟩
 | true =>
  rw [if_pos rfl] at h
  replace h := Option.bind_eq_some_iff.mp h
  obtain ⟨m, hm, h⟩ := h
  have HN := Aside0.mk hm
  clear hm
  cases m with
  | false =>
   rw [if_neg (by decide)] at h
   simp only [Option.some.injEq, Prod.mk.injEq] at h
   obtain ⟨rfl, rfl, rfl⟩ := h
   go_enter Tryd.func55, Tryd.ntmps55
   go_wp2_with (first | ((with_reducible refine gate_callee (f := 64) rfl ?_); refine goesL_ (some 10) rfl rfl Tryd.func64 (by kernel_rfl) rfl #[.string a1, .string colon] rfl (by (try simp only [List.map_toArray, List.map_cons, List.map_nil]); first | done | rfl) ?_; (with_reducible refine (strings_Cut.calls a1 colon nm vl true _ HG.out HC.out).mono ?_); rintro e w' ⟨rfl, ⟨nd, rfl⟩⟩; refine ⟨_, rfl, ?_⟩) | (go_at_call 23; (with_reducible refine (head_MayName.calls k nm false _ HN.out).mono ?_); rintro e w' ⟨rfl, ⟨nd2, rfl⟩⟩))
   go_ret
   exact ⟨rfl, _, fs, HI.out, HR.out, by repeat (first | exact Below.refl _ _ | apply pw_below_drewN), fun hx => absurd hx (by decide)⟩
  | true =>
   rw [if_pos rfl] at h
   replace h := Option.bind_eq_some_iff.mp h
   obtain ⟨m, hm, h⟩ := h
   have HT := Aside0.mk hm
   clear hm
   cases m with
   | false =>
    rw [if_neg (by decide)] at h
    simp only [Option.some.injEq, Prod.mk.injEq] at h
    obtain ⟨rfl, rfl, rfl⟩ := h
    go_enter Tryd.func55, Tryd.ntmps55
    go_wp2_with (first | ((with_reducible refine gate_callee (f := 64) rfl ?_); refine goesL_ (some 10) rfl rfl Tryd.func64 (by kernel_rfl) rfl #[.string a1, .string colon] rfl (by (try simp only [List.map_toArray, List.map_cons, List.map_nil]); first | done | rfl) ?_; (with_reducible refine (strings_Cut.calls a1 colon nm vl true _ HG.out HC.out).mono ?_); rintro e w' ⟨rfl, ⟨nd, rfl⟩⟩; refine ⟨_, rfl, ?_⟩) | (go_at_call 23; (with_reducible refine (head_MayName.calls k nm true _ HN.out).mono ?_); rintro e w' ⟨rfl, ⟨nd2, rfl⟩⟩) | (go_at_call 25; (with_reducible refine (head_MayText.calls k vl false _ HT.out).mono ?_); rintro e w' ⟨rfl, ⟨nd3, rfl⟩⟩))
    go_ret
    exact ⟨rfl, _, fs, HI.out, HR.out, by repeat (first | exact Below.refl _ _ | apply pw_below_drewN), fun hx => absurd hx (by decide)⟩
   | true =>
    rw [if_pos rfl] at h
    obtain ⟨A, c, rfl⟩ := Kd.R_slice HR.out
    have hc2 := HI.out.c2
    by_cases h64 : fs.length < 64
    ·rw [if_pos h64] at h
     have d64 : decide ((fs.length : Int) ≥ 64) = false := decide_eq_false (by omega)
     have d64b : decide (64 ≤ fs.length) = false := decide_eq_false (by omega)
     have d64c : (64 ≤ fs.length) = False := eq_false (by omega)
     replace h := Option.bind_eq_some_iff.mp h
     obtain ⟨s1, hs1, h⟩ := h
     replace h := Option.bind_eq_some_iff.mp h
     obtain ⟨s2, hs2, h⟩ := h
     simp only [Option.some.injEq, Prod.mk.injEq] at h
     obtain ⟨rfl, rfl, rfl⟩ := h
     have HS1 := Aside0.mk hs1
     have HS2 := Aside0.mk hs2
     have H64 := Aside0.mk h64
     clear hs1 hs2 h64
     go_enter Tryd.func55, Tryd.ntmps55
     go_wp2_with (first | ((with_reducible refine gate_callee (f := 64) rfl ?_); refine goesL_ (some 10) rfl rfl Tryd.func64 (by kernel_rfl) rfl #[.string a1, .string colon] rfl (by (try simp only [List.map_toArray, List.map_cons, List.map_nil]); first | done | rfl) ?_; (with_reducible refine (strings_Cut.calls a1 colon nm vl true _ HG.out HC.out).mono ?_); rintro e w' ⟨rfl, ⟨nd, rfl⟩⟩; refine ⟨_, rfl, ?_⟩) | (go_at_call 23; (with_reducible refine (head_MayName.calls k nm true _ HN.out).mono ?_); rintro e w' ⟨rfl, ⟨nd2, rfl⟩⟩) | (go_at_call 25; (with_reducible refine (head_MayText.calls k vl true _ HT.out).mono ?_); rintro e w' ⟨rfl, ⟨nd3, rfl⟩⟩))
     refine start_ (n := 15) (S := fun w' => w'.cell? ⟨g, 2, none⟩ = some (.slice A fs.length c)) (ds := [14]) #[false, false, false, false, false, false, false, false, false, false, false, false, false, false, false] (by kernel_rfl) rfl rfl HI.out.c2 (fun hHeld => ?_)
     have HI2 := Aside0.mk (show HBlk (World.drew (World.drewN w (nd + nd2 + nd3))) g st old (.slice A fs.length c) sz from HI.out)
     have HR2 := Aside0.mk (show Kd.R k75 75 (World.drew (World.drewN w (nd + nd2 + nd3))) B (fun k => k ≠ g) (.slice A fs.length c) fs from Kd.R_drew (Kd.R_drewN HR.out _))
     have HB2 := Aside0.mk (show Below B w (World.drew (World.drewN w (nd + nd2 + nd3))) from below_drew (pw_below_drewN (Below.refl _ _) _))
     clear HI HR hc2
     generalize World.drew (World.drewN w (nd + nd2 + nd3)) = w2 at hHeld HI2 HR2 HB2 ⊢
     refine pure_ (i := 0) (N := some 34) (v := ?_) (a' := ?_) #[true, false, false, false, false, false, false, false, false, false, false, false, false, false, false] rfl rfl (by kernel_rfl) (fun _ _ _ h => h) (Or.inl ⟨by rfl, ?_⟩) ?_ ?_
     rotate_left
     ·intro w'
      go_simp
      with_reducible rfl
     rotate_left
     ·simp only [Act.put, List.setIfInBounds_toArray, List.set_cons_zero, List.set_cons_succ, i64_w, i32_w]
      rfl
     refine pure_ (i := 1) (N := some 35) (v := ?_) (a' := ?_) #[true, true, false, false, false, false, false, false, false, false, false, false, false, false, false] rfl rfl (by kernel_rfl) (fun _ _ _ h => h) (Or.inl ⟨by rfl, ?_⟩) ?_ ?_
     rotate_left
     ·intro w'
      go_simp
      with_reducible rfl
     rotate_left
     ·simp only [Act.put, List.setIfInBounds_toArray, List.set_cons_zero, List.set_cons_succ, i64_w, i32_w]
      rfl
     refine pure_ (i := 2) (N := some 36) (v := ?_) (a' := ?_) #[true, true, true, false, false, false, false, false, false, false, false, false, false, false, false] rfl rfl (by kernel_rfl) (fun _ _ _ h => h) (Or.inl ⟨by rfl, ?_⟩) ?_ ?_
     rotate_left
     ·intro w'
      go_simp
      with_reducible rfl
     rotate_left
     ·simp only [Act.put, List.setIfInBounds_toArray, List.set_cons_zero, List.set_cons_succ, i64_w, i32_w]
      rfl
     refine pure_ (i := 3) (N := some 37) (v := ?_) (a' := ?_) #[true, true, true, true, false, false, false, false, false, false, false, false, false, false, false] rfl rfl (by kernel_rfl) (fun _ _ _ h => h) (Or.inl ⟨by rfl, ?_⟩) ?_ ?_
     rotate_left
     ·intro w'
      go_simp
      with_reducible rfl
     rotate_left
     ·simp only [Act.put, List.setIfInBounds_toArray, List.set_cons_zero, List.set_cons_succ, i64_w, i32_w]
      rfl
     refine pure_ (i := 5) (N := some 39) (v := ?_) (a' := ?_) #[true, true, true, true, false, true, false, false, false, false, false, false, false, false, false] rfl rfl (by kernel_rfl) (fun _ _ _ h => h) (Or.inl ⟨by rfl, ?_⟩) ?_ ?_
     rotate_left
     ·intro w'
      go_simp
      with_reducible rfl
     rotate_left
     ·simp only [Act.put, List.setIfInBounds_toArray, List.set_cons_zero, List.set_cons_succ, i64_w, i32_w]
      rfl
     refine pure_ (i := 7) (N := some 41) (v := ?_) (a' := ?_) #[true, true, true, true, false, true, false, true, false, false, false, false, false, false, false] rfl rfl (by kernel_rfl) (fun _ _ _ h => h) (Or.inl ⟨by rfl, ?_⟩) ?_ ?_
     rotate_left
     ·intro w'
      go_simp
      with_reducible rfl
     rotate_left
     ·simp only [Act.put, List.setIfInBounds_toArray, List.set_cons_zero, List.set_cons_succ, i64_w, i32_w]
      rfl
     refine take_ (i := 4) (N := some 38) (v := ?_) (a' := ?_) #[true, true, true, true, true, true, false, true, false, false, false, false, false, false, false] rfl rfl (by kernel_rfl) (fun _ _ _ h => h) (Or.inl ⟨by rfl, ?_⟩) hHeld ?_ ?_
     rotate_left
     ·intro w' hS'
      have hS2 : w'.cell? ⟨g, 2, none⟩ = some (.slice A fs.length c) := hS'
      go_simp
      with_reducible rfl
     rotate_left
     ·simp only [Act.put, List.setIfInBounds_toArray, List.set_cons_zero, List.set_cons_succ, i64_w, i32_w]
      rfl
     refine one_ (i := 6) (N := some 40) #[true, true, true, true, true, true, true, true, false, false, false, false, false, false, false] rfl rfl (by kernel_rfl) (by decide) (fun K hK => ?_)
     refine goes_ Tryd.func39 (by kernel_rfl) rfl #[.string nm] (by rfl) rfl rfl (by (try simp only [List.map_toArray, List.map_cons, List.map_nil]); first | done | rfl) ?_
     with_reducible refine (head_small.calls nm s1 _ HS1.out).mono ?_
     rintro e w3 ⟨rfl, hb⟩
     refine ⟨_, rfl, ?_⟩
     have HI3 := Aside0.mk (show HBlk w3 g st old (.slice A fs.length c) sz from (hb.block g HI2.out.lt).trans HI2.out)
     have HR3 := Aside0.mk (Kd.R_below HR2.out hb)
     have HB3 := Aside0.mk (below_lower HB2.out hb (Nat.le_trans hBg (Nat.le_of_lt HI2.out.lt)))
     clear HI2 HR2 HB2 hb
     refine hK.out _ _ HI3.out.c2 (fun hHeld => ?_)
     clear hK K
     refine norm_ (a' := ?_) ?_ ?_
     rotate_left
     ·show Act.put _ (some 40) _ = _
      simp only [Act.put, List.setIfInBounds_toArray, List.set_cons_zero, List.set_cons_succ, i64_w, i32_w]
      rfl
     refine one_ (i := 8) (N := some 42) #[true, true, true, true, true, true, true, true, true, false, false, false, false, false, false] rfl rfl (by kernel_rfl) (by decide) (fun K hK => ?_)
     refine goes_ Tryd.func59 (by kernel_rfl) rfl #[.string vl] (by rfl) rfl rfl (by (try simp only [List.map_toArray, List.map_cons, List.map_nil]); first | done | rfl) ?_
     with_reducible refine (head_trimmed.calls vl s2 _ HS2.out).mono ?_
     rintro e w4 ⟨rfl, hb⟩
     refine ⟨_, rfl, ?_⟩
     have HI4 := Aside0.mk (show HBlk w4 g st old (.slice A fs.length c) sz from (hb.block g HI3.out.lt).trans HI3.out)
     have HR4 := Aside0.mk (Kd.R_below HR3.out hb)
     have HB4 := Aside0.mk (below_lower HB3.out hb (Nat.le_trans hBg (Nat.le_of_lt HI3.out.lt)))
     clear HI3 HR3 HB3 hb
     refine hK.out _ _ HI4.out.c2 (fun hHeld => ?_)
     clear hK K
     refine norm_ (a' := ?_) ?_ ?_
     rotate_left
     ·show Act.put _ (some 42) _ = _
      simp only [Act.put, List.setIfInBounds_toArray, List.set_cons_zero, List.set_cons_succ, i64_w, i32_w]
      rfl
     refine pure_ (i := 9) (N := some 43) (v := ?_) (a' := ?_) #[true, true, true, true, true, true, true, true, true, true, false, false, false, false, false] rfl rfl (by kernel_rfl) (fun _ _ _ h => h) (Or.inl ⟨by rfl, ?_⟩) ?_ ?_
     rotate_left
     ·intro w'
      go_simp
      with_reducible rfl
     rotate_left
     ·simp only [Act.put, List.setIfInBounds_toArray, List.set_cons_zero, List.set_cons_succ, i64_w, i32_w]
      rfl
     refine one_ (i := 10) (N := some 44) #[true, true, true, true, true, true, true, true, true, true, true, false, false, false, false] rfl rfl (by kernel_rfl) (by decide) (fun K hK => ?_)
     refine value_ (v := .slice (some ⟨w4.heap.size, 0, none⟩) 1 1) (w1 := w4.alloc (.cells [.string s1, .string s2].toArray 75)) (by rfl) rfl (by first | (go_simp; done) | (go_simp; rfl)) ?_
     refine hK.out _ _ (HI4.out.alloc _).c2 (fun hHeld => ?_)
     clear hK K
     refine norm_ (a' := ?_) ?_ ?_
     rotate_left
     ·show Act.put _ (some 44) _ = _
      simp only [Act.put, List.setIfInBounds_toArray, List.set_cons_zero, List.set_cons_succ, i64_w, i32_w]
      rfl
     refine one_ (i := 11) (N := some 45) #[true, true, true, true, true, true, true, true, true, true, true, true, false, false, false] rfl rfl (by kernel_rfl) (by decide) (fun K hK => ?_)
     refine Kd.R_append_step k75 (w0 := w) B (by rfl) (.tmp 38) (.tmp 44) 45 75 (.agg #[(.string ⟨#[]⟩), (.string ⟨#[]⟩)]) 32 rfl Tryd.underlying45 info75 rfl (by decide) (by omega) (.slice A fs.length c) fs (⟨s1, s2⟩ : S75) [.string s1, .string s2] (fun k => k ≠ g) (fun _ => False) rfl (by first | (go_simp; done) | (go_simp; rfl)) (k75_mkM _ _ _ (⟨s1, s2⟩ : S75)) (fun _ hk => hk.elim) (fun k hk => by have := HI4.out.lt; omega) HR4.out HB4.out (Nat.le_trans hBg (Nat.le_of_lt HI4.out.lt)) (by have := H64.out; omega) ?_
     intro v5 w5 ho hb hg hat
     obtain ⟨A5, c5, rfl⟩ := Kd.R_slice ho
     have HI5 := Aside0.mk (show HBlk w5 g st old (.slice A fs.length c) sz from (hg.block g HI4.out.lt (Kd.R_away HR4.out (fun _ hk => hk))).trans HI4.out)
     have HR5 := Aside0.mk ho
     have HB5 := Aside0.mk hb
     clear HI4 HR4 HB4 hg hat ho hb
     refine hK.out _ _ HI5.out.c2 (fun hHeld => ?_)
     clear hK K
     refine norm_ (a' := ?_) ?_ ?_
     rotate_left
     ·show Act.put _ (some 45) _ = _
      simp only [Act.put, List.setIfInBounds_toArray, List.set_cons_zero, List.set_cons_succ, i64_w, i32_w]
      rfl
     refine pure_ (i := 12) (N := some 46) (v := ?_) (a' := ?_) #[true, true, true, true, true, true, true, true, true, true, true, true, true, false, false] rfl rfl (by kernel_rfl) (fun _ _ _ h => h) (Or.inl ⟨by rfl, ?_⟩) ?_ ?_
     rotate_left
     ·intro w'
      go_simp
      with_reducible rfl
     rotate_left
     ·simp only [Act.put, List.setIfInBounds_toArray, List.set_cons_zero, List.set_cons_succ, i64_w, i32_w]
      rfl
     refine pure_ (i := 13) (N := some 47) (v := ?_) (a' := ?_) #[true, true, true, true, true, true, true, true, true, true, true, true, true, true, false] rfl rfl (by kernel_rfl) (fun _ _ _ h => h) (Or.inl ⟨by rfl, ?_⟩) ?_ ?_
     rotate_left
     ·intro w'
      go_simp
      with_reducible rfl
     rotate_left
     ·simp only [Act.put, List.setIfInBounds_toArray, List.set_cons_zero, List.set_cons_succ, i64_w, i32_w]
      rfl
     refine last_ (i := 14) (N := none) #[true, true, true, true, true, true, true, true, true, true, true, true, true, true, true] rfl rfl (by kernel_rfl) (by decide) (fun K hK => ?_)
     have hc2 := HI5.out.c2
     have hf2 := HI5.out.fz 2
     refine skip_ (w1 := w5.setCell ⟨g, 2, none⟩ (.slice A5 (fs ++ [(⟨s1, s2⟩ : S75)]).length c5)) (by rfl) rfl (by first | (go_simp; done) | (go_simp; rfl)) ?_
     refine hK.out _ _ ?_
     clear hK K
     refine done_ (by kernel_rfl) ?_
     go_wp2
     go_ret
     exact ⟨rfl, _, _, HI5.out.s2 _, Kd.R_far (p := ⟨g, 2, none⟩) HR5.out (fun _ hk => hk) _, HB5.out.setCell hBg _, fun _ => rfl⟩
    ·rw [if_neg h64] at h
     have d64 : decide ((fs.length : Int) ≥ 64) = true := decide_eq_true (by omega)
     have d64b : decide (64 ≤ fs.length) = true := decide_eq_true (by omega)
     have d64c : (64 ≤ fs.length) = True := eq_true (by omega)
     clear h64
     simp only [Option.some.injEq, Prod.mk.injEq] at h
     obtain ⟨rfl, rfl, rfl⟩ := h
     go_enter Tryd.func55, Tryd.ntmps55
     go_wp2_with (first | ((with_reducible refine gate_callee (f := 64) rfl ?_); refine goesL_ (some 10) rfl rfl Tryd.func64 (by kernel_rfl) rfl #[.string a1, .string colon] rfl (by (try simp only [List.map_toArray, List.map_cons, List.map_nil]); first | done | rfl) ?_; (with_reducible refine (strings_Cut.calls a1 colon nm vl true _ HG.out HC.out).mono ?_); rintro e w' ⟨rfl, ⟨nd, rfl⟩⟩; refine ⟨_, rfl, ?_⟩) | (go_at_call 23; (with_reducible refine (head_MayName.calls k nm true _ HN.out).mono ?_); rintro e w' ⟨rfl, ⟨nd2, rfl⟩⟩) | (go_at_call 25; (with_reducible refine (head_MayText.calls k vl true _ HT.out).mono ?_); rintro e w' ⟨rfl, ⟨nd3, rfl⟩⟩))
     go_ret
     exact ⟨rfl, _, fs, HI.out, HR.out, by repeat (first | exact Below.refl _ _ | apply pw_below_drewN), fun hx => absurd hx (by decide)⟩
end Go.Proofs.YtfpcoanlkfgagaaDoor.PA
