/- head.read and head.Parse, with the methods first and field that read calls: plain functions and their walks, by hand. -/
import Derived.Test.YtfpcoanlkfgagaaDoorPAx2
import Derived.StillTailTactics
import Derived.Deep.LoopGhost
namespace Go.Proofs.YtfpcoanlkfgagaaDoor.PA
open Go.RowKit Go.Proofs.YtfpcoanlkfgagaaDoorW.PrintWords Go.Proofs.YtfpcoanlkfgagaaDoorW.PrintLast Go.Proofs.YtfpcoanlkfgagaaDoor.Ext Go.Proofs.YtfpcoanlkfgagaaDoorW.PrintMore
attribute [local go_sem] max2_int min2_int max_two min_two
set_option linter.unusedVariables false
set_option linter.unusedSimpArgs false

/-- The block of a head under way. -/
def HBlk (w : World) (g : Nat) (st : Int) (old : Bool) (v : Value) (sz : Int) : Prop := w.heap[g]? = some (.cells #[.int .i64 st, .bool old, v, .int .i64 sz] 59 (0, 0))
theorem HBlk.lt {w : World} {g : Nat} {st : Int} {old : Bool} {v : Value} {sz : Int} (h : HBlk w g st old v sz) : g < w.heap.size := blk_lt h
theorem HBlk.c0 {w : World} {g : Nat} {st : Int} {old : Bool} {v : Value} {sz : Int} (h : HBlk w g st old v sz) : w.cell? ⟨g, 0, none⟩ = some (.int .i64 st) := (blk_cell h 0).trans rfl
theorem HBlk.c1 {w : World} {g : Nat} {st : Int} {old : Bool} {v : Value} {sz : Int} (h : HBlk w g st old v sz) : w.cell? ⟨g, 1, none⟩ = some (.bool old) := (blk_cell h 1).trans rfl
theorem HBlk.c2 {w : World} {g : Nat} {st : Int} {old : Bool} {v : Value} {sz : Int} (h : HBlk w g st old v sz) : w.cell? ⟨g, 2, none⟩ = some v := (blk_cell h 2).trans rfl
theorem HBlk.c3 {w : World} {g : Nat} {st : Int} {old : Bool} {v : Value} {sz : Int} (h : HBlk w g st old v sz) : w.cell? ⟨g, 3, none⟩ = some (.int .i64 sz) := (blk_cell h 3).trans rfl
theorem HBlk.fz {w : World} {g : Nat} {st : Int} {old : Bool} {v : Value} {sz : Int} (h : HBlk w g st old v sz) (i : Nat) : w.frozen? ⟨g, i, none⟩ = false := blk_frozen h i
theorem HBlk.s0 {w : World} {g : Nat} {st : Int} {old : Bool} {v : Value} {sz : Int} (h : HBlk w g st old v sz) (x : Int) : HBlk (w.setCell ⟨g, 0, none⟩ (.int .i64 x)) g x old v sz := blk_put h 0 _ rfl
theorem HBlk.s1 {w : World} {g : Nat} {st : Int} {old : Bool} {v : Value} {sz : Int} (h : HBlk w g st old v sz) (x : Bool) : HBlk (w.setCell ⟨g, 1, none⟩ (.bool x)) g st x v sz := blk_put h 1 _ rfl
theorem HBlk.s2 {w : World} {g : Nat} {st : Int} {old : Bool} {v : Value} {sz : Int} (h : HBlk w g st old v sz) (x : Value) : HBlk (w.setCell ⟨g, 2, none⟩ x) g st old x sz := blk_put h 2 _ rfl
theorem HBlk.s3 {w : World} {g : Nat} {st : Int} {old : Bool} {v : Value} {sz : Int} (h : HBlk w g st old v sz) (x : Int) : HBlk (w.setCell ⟨g, 3, none⟩ (.int .i64 x)) g st old v x := blk_put h 3 _ rfl

abbrev p10 : ByteArray := ⟨#[72, 84, 84, 80, 47, 49, 46, 48, 32]⟩
abbrev p11 : ByteArray := ⟨#[72, 84, 84, 80, 47, 49, 46, 49, 32]⟩
def dg (x : Int) : Prop := 48 ≤ x ∧ x ≤ 57
instance (x : Int) : Decidable (dg x) := inferInstanceAs (Decidable (48 ≤ x ∧ x ≤ 57))
def stv (s : ByteArray) : Nat → Int
 | 0 => 0
 | n + 1 => 10 * stv s n + (bt s (9 + n) - 48)
def head_head_first.g (k : Nat) (s : ByteArray) (o : Bool) : Option (Int × Int × Bool) :=
 if 13 ≤ s.size then (if bt s 12 = 32 then (head_MayText.f k (s.extract 13 s.size)).bind fun m => (if m = true then (if dg (bt s 9) ∧ dg (bt s 10) ∧ dg (bt s 11) then some (0, stv s 3, o) else some (9, 0, false)) else some (9, 0, false)) else some (9, 0, false)) else some (9, 0, false)
def head_head_first.f (k : Nat) (s : ByteArray) : Option (Int × Int × Bool) :=
 (strings_HasPrefix.f s p10).bind fun o => (if o = true then head_head_first.g k s true else (strings_HasPrefix.f s p11).bind fun n => (if n = true then head_head_first.g k s false else some (9, 0, false)))

theorem stv_bd (s : ByteArray) (n : Nat) (hn : n ≤ 3) (h : ∀ j, j < n → dg (bt s (9 + j))) : 0 ≤ stv s n ∧ stv s n ≤ 999 := by
 have e : ∀ j, j < n → 0 ≤ bt s (9 + j) - 48 ∧ bt s (9 + j) - 48 ≤ 9 := fun j hj => by have := h j hj; unfold dg at this; omega
 match n, hn, e with
 | 0, _, _ => simp [stv]
 | 1, _, e => have := e 0 (by omega); simp only [stv] at *; omega
 | 2, _, e => have := e 0 (by omega); have := e 1 (by omega); simp only [stv] at *; omega
 | 3, _, e => have := e 0 (by omega); have := e 1 (by omega); have := e 2 (by omega); simp only [stv] at *; omega

theorem stv_step (s : ByteArray) (n : Nat) (x : Int) (hn : n < 3) (hx : x = 9 + (n : Int)) (hd : ∀ j, j < n → dg (bt s (9 + j))) (h : dg (bt s x)) : stv s (n + 1) = 10 * stv s n + (bt s x - 48) ∧ 0 ≤ stv s n ∧ stv s n ≤ 999 ∧ 0 ≤ bt s x - 48 ∧ bt s x - 48 ≤ 9 := by
 have := stv_bd s n (by omega) hd
 subst hx
 unfold dg at h
 refine ⟨rfl, this.1, this.2, by omega, by omega⟩

theorem wrap64_in (n : Int) (h : -9223372036854775808 ≤ n ∧ n ≤ 9223372036854775807) : wrap64 n = n := by unfold wrap64; omega
theorem stv_val {s : ByteArray} {n : Nat} {x : Int} (h : stv s (n + 1) = 10 * stv s n + (bt s x - 48) ∧ 0 ≤ stv s n ∧ stv s n ≤ 999 ∧ 0 ≤ bt s x - 48 ∧ bt s x - 48 ≤ 9) :
  wrap64 (wrap64 (10 * stv s n) + wrap64 ((bt s x - 48) % 256)) = stv s (n + 1) := by
 obtain ⟨h1, h2, h3, h4, h5⟩ := h
 have e : (bt s x - 48) % 256 = bt s x - 48 := by omega
 rw [e, wrap64_in (10 * stv s n) (by omega), wrap64_in (bt s x - 48) (by omega), wrap64_in _ (by omega), h1]

set_option maxHeartbeats 8000000 in
set_option maxRecDepth 100000 in
theorem head_head_first.calls (k : Nat) (g : Nat) (v : Value) (sz : Int) (old0 : Bool) (a1 : ByteArray) (r1 r2 : Int) (r3 : Bool) (w : World) (hI : HBlk w g 0 old0 v sz) (h : head_head_first.f k a1 = some (r1, r2, r3)) :
  Calls Tryd.prog 54 #[.pointer (some ⟨g, 0, none⟩), .string a1] w fun e w' => e = .returned (.int .i64 r1) ∧ ∃ st1 old1, HBlk w' g st1 old1 v sz ∧ KeepBut w w' g none ∧ Below g w w' ∧ (r1 = 0 → st1 = r2 ∧ old1 = r3) := by
 have HI := Aside0.mk hI
 clear hI
 unfold head_head_first.f at h
 replace h := Option.bind_eq_some_iff.mp h
 obtain ⟨o, ho, h⟩ := h
 have HO := Aside0.mk ho
 clear ho
 cases o with
 | false =>
  rw [if_neg (by decide)] at h
  replace h := Option.bind_eq_some_iff.mp h; obtain ⟨n, hn, h⟩ := h
  have HN := Aside0.mk hn
  clear hn
  cases n with
  | false =>
   rw [if_neg (by decide)] at h
   simp only [Option.some.injEq, Prod.mk.injEq] at h
   obtain ⟨rfl, rfl, rfl⟩ := h
   go_enter Tryd.func54, Tryd.ntmps54
   go_wp2_with (first | ((with_reducible refine gate_callee (f := 72) rfl ?_); refine goesL_ (some 8) rfl rfl Tryd.func72 (by kernel_rfl) rfl #[.string a1, .string p10] rfl (by (try simp only [List.map_toArray, List.map_cons, List.map_nil]); first | done | rfl) ?_; (with_reducible refine (strings_HasPrefix.calls a1 p10 false _ HO.out).mono ?_); rintro e w' ⟨rfl, ⟨nd, rfl⟩⟩; refine ⟨_, rfl, ?_⟩) | (go_at_call 72; (with_reducible refine (strings_HasPrefix.calls a1 p11 false _ HN.out).mono ?_); rintro e w' ⟨rfl, ⟨nd2, rfl⟩⟩))
   go_ret
   exact ⟨rfl, 0, old0, HI.out, by repeat (first | (with_reducible first | exact KeepBut.refl _ _ _ | apply KeepBut.set_ | apply keep_drewN | apply keep_drew) | exact KeepBut.refl _ _ _), by repeat (first | exact Below.refl _ _ | apply pw_below_drewN), fun hx => absurd hx (by decide)⟩
  | true =>
   rw [if_pos rfl] at h
   unfold head_head_first.g at h
   by_cases h13 : 13 ≤ a1.size
   ·rw [if_pos h13] at h
    have d13 : decide ((a1.size : Int) < 13) = false := decide_eq_false (by omega)
    have d13b : (a1.size < 13) = False := eq_false (by omega)
    have d12 : (12 < (a1.size : Int)) = True := eq_true (by omega)
    have d12b : (12 < a1.size) = True := eq_true (by omega)
    have d13c : ((13 : Int) ≤ (a1.size : Int)) = True := eq_true (by omega)
    have d13d : (13 ≤ a1.size) = True := eq_true h13
    have hx12 : ∀ h : 12 < a1.size, ((a1[12]'h).toNat : Int) = bt a1 12 := bt_at a1 12
    have H13 := Aside0.mk h13
    clear h13
    by_cases h12 : bt a1 12 = 32
    ·rw [if_pos h12] at h
     have c12 : (bt a1 12 != 32) = false := bne_eq_false_iff_eq.mpr h12
     have c12b : (bt a1 12 == 32) = true := beq_iff_eq.mpr h12
     clear h12
     replace h := Option.bind_eq_some_iff.mp h; obtain ⟨m, hm, h⟩ := h
     have HM := Aside0.mk hm
     clear hm
     cases m with
     | false =>
      rw [if_neg (by decide)] at h
      simp only [Option.some.injEq, Prod.mk.injEq] at h
      obtain ⟨rfl, rfl, rfl⟩ := h
      go_enter Tryd.func54, Tryd.ntmps54
      go_wp2_with (first | ((with_reducible refine gate_callee (f := 72) rfl ?_); refine goesL_ (some 8) rfl rfl Tryd.func72 (by kernel_rfl) rfl #[.string a1, .string p10] rfl (by (try simp only [List.map_toArray, List.map_cons, List.map_nil]); first | done | rfl) ?_; (with_reducible refine (strings_HasPrefix.calls a1 p10 false _ HO.out).mono ?_); rintro e w' ⟨rfl, ⟨nd, rfl⟩⟩; refine ⟨_, rfl, ?_⟩) | (go_at_call 72; (with_reducible refine (strings_HasPrefix.calls a1 p11 true _ HN.out).mono ?_); rintro e w' ⟨rfl, ⟨nd2, rfl⟩⟩) | (go_at_call 25; (with_reducible refine (head_MayText.calls k (a1.extract 13 a1.size) false _ HM.out).mono ?_); rintro e w' ⟨rfl, ⟨nd3, rfl⟩⟩))
      go_ret
      exact ⟨rfl, 0, old0, HI.out, by repeat (first | (with_reducible first | exact KeepBut.refl _ _ _ | apply KeepBut.set_ | apply keep_drewN | apply keep_drew) | exact KeepBut.refl _ _ _), by repeat (first | exact Below.refl _ _ | apply pw_below_drewN), fun hx => absurd hx (by decide)⟩
     | true =>
      rw [if_pos rfl] at h
      have Hh := Aside0.mk h
      clear h
      go_enter Tryd.func54, Tryd.ntmps54
      go_wp2_with (first | ((with_reducible refine gate_callee (f := 72) rfl ?_); refine goesL_ (some 8) rfl rfl Tryd.func72 (by kernel_rfl) rfl #[.string a1, .string p10] rfl (by (try simp only [List.map_toArray, List.map_cons, List.map_nil]); first | done | rfl) ?_; (with_reducible refine (strings_HasPrefix.calls a1 p10 false _ HO.out).mono ?_); rintro e w' ⟨rfl, ⟨nd, rfl⟩⟩; refine ⟨_, rfl, ?_⟩) | (go_at_call 72; (with_reducible refine (strings_HasPrefix.calls a1 p11 true _ HN.out).mono ?_); rintro e w' ⟨rfl, ⟨nd2, rfl⟩⟩) | (go_at_call 25; (with_reducible refine (head_MayText.calls k (a1.extract 13 a1.size) true _ HM.out).mono ?_); rintro e w' ⟨rfl, ⟨nd3, rfl⟩⟩))
      go_loopg [6] 3 (fun kq v6 w' => ∃ (n : Nat) (x : Int), v6 = .int .i64 x ∧ Aside0 (x = 9 + (n : Int)) ∧ Aside0 (kq + n = 3) ∧ Aside0 (∀ j, j < n → dg (bt a1 (9 + j))) ∧ Aside0 (HBlk w' g (stv a1 n) old0 v sz) ∧ Aside0 (KeepBut w w' g none) ∧ Aside0 (Below g w w'))
      case atStart => exact ⟨0, 9, rfl, ⟨rfl⟩, ⟨rfl⟩, ⟨fun j hj => absurd hj (by omega)⟩, HI, ⟨by repeat (first | (with_reducible first | exact KeepBut.refl _ _ _ | apply KeepBut.set_ | apply keep_drewN | apply keep_drew) | exact KeepBut.refl _ _ _)⟩, ⟨by repeat (first | exact Below.refl _ _ | apply pw_below_drewN)⟩⟩
      case round =>
       obtain ⟨n, x, rfl, HXN, HK1, HD, HI, HK, HB⟩ := hrel
       by_cases hn : n < 3
       ·have e12 : decide (x < 12) = true := decide_eq_true (by have := HXN.out; omega)
        have f0 : (0 ≤ x) = True := eq_true (by have := HXN.out; omega)
        have f1 : (x < (a1.size : Int)) = True := eq_true (by have := HXN.out; have := H13.out; omega)
        have hxn := bt_at a1 x
        have hc0 := HI.out.c0
        have hf0 := HI.out.fz 0
        have HNN := Aside0.mk hn
        clear hn
        by_cases h48 : bt a1 x < 48
        ·have d48 : decide (bt a1 x < 48) = true := decide_eq_true h48
         have hall : ¬ (dg (bt a1 9) ∧ dg (bt a1 10) ∧ dg (bt a1 11)) := by
          rintro ⟨x0, x1, x2⟩
          have : n = 0 ∨ n = 1 ∨ n = 2 := by have := HNN.out; omega
          rcases this with rfl | rfl | rfl
          ·have y : dg (bt a1 x) := by rw [HXN.out]; exact x0
           unfold dg at y
           omega
          ·have y : dg (bt a1 x) := by rw [HXN.out]; exact x1
           unfold dg at y
           omega
          ·have y : dg (bt a1 x) := by rw [HXN.out]; exact x2
           unfold dg at y
           omega
         have hh := Hh.out
         rw [if_neg hall] at hh
         simp only [Option.some.injEq, Prod.mk.injEq] at hh
         obtain ⟨rfl, rfl, rfl⟩ := hh
         clear h48
         go_wp2
         go_ret
         exact ⟨rfl, stv a1 n, old0, HI.out, HK.out, HB.out, fun hx => absurd hx (by decide)⟩
        ·have d48 : decide (bt a1 x < 48) = false := decide_eq_false h48
         by_cases h57 : bt a1 x > 57
         ·have d57 : decide (bt a1 x > 57) = true := decide_eq_true h57
          have hall : ¬ (dg (bt a1 9) ∧ dg (bt a1 10) ∧ dg (bt a1 11)) := by
           rintro ⟨x0, x1, x2⟩
           have : n = 0 ∨ n = 1 ∨ n = 2 := by have := HNN.out; omega
           rcases this with rfl | rfl | rfl
           ·have y : dg (bt a1 x) := by rw [HXN.out]; exact x0
            unfold dg at y
            omega
           ·have y : dg (bt a1 x) := by rw [HXN.out]; exact x1
            unfold dg at y
            omega
           ·have y : dg (bt a1 x) := by rw [HXN.out]; exact x2
            unfold dg at y
            omega
          have hh := Hh.out
          rw [if_neg hall] at hh
          simp only [Option.some.injEq, Prod.mk.injEq] at hh
          obtain ⟨rfl, rfl, rfl⟩ := hh
          clear h48 h57
          go_wp2
          go_ret
          exact ⟨rfl, stv a1 n, old0, HI.out, HK.out, HB.out, fun hx => absurd hx (by decide)⟩
         ·have d57 : decide (bt a1 x > 57) = false := decide_eq_false h57
          have HX := Aside0.mk (show dg (bt a1 x) from ⟨by omega, by omega⟩)
          clear h48 h57
          have HV := Aside0.mk (stv_step a1 n x HNN.out HXN.out HD.out HX.out)
          go_wp2
          go_still_tail 14, (by kernel_rfl)
          change wpList _ _ _ _ _ wr.drew
          have hc0d : wr.drew.cell? ⟨g, 0, none⟩ = some (.int .i64 (stv a1 n)) := hc0
          have hf0d : wr.drew.frozen? ⟨g, 0, none⟩ = false := hf0
          have HId := Aside0.mk (show HBlk wr.drew g (stv a1 n) old0 v sz from HI.out)
          have HKd := Aside0.mk (keep_drew HK.out)
          have HBd := Aside0.mk (below_drew1 HB.out)
          clear HI HK HB hc0 hf0
          generalize wr.drew = w2 at hc0d hf0d HId HKd HBd ⊢
          go_wp2
          rw [stv_val HV.out]
          go_roundg (gk - 1)
          case measure => have := HK1.out; have := HNN.out; omega
          case rel => exact ⟨n + 1, x + 1, by rw [wrap64_in (x + 1) (by have := HXN.out; have := HNN.out; omega)], ⟨by have := HXN.out; omega⟩, ⟨by have := HK1.out; have := HNN.out; omega⟩, ⟨fun j hj => by rcases Nat.lt_succ_iff_lt_or_eq.1 hj with h | rfl; exact HD.out j h; rw [← HXN.out]; exact HX.out⟩, ⟨HId.out.s0 _⟩, ⟨HKd.out.set_ _ _⟩, ⟨HBd.out.setCell (Nat.le_refl _) _⟩⟩
       ·have e12 : decide (x < 12) = false := decide_eq_false (by have := HXN.out; omega)
        obtain rfl : n = 3 := by have := HK1.out; omega
        have hh := Hh.out
        rw [if_pos ⟨by simpa using HD.out 0 (by omega), by simpa using HD.out 1 (by omega), by simpa using HD.out 2 (by omega)⟩] at hh
        simp only [Option.some.injEq, Prod.mk.injEq] at hh
        obtain ⟨rfl, rfl, rfl⟩ := hh
        have hc1 := HI.out.c1
        have hf1 := HI.out.fz 1
        go_wp2
        go_ret
        exact ⟨rfl, stv a1 3, HI.out.s1 _, HK.out.set_ _ _, HB.out.setCell (Nat.le_refl _) _, rfl⟩
    ·rw [if_neg h12] at h
     have c12 : (bt a1 12 != 32) = true := bne_iff_ne.mpr h12
     have c12b : (bt a1 12 == 32) = false := beq_eq_false_iff_ne.mpr h12
     clear h12
     simp only [Option.some.injEq, Prod.mk.injEq] at h
     obtain ⟨rfl, rfl, rfl⟩ := h
     go_enter Tryd.func54, Tryd.ntmps54
     go_wp2_with (first | ((with_reducible refine gate_callee (f := 72) rfl ?_); refine goesL_ (some 8) rfl rfl Tryd.func72 (by kernel_rfl) rfl #[.string a1, .string p10] rfl (by (try simp only [List.map_toArray, List.map_cons, List.map_nil]); first | done | rfl) ?_; (with_reducible refine (strings_HasPrefix.calls a1 p10 false _ HO.out).mono ?_); rintro e w' ⟨rfl, ⟨nd, rfl⟩⟩; refine ⟨_, rfl, ?_⟩) | (go_at_call 72; (with_reducible refine (strings_HasPrefix.calls a1 p11 true _ HN.out).mono ?_); rintro e w' ⟨rfl, ⟨nd2, rfl⟩⟩))
     go_ret
     exact ⟨rfl, 0, old0, HI.out, by repeat (first | (with_reducible first | exact KeepBut.refl _ _ _ | apply KeepBut.set_ | apply keep_drewN | apply keep_drew) | exact KeepBut.refl _ _ _), by repeat (first | exact Below.refl _ _ | apply pw_below_drewN), fun hx => absurd hx (by decide)⟩
   ·rw [if_neg h13] at h
    have d13 : decide ((a1.size : Int) < 13) = true := decide_eq_true (by omega)
    have d13b : (a1.size < 13) = True := eq_true (by omega)
    clear h13
    simp only [Option.some.injEq, Prod.mk.injEq] at h
    obtain ⟨rfl, rfl, rfl⟩ := h
    go_enter Tryd.func54, Tryd.ntmps54
    go_wp2_with (first | ((with_reducible refine gate_callee (f := 72) rfl ?_); refine goesL_ (some 8) rfl rfl Tryd.func72 (by kernel_rfl) rfl #[.string a1, .string p10] rfl (by (try simp only [List.map_toArray, List.map_cons, List.map_nil]); first | done | rfl) ?_; (with_reducible refine (strings_HasPrefix.calls a1 p10 false _ HO.out).mono ?_); rintro e w' ⟨rfl, ⟨nd, rfl⟩⟩; refine ⟨_, rfl, ?_⟩) | (go_at_call 72; (with_reducible refine (strings_HasPrefix.calls a1 p11 true _ HN.out).mono ?_); rintro e w' ⟨rfl, ⟨nd2, rfl⟩⟩))
    go_ret
    exact ⟨rfl, 0, old0, HI.out, by repeat (first | (with_reducible first | exact KeepBut.refl _ _ _ | apply KeepBut.set_ | apply keep_drewN | apply keep_drew) | exact KeepBut.refl _ _ _), by repeat (first | exact Below.refl _ _ | apply pw_below_drewN), fun hx => absurd hx (by decide)⟩
 | true =>
  rw [if_pos rfl] at h
  unfold head_head_first.g at h
  by_cases h13 : 13 ≤ a1.size
  ·rw [if_pos h13] at h
   have d13 : decide ((a1.size : Int) < 13) = false := decide_eq_false (by omega)
   have d13b : (a1.size < 13) = False := eq_false (by omega)
   have d12 : (12 < (a1.size : Int)) = True := eq_true (by omega)
   have d12b : (12 < a1.size) = True := eq_true (by omega)
   have d13c : ((13 : Int) ≤ (a1.size : Int)) = True := eq_true (by omega)
   have d13d : (13 ≤ a1.size) = True := eq_true h13
   have hx12 : ∀ h : 12 < a1.size, ((a1[12]'h).toNat : Int) = bt a1 12 := bt_at a1 12
   have H13 := Aside0.mk h13
   clear h13
   by_cases h12 : bt a1 12 = 32
   ·rw [if_pos h12] at h
    have c12 : (bt a1 12 != 32) = false := bne_eq_false_iff_eq.mpr h12
    have c12b : (bt a1 12 == 32) = true := beq_iff_eq.mpr h12
    clear h12
    replace h := Option.bind_eq_some_iff.mp h; obtain ⟨m, hm, h⟩ := h
    have HM := Aside0.mk hm
    clear hm
    cases m with
    | false =>
     rw [if_neg (by decide)] at h
     simp only [Option.some.injEq, Prod.mk.injEq] at h
     obtain ⟨rfl, rfl, rfl⟩ := h
     go_enter Tryd.func54, Tryd.ntmps54
     go_wp2_with (first | ((with_reducible refine gate_callee (f := 72) rfl ?_); refine goesL_ (some 8) rfl rfl Tryd.func72 (by kernel_rfl) rfl #[.string a1, .string p10] rfl (by (try simp only [List.map_toArray, List.map_cons, List.map_nil]); first | done | rfl) ?_; (with_reducible refine (strings_HasPrefix.calls a1 p10 true _ HO.out).mono ?_); rintro e w' ⟨rfl, ⟨nd, rfl⟩⟩; refine ⟨_, rfl, ?_⟩) | (go_at_call 25; (with_reducible refine (head_MayText.calls k (a1.extract 13 a1.size) false _ HM.out).mono ?_); rintro e w' ⟨rfl, ⟨nd3, rfl⟩⟩))
     go_ret
     exact ⟨rfl, 0, old0, HI.out, by repeat (first | (with_reducible first | exact KeepBut.refl _ _ _ | apply KeepBut.set_ | apply keep_drewN | apply keep_drew) | exact KeepBut.refl _ _ _), by repeat (first | exact Below.refl _ _ | apply pw_below_drewN), fun hx => absurd hx (by decide)⟩
    | true =>
     rw [if_pos rfl] at h
     have Hh := Aside0.mk h
     clear h
     go_enter Tryd.func54, Tryd.ntmps54
     go_wp2_with (first | ((with_reducible refine gate_callee (f := 72) rfl ?_); refine goesL_ (some 8) rfl rfl Tryd.func72 (by kernel_rfl) rfl #[.string a1, .string p10] rfl (by (try simp only [List.map_toArray, List.map_cons, List.map_nil]); first | done | rfl) ?_; (with_reducible refine (strings_HasPrefix.calls a1 p10 true _ HO.out).mono ?_); rintro e w' ⟨rfl, ⟨nd, rfl⟩⟩; refine ⟨_, rfl, ?_⟩) | (go_at_call 25; (with_reducible refine (head_MayText.calls k (a1.extract 13 a1.size) true _ HM.out).mono ?_); rintro e w' ⟨rfl, ⟨nd3, rfl⟩⟩))
     go_loopg [6] 3 (fun kq v6 w' => ∃ (n : Nat) (x : Int), v6 = .int .i64 x ∧ Aside0 (x = 9 + (n : Int)) ∧ Aside0 (kq + n = 3) ∧ Aside0 (∀ j, j < n → dg (bt a1 (9 + j))) ∧ Aside0 (HBlk w' g (stv a1 n) old0 v sz) ∧ Aside0 (KeepBut w w' g none) ∧ Aside0 (Below g w w'))
     case atStart => exact ⟨0, 9, rfl, ⟨rfl⟩, ⟨rfl⟩, ⟨fun j hj => absurd hj (by omega)⟩, HI, ⟨by repeat (first | (with_reducible first | exact KeepBut.refl _ _ _ | apply KeepBut.set_ | apply keep_drewN | apply keep_drew) | exact KeepBut.refl _ _ _)⟩, ⟨by repeat (first | exact Below.refl _ _ | apply pw_below_drewN)⟩⟩
     case round =>
      obtain ⟨n, x, rfl, HXN, HK1, HD, HI, HK, HB⟩ := hrel
      by_cases hn : n < 3
      ·have e12 : decide (x < 12) = true := decide_eq_true (by have := HXN.out; omega)
       have f0 : (0 ≤ x) = True := eq_true (by have := HXN.out; omega)
       have f1 : (x < (a1.size : Int)) = True := eq_true (by have := HXN.out; have := H13.out; omega)
       have hxn := bt_at a1 x
       have hc0 := HI.out.c0
       have hf0 := HI.out.fz 0
       have HNN := Aside0.mk hn
       clear hn
       by_cases h48 : bt a1 x < 48
       ·have d48 : decide (bt a1 x < 48) = true := decide_eq_true h48
        have hall : ¬ (dg (bt a1 9) ∧ dg (bt a1 10) ∧ dg (bt a1 11)) := by
         rintro ⟨x0, x1, x2⟩
         have : n = 0 ∨ n = 1 ∨ n = 2 := by have := HNN.out; omega
         rcases this with rfl | rfl | rfl
         ·have y : dg (bt a1 x) := by rw [HXN.out]; exact x0
          unfold dg at y
          omega
         ·have y : dg (bt a1 x) := by rw [HXN.out]; exact x1
          unfold dg at y
          omega
         ·have y : dg (bt a1 x) := by rw [HXN.out]; exact x2
          unfold dg at y
          omega
        have hh := Hh.out
        rw [if_neg hall] at hh
        simp only [Option.some.injEq, Prod.mk.injEq] at hh
        obtain ⟨rfl, rfl, rfl⟩ := hh
        clear h48
        go_wp2
        go_ret
        exact ⟨rfl, stv a1 n, old0, HI.out, HK.out, HB.out, fun hx => absurd hx (by decide)⟩
       ·have d48 : decide (bt a1 x < 48) = false := decide_eq_false h48
        by_cases h57 : bt a1 x > 57
        ·have d57 : decide (bt a1 x > 57) = true := decide_eq_true h57
         have hall : ¬ (dg (bt a1 9) ∧ dg (bt a1 10) ∧ dg (bt a1 11)) := by
          rintro ⟨x0, x1, x2⟩
          have : n = 0 ∨ n = 1 ∨ n = 2 := by have := HNN.out; omega
          rcases this with rfl | rfl | rfl
          ·have y : dg (bt a1 x) := by rw [HXN.out]; exact x0
           unfold dg at y
           omega
          ·have y : dg (bt a1 x) := by rw [HXN.out]; exact x1
           unfold dg at y
           omega
          ·have y : dg (bt a1 x) := by rw [HXN.out]; exact x2
           unfold dg at y
           omega
         have hh := Hh.out
         rw [if_neg hall] at hh
         simp only [Option.some.injEq, Prod.mk.injEq] at hh
         obtain ⟨rfl, rfl, rfl⟩ := hh
         clear h48 h57
         go_wp2
         go_ret
         exact ⟨rfl, stv a1 n, old0, HI.out, HK.out, HB.out, fun hx => absurd hx (by decide)⟩
        ·have d57 : decide (bt a1 x > 57) = false := decide_eq_false h57
         have HX := Aside0.mk (show dg (bt a1 x) from ⟨by omega, by omega⟩)
         clear h48 h57
         have HV := Aside0.mk (stv_step a1 n x HNN.out HXN.out HD.out HX.out)
         go_wp2
         go_still_tail 14, (by kernel_rfl)
         change wpList _ _ _ _ _ wr.drew
         have hc0d : wr.drew.cell? ⟨g, 0, none⟩ = some (.int .i64 (stv a1 n)) := hc0
         have hf0d : wr.drew.frozen? ⟨g, 0, none⟩ = false := hf0
         have HId := Aside0.mk (show HBlk wr.drew g (stv a1 n) old0 v sz from HI.out)
         have HKd := Aside0.mk (keep_drew HK.out)
         have HBd := Aside0.mk (below_drew1 HB.out)
         clear HI HK HB hc0 hf0
         generalize wr.drew = w2 at hc0d hf0d HId HKd HBd ⊢
         go_wp2
         rw [stv_val HV.out]
         go_roundg (gk - 1)
         case measure => have := HK1.out; have := HNN.out; omega
         case rel => exact ⟨n + 1, x + 1, by rw [wrap64_in (x + 1) (by have := HXN.out; have := HNN.out; omega)], ⟨by have := HXN.out; omega⟩, ⟨by have := HK1.out; have := HNN.out; omega⟩, ⟨fun j hj => by rcases Nat.lt_succ_iff_lt_or_eq.1 hj with h | rfl; exact HD.out j h; rw [← HXN.out]; exact HX.out⟩, ⟨HId.out.s0 _⟩, ⟨HKd.out.set_ _ _⟩, ⟨HBd.out.setCell (Nat.le_refl _) _⟩⟩
      ·have e12 : decide (x < 12) = false := decide_eq_false (by have := HXN.out; omega)
       obtain rfl : n = 3 := by have := HK1.out; omega
       have hh := Hh.out
       rw [if_pos ⟨by simpa using HD.out 0 (by omega), by simpa using HD.out 1 (by omega), by simpa using HD.out 2 (by omega)⟩] at hh
       simp only [Option.some.injEq, Prod.mk.injEq] at hh
       obtain ⟨rfl, rfl, rfl⟩ := hh
       have hc1 := HI.out.c1
       have hf1 := HI.out.fz 1
       go_wp2
       go_ret
       exact ⟨rfl, stv a1 3, HI.out.s1 _, HK.out.set_ _ _, HB.out.setCell (Nat.le_refl _) _, rfl⟩
   ·rw [if_neg h12] at h
    have c12 : (bt a1 12 != 32) = true := bne_iff_ne.mpr h12
    have c12b : (bt a1 12 == 32) = false := beq_eq_false_iff_ne.mpr h12
    clear h12
    simp only [Option.some.injEq, Prod.mk.injEq] at h
    obtain ⟨rfl, rfl, rfl⟩ := h
    go_enter Tryd.func54, Tryd.ntmps54
    go_wp2_with (first | ((with_reducible refine gate_callee (f := 72) rfl ?_); refine goesL_ (some 8) rfl rfl Tryd.func72 (by kernel_rfl) rfl #[.string a1, .string p10] rfl (by (try simp only [List.map_toArray, List.map_cons, List.map_nil]); first | done | rfl) ?_; (with_reducible refine (strings_HasPrefix.calls a1 p10 true _ HO.out).mono ?_); rintro e w' ⟨rfl, ⟨nd, rfl⟩⟩; refine ⟨_, rfl, ?_⟩))
    go_ret
    exact ⟨rfl, 0, old0, HI.out, by repeat (first | (with_reducible first | exact KeepBut.refl _ _ _ | apply KeepBut.set_ | apply keep_drewN | apply keep_drew) | exact KeepBut.refl _ _ _), by repeat (first | exact Below.refl _ _ | apply pw_below_drewN), fun hx => absurd hx (by decide)⟩
  ·rw [if_neg h13] at h
   have d13 : decide ((a1.size : Int) < 13) = true := decide_eq_true (by omega)
   have d13b : (a1.size < 13) = True := eq_true (by omega)
   clear h13
   simp only [Option.some.injEq, Prod.mk.injEq] at h
   obtain ⟨rfl, rfl, rfl⟩ := h
   go_enter Tryd.func54, Tryd.ntmps54
   go_wp2_with (first | ((with_reducible refine gate_callee (f := 72) rfl ?_); refine goesL_ (some 8) rfl rfl Tryd.func72 (by kernel_rfl) rfl #[.string a1, .string p10] rfl (by (try simp only [List.map_toArray, List.map_cons, List.map_nil]); first | done | rfl) ?_; (with_reducible refine (strings_HasPrefix.calls a1 p10 true _ HO.out).mono ?_); rintro e w' ⟨rfl, ⟨nd, rfl⟩⟩; refine ⟨_, rfl, ?_⟩))
   go_ret
   exact ⟨rfl, 0, old0, HI.out, by repeat (first | (with_reducible first | exact KeepBut.refl _ _ _ | apply KeepBut.set_ | apply keep_drewN | apply keep_drew) | exact KeepBut.refl _ _ _), by repeat (first | exact Below.refl _ _ | apply pw_below_drewN), fun hx => absurd hx (by decide)⟩
-- END first
end Go.Proofs.YtfpcoanlkfgagaaDoor.PA
