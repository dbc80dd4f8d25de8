/- head.read and head.Parse, with the methods first and field that read calls: plain functions and their walks, by hand. -/
import Derived.Test.YtfpcoanlkfgagaaGreatDoorPAx1
import Derived.Test.YtfpcoanlkfgagaaGreatDoorPAx2
import Derived.Test.YtfpcoanlkfgagaaGreatDoorPAx3
import Derived.StillTailTactics
import Derived.Deep.LoopGhost
namespace Go.Proofs.YtfpcoanlkfgagaaGreatDoor.PA
open Go.RowKit Go.Proofs.YtfpcoanlkfgagaaGreatDoorW.PrintWords Go.Proofs.YtfpcoanlkfgagaaGreatDoorW.PrintLast Go.Proofs.YtfpcoanlkfgagaaGreatDoor.Ext Go.Proofs.YtfpcoanlkfgagaaGreatDoorW.PrintMore
attribute [local go_sem] max2_int min2_int max_two min_two
set_option linter.unusedVariables false
set_option linter.unusedSimpArgs false

/-- The block of a head under way. -/
def HBlk (w : World) (g : Nat) (st : Int) (old : Bool) (v : Value) (sz : Int) : Prop := w.heap[g]? = some (.cells #[.int .i64 st, .bool old, v, .int .i64 sz] 61 (0, 0))
theorem HBlk.lt {w : World} {g : Nat} {st : Int} {old : Bool} {v : Value} {sz : Int} (h : HBlk w g st old v sz) : g < w.heap.size := blk_lt h
theorem HBlk.c0 {w : World} {g : Nat} {st : Int} {old : Bool} {v : Value} {sz : Int} (h : HBlk w g st old v sz) : w.cell? ⟨g, 0, none⟩ = some (.int .i64 st) := (blk_cell h 0).trans rfl
theorem HBlk.c1 {w : World} {g : Nat} {st : Int} {old : Bool} {v : Value} {sz : Int} (h : HBlk w g st old v sz) : w.cell? ⟨g, 1, none⟩ = some (.bool old) := (blk_cell h 1).trans rfl
theorem HBlk.c2 {w : World} {g : Nat} {st : Int} {old : Bool} {v : Value} {sz : Int} (h : HBlk w g st old v sz) : w.cell? ⟨g, 2, none⟩ = some v := (blk_cell h 2).trans rfl
theorem HBlk.c3 {w : World} {g : Nat} {st : Int} {old : Bool} {v : Value} {sz : Int} (h : HBlk w g st old v sz) : w.cell? ⟨g, 3, none⟩ = some (.int .i64 sz) := (blk_cell h 3).trans rfl
theorem HBlk.fz {w : World} {g : Nat} {st : Int} {old : Bool} {v : Value} {sz : Int} (h : HBlk w g st old v sz) (i : Nat) : w.frozen? ⟨g, i, none⟩ = false := blk_frozen h i
theorem HBlk.s0 {w : World} {g : Nat} {st : Int} {old : Bool} {v : Value} {sz : Int} (h : HBlk w g st old v sz) (x : Int) : HBlk (w.setCell ⟨g, 0, none⟩ (.int .i64 x)) g x old v sz := blk_put h 0 _ rfl
theorem HBlk.s1 {w : World} {g : Nat} {st : Int} {old : Bool} {v : Value} {sz : Int} (h : HBlk w g st old v sz) (x : Bool) : HBlk (w.setCell ⟨g, 1, none⟩ (.bool x)) g st x v sz := blk_put h 1 _ rfl
theorem HBlk.s2 {w : World} {g : Nat} {st : Int} {old : Bool} {v : Value} {sz : Int} (h : HBlk w g st old v sz) (x : Value) : HBlk (w.setCell ⟨g, 2, none⟩ x) g st old x sz := blk_put h 2 _ rfl
theorem HBlk.s3 {w : World} {g : Nat} {st : Int} {old : Bool} {v : Value} {sz : Int} (h : HBlk w g st old v sz) (x : Int) : HBlk (w.setCell ⟨g, 3, none⟩ (.int .i64 x)) g st old v x := blk_put h 3 _ rfl

abbrev p10 : ByteArray := ⟨#[72, 84, 84, 80, 47, 49, 46, 48, 32]⟩
abbrev p11 : ByteArray := ⟨#[72, 84, 84, 80, 47, 49, 46, 49, 32]⟩
def dg (x : Int) : Prop := 48 ≤ x ∧ x ≤ 57
instance (x : Int) : Decidable (dg x) := inferInstanceAs (Decidable (48 ≤ x ∧ x ≤ 57))
def stv (s : ByteArray) : Nat → Int
 | 0 => 0
 | n + 1 => 10 * stv s n + (bt s (9 + n) - 48)
def head_head_first.g (k : Nat) (s : ByteArray) (o : Bool) : Option (Int × Int × Bool) :=
 if 13 ≤ s.size then (if bt s 12 = 32 then (head_MayText.f k (s.extract 13 s.size)).bind fun m => (if m = true then (if dg (bt s 9) ∧ dg (bt s 10) ∧ dg (bt s 11) then some (0, stv s 3, o) else some (9, 0, false)) else some (9, 0, false)) else some (9, 0, false)) else some (9, 0, false)
def head_head_first.f (k : Nat) (s : ByteArray) : Option (Int × Int × Bool) :=
 (strings_HasPrefix.f s p10).bind fun o => (if o = true then head_head_first.g k s true else (strings_HasPrefix.f s p11).bind fun n => (if n = true then head_head_first.g k s false else some (9, 0, false)))

theorem stv_bd (s : ByteArray) (n : Nat) (hn : n ≤ 3) (h : ∀ j, j < n → dg (bt s (9 + j))) : 0 ≤ stv s n ∧ stv s n ≤ 999 := by
 have e : ∀ j, j < n → 0 ≤ bt s (9 + j) - 48 ∧ bt s (9 + j) - 48 ≤ 9 := fun j hj => by have := h j hj; unfold dg at this; omega
 match n, hn, e with
 | 0, _, _ => simp [stv]
 | 1, _, e => have := e 0 (by omega); simp only [stv] at *; omega
 | 2, _, e => have := e 0 (by omega); have := e 1 (by omega); simp only [stv] at *; omega
 | 3, _, e => have := e 0 (by omega); have := e 1 (by omega); have := e 2 (by omega); simp only [stv] at *; omega

theorem stv_step (s : ByteArray) (n : Nat) (x : Int) (hn : n < 3) (hx : x = 9 + (n : Int)) (hd : ∀ j, j < n → dg (bt s (9 + j))) (h : dg (bt s x)) : stv s (n + 1) = 10 * stv s n + (bt s x - 48) ∧ 0 ≤ stv s n ∧ stv s n ≤ 999 ∧ 0 ≤ bt s x - 48 ∧ bt s x - 48 ≤ 9 := by
 have := stv_bd s n (by omega) hd
 subst hx
 unfold dg at h
 refine ⟨rfl, this.1, this.2, by omega, by omega⟩

theorem wrap64_in (n : Int) (h : -9223372036854775808 ≤ n ∧ n ≤ 9223372036854775807) : wrap64 n = n := by unfold wrap64; omega
theorem stv_val {s : ByteArray} {n : Nat} {x : Int} (h : stv s (n + 1) = 10 * stv s n + (bt s x - 48) ∧ 0 ≤ stv s n ∧ stv s n ≤ 999 ∧ 0 ≤ bt s x - 48 ∧ bt s x - 48 ≤ 9) :
  wrap64 (wrap64 (10 * stv s n) + wrap64 ((bt s x - 48) % 256)) = stv s (n + 1) := by
 obtain ⟨h1, h2, h3, h4, h5⟩ := h
 have e : (bt s x - 48) % 256 = bt s x - 48 := by omega
 rw [e, wrap64_in (10 * stv s n) (by omega), wrap64_in (bt s x - 48) (by omega), wrap64_in _ (by omega), h1]

set_option maxHeartbeats 8000000 in
set_option maxRecDepth 100000 in
theorem head_head_first.calls (k : Nat) (g : Nat) (v : Value) (sz : Int) (old0 : Bool) (a1 : ByteArray) (r1 r2 : Int) (r3 : Bool) (w : World) (hI : HBlk w g 0 old0 v sz) (h : head_head_first.f k a1 = some (r1, r2, r3)) :
  Calls Tryz.prog 40 #[.pointer (some ⟨g, 0, none⟩), .string a1] w fun e w' => e = .returned (.int .i64 r1) ∧ ∃ st1 old1, HBlk w' g st1 old1 v sz ∧ KeepBut w w' g none ∧ Below g w w' ∧ (r1 = 0 → st1 = r2 ∧ old1 = r3) := by
 have HI := Aside0.mk hI
 clear hI
 unfold head_head_first.f at h
 replace h := Option.bind_eq_some_iff.mp h
 obtain ⟨o, ho, h⟩ := h
 have HO := Aside0.mk ho
 clear ho
 cases o with
 | false =>
  rw [if_neg (by decide)] at h
  replace h := Option.bind_eq_some_iff.mp h; obtain ⟨n, hn, h⟩ := h
  have HN := Aside0.mk hn
  clear hn
  cases n with
  | false =>
   rw [if_neg (by decide)] at h
   simp only [Option.some.injEq, Prod.mk.injEq] at h
   obtain ⟨rfl, rfl, rfl⟩ := h
   go_enter Tryz.func40, Tryz.ntmps40
   go_wp2_with (first | ((with_reducible refine gate_callee (f := 55) rfl ?_); refine goesL_ (some 8) rfl rfl Tryz.func55 (by kernel_rfl) rfl #[.string a1, .string p10] rfl (by (try simp only [List.map_toArray, List.map_cons, List.map_nil]); first | done | rfl) ?_; (with_reducible refine (strings_HasPrefix.calls a1 p10 false _ HO.out).mono ?_); rintro e w' ⟨rfl, ⟨nd, rfl⟩⟩; refine ⟨_, rfl, ?_⟩) | (go_at_call 55; (with_reducible refine (strings_HasPrefix.calls a1 p11 false _ HN.out).mono ?_); rintro e w' ⟨rfl, ⟨nd2, rfl⟩⟩))
   go_ret
   exact ⟨rfl, 0, old0, HI.out, by repeat (first | (with_reducible first | exact KeepBut.refl _ _ _ | apply KeepBut.set_ | apply keep_drewN | apply keep_drew) | exact KeepBut.refl _ _ _), by repeat (first | exact Below.refl _ _ | apply pw_below_drewN), fun hx => absurd hx (by decide)⟩
  | true =>
   rw [if_pos rfl] at h
   unfold head_head_first.g at h
   by_cases h13 : 13 ≤ a1.size
   ·rw [if_pos h13] at h
    have d13 : decide ((a1.size : Int) < 13) = false := decide_eq_false (by omega)
    have d13b : (a1.size < 13) = False := eq_false (by omega)
    have d12 : (12 < (a1.size : Int)) = True := eq_true (by omega)
    have d12b : (12 < a1.size) = True := eq_true (by omega)
    have d13c : ((13 : Int) ≤ (a1.size : Int)) = True := eq_true (by omega)
    have d13d : (13 ≤ a1.size) = True := eq_true h13
    have hx12 : ∀ h : 12 < a1.size, ((a1[12]'h).toNat : Int) = bt a1 12 := bt_at a1 12
    have H13 := Aside0.mk h13
    clear h13
    by_cases h12 : bt a1 12 = 32
    ·rw [if_pos h12] at h
     have c12 : (bt a1 12 != 32) = false := bne_eq_false_iff_eq.mpr h12
     have c12b : (bt a1 12 == 32) = true := beq_iff_eq.mpr h12
     clear h12
     replace h := Option.bind_eq_some_iff.mp h; obtain ⟨m, hm, h⟩ := h
     have HM := Aside0.mk hm
     clear hm
     cases m with
     | false =>
      rw [if_neg (by decide)] at h
      simp only [Option.some.injEq, Prod.mk.injEq] at h
      obtain ⟨rfl, rfl, rfl⟩ := h
      go_enter Tryz.func40, Tryz.ntmps40
      go_wp2_with (first | ((with_reducible refine gate_callee (f := 55) rfl ?_); refine goesL_ (some 8) rfl rfl Tryz.func55 (by kernel_rfl) rfl #[.string a1, .string p10] rfl (by (try simp only [List.map_toArray, List.map_cons, List.map_nil]); first | done | rfl) ?_; (with_reducible refine (strings_HasPrefix.calls a1 p10 false _ HO.out).mono ?_); rintro e w' ⟨rfl, ⟨nd, rfl⟩⟩; refine ⟨_, rfl, ?_⟩) | (go_at_call 55; (with_reducible refine (strings_HasPrefix.calls a1 p11 true _ HN.out).mono ?_); rintro e w' ⟨rfl, ⟨nd2, rfl⟩⟩) | (go_at_call 56; (with_reducible refine (head_MayText.calls k (a1.extract 13 a1.size) false _ HM.out).mono ?_); rintro e w' ⟨rfl, ⟨nd3, rfl⟩⟩))
      go_ret
      exact ⟨rfl, 0, old0, HI.out, by repeat (first | (with_reducible first | exact KeepBut.refl _ _ _ | apply KeepBut.set_ | apply keep_drewN | apply keep_drew) | exact KeepBut.refl _ _ _), by repeat (first | exact Below.refl _ _ | apply pw_below_drewN), fun hx => absurd hx (by decide)⟩
     | true =>
      rw [if_pos rfl] at h
      have Hh := Aside0.mk h
      clear h
      go_enter Tryz.func40, Tryz.ntmps40
      go_wp2_with (first | ((with_reducible refine gate_callee (f := 55) rfl ?_); refine goesL_ (some 8) rfl rfl Tryz.func55 (by kernel_rfl) rfl #[.string a1, .string p10] rfl (by (try simp only [List.map_toArray, List.map_cons, List.map_nil]); first | done | rfl) ?_; (with_reducible refine (strings_HasPrefix.calls a1 p10 false _ HO.out).mono ?_); rintro e w' ⟨rfl, ⟨nd, rfl⟩⟩; refine ⟨_, rfl, ?_⟩) | (go_at_call 55; (with_reducible refine (strings_HasPrefix.calls a1 p11 true _ HN.out).mono ?_); rintro e w' ⟨rfl, ⟨nd2, rfl⟩⟩) | (go_at_call 56; (with_reducible refine (head_MayText.calls k (a1.extract 13 a1.size) true _ HM.out).mono ?_); rintro e w' ⟨rfl, ⟨nd3, rfl⟩⟩))
      go_loopg [6] 3 (fun kq v6 w' => ∃ (n : Nat) (x : Int), v6 = .int .i64 x ∧ Aside0 (x = 9 + (n : Int)) ∧ Aside0 (kq + n = 3) ∧ Aside0 (∀ j, j < n → dg (bt a1 (9 + j))) ∧ Aside0 (HBlk w' g (stv a1 n) old0 v sz) ∧ Aside0 (KeepBut w w' g none) ∧ Aside0 (Below g w w'))
      case atStart => exact ⟨0, 9, rfl, ⟨rfl⟩, ⟨rfl⟩, ⟨fun j hj => absurd hj (by omega)⟩, HI, ⟨by repeat (first | (with_reducible first | exact KeepBut.refl _ _ _ | apply KeepBut.set_ | apply keep_drewN | apply keep_drew) | exact KeepBut.refl _ _ _)⟩, ⟨by repeat (first | exact Below.refl _ _ | apply pw_below_drewN)⟩⟩
      case round =>
       obtain ⟨n, x, rfl, HXN, HK1, HD, HI, HK, HB⟩ := hrel
       by_cases hn : n < 3
       ·have e12 : decide (x < 12) = true := decide_eq_true (by have := HXN.out; omega)
        have f0 : (0 ≤ x) = True := eq_true (by have := HXN.out; omega)
        have f1 : (x < (a1.size : Int)) = True := eq_true (by have := HXN.out; have := H13.out; omega)
        have hxn := bt_at a1 x
        have hc0 := HI.out.c0
        have hf0 := HI.out.fz 0
        have HNN := Aside0.mk hn
        clear hn
        by_cases h48 : bt a1 x < 48
        ·have d48 : decide (bt a1 x < 48) = true := decide_eq_true h48
         have hall : ¬ (dg (bt a1 9) ∧ dg (bt a1 10) ∧ dg (bt a1 11)) := by
          rintro ⟨x0, x1, x2⟩
          have : n = 0 ∨ n = 1 ∨ n = 2 := by have := HNN.out; omega
          rcases this with rfl | rfl | rfl
          ·have y : dg (bt a1 x) := by rw [HXN.out]; exact x0
           unfold dg at y
           omega
          ·have y : dg (bt a1 x) := by rw [HXN.out]; exact x1
           unfold dg at y
           omega
          ·have y : dg (bt a1 x) := by rw [HXN.out]; exact x2
           unfold dg at y
           omega
         have hh := Hh.out
         rw [if_neg hall] at hh
         simp only [Option.some.injEq, Prod.mk.injEq] at hh
         obtain ⟨rfl, rfl, rfl⟩ := hh
         clear h48
         go_wp2
         go_ret
         exact ⟨rfl, stv a1 n, old0, HI.out, HK.out, HB.out, fun hx => absurd hx (by decide)⟩
        ·have d48 : decide (bt a1 x < 48) = false := decide_eq_false h48
         by_cases h57 : bt a1 x > 57
         ·have d57 : decide (bt a1 x > 57) = true := decide_eq_true h57
          have hall : ¬ (dg (bt a1 9) ∧ dg (bt a1 10) ∧ dg (bt a1 11)) := by
           rintro ⟨x0, x1, x2⟩
           have : n = 0 ∨ n = 1 ∨ n = 2 := by have := HNN.out; omega
           rcases this with rfl | rfl | rfl
           ·have y : dg (bt a1 x) := by rw [HXN.out]; exact x0
            unfold dg at y
            omega
           ·have y : dg (bt a1 x) := by rw [HXN.out]; exact x1
            unfold dg at y
            omega
           ·have y : dg (bt a1 x) := by rw [HXN.out]; exact x2
            unfold dg at y
            omega
          have hh := Hh.out
          rw [if_neg hall] at hh
          simp only [Option.some.injEq, Prod.mk.injEq] at hh
          obtain ⟨rfl, rfl, rfl⟩ := hh
          clear h48 h57
          go_wp2
          go_ret
          exact ⟨rfl, stv a1 n, old0, HI.out, HK.out, HB.out, fun hx => absurd hx (by decide)⟩
         ·have d57 : decide (bt a1 x > 57) = false := decide_eq_false h57
          have HX := Aside0.mk (show dg (bt a1 x) from ⟨by omega, by omega⟩)
          clear h48 h57
          have HV := Aside0.mk (stv_step a1 n x HNN.out HXN.out HD.out HX.out)
          go_wp2
          go_still_tail 14, (by kernel_rfl)
          change wpList _ _ _ _ _ wr.drew
          have hc0d : wr.drew.cell? ⟨g, 0, none⟩ = some (.int .i64 (stv a1 n)) := hc0
          have hf0d : wr.drew.frozen? ⟨g, 0, none⟩ = false := hf0
          have HId := Aside0.mk (show HBlk wr.drew g (stv a1 n) old0 v sz from HI.out)
          have HKd := Aside0.mk (keep_drew HK.out)
          have HBd := Aside0.mk (below_drew1 HB.out)
          clear HI HK HB hc0 hf0
          generalize wr.drew = w2 at hc0d hf0d HId HKd HBd ⊢
          go_wp2
          rw [stv_val HV.out]
          go_roundg (gk - 1)
          case measure => have := HK1.out; have := HNN.out; omega
          case rel => exact ⟨n + 1, x + 1, by rw [wrap64_in (x + 1) (by have := HXN.out; have := HNN.out; omega)], ⟨by have := HXN.out; omega⟩, ⟨by have := HK1.out; have := HNN.out; omega⟩, ⟨fun j hj => by rcases Nat.lt_succ_iff_lt_or_eq.1 hj with h | rfl; exact HD.out j h; rw [← HXN.out]; exact HX.out⟩, ⟨HId.out.s0 _⟩, ⟨HKd.out.set_ _ _⟩, ⟨HBd.out.setCell (Nat.le_refl _) _⟩⟩
       ·have e12 : decide (x < 12) = false := decide_eq_false (by have := HXN.out; omega)
        obtain rfl : n = 3 := by have := HK1.out; omega
        have hh := Hh.out
        rw [if_pos ⟨by simpa using HD.out 0 (by omega), by simpa using HD.out 1 (by omega), by simpa using HD.out 2 (by omega)⟩] at hh
        simp only [Option.some.injEq, Prod.mk.injEq] at hh
        obtain ⟨rfl, rfl, rfl⟩ := hh
        have hc1 := HI.out.c1
        have hf1 := HI.out.fz 1
        go_wp2
        go_ret
        exact ⟨rfl, stv a1 3, HI.out.s1 _, HK.out.set_ _ _, HB.out.setCell (Nat.le_refl _) _, rfl⟩
    ·rw [if_neg h12] at h
     have c12 : (bt a1 12 != 32) = true := bne_iff_ne.mpr h12
     have c12b : (bt a1 12 == 32) = false := beq_eq_false_iff_ne.mpr h12
     clear h12
     simp only [Option.some.injEq, Prod.mk.injEq] at h
     obtain ⟨rfl, rfl, rfl⟩ := h
     go_enter Tryz.func40, Tryz.ntmps40
     go_wp2_with (first | ((with_reducible refine gate_callee (f := 55) rfl ?_); refine goesL_ (some 8) rfl rfl Tryz.func55 (by kernel_rfl) rfl #[.string a1, .string p10] rfl (by (try simp only [List.map_toArray, List.map_cons, List.map_nil]); first | done | rfl) ?_; (with_reducible refine (strings_HasPrefix.calls a1 p10 false _ HO.out).mono ?_); rintro e w' ⟨rfl, ⟨nd, rfl⟩⟩; refine ⟨_, rfl, ?_⟩) | (go_at_call 55; (with_reducible refine (strings_HasPrefix.calls a1 p11 true _ HN.out).mono ?_); rintro e w' ⟨rfl, ⟨nd2, rfl⟩⟩))
     go_ret
     exact ⟨rfl, 0, old0, HI.out, by repeat (first | (with_reducible first | exact KeepBut.refl _ _ _ | apply KeepBut.set_ | apply keep_drewN | apply keep_drew) | exact KeepBut.refl _ _ _), by repeat (first | exact Below.refl _ _ | apply pw_below_drewN), fun hx => absurd hx (by decide)⟩
   ·rw [if_neg h13] at h
    have d13 : decide ((a1.size : Int) < 13) = true := decide_eq_true (by omega)
    have d13b : (a1.size < 13) = True := eq_true (by omega)
    clear h13
    simp only [Option.some.injEq, Prod.mk.injEq] at h
    obtain ⟨rfl, rfl, rfl⟩ := h
    go_enter Tryz.func40, Tryz.ntmps40
    go_wp2_with (first | ((with_reducible refine gate_callee (f := 55) rfl ?_); refine goesL_ (some 8) rfl rfl Tryz.func55 (by kernel_rfl) rfl #[.string a1, .string p10] rfl (by (try simp only [List.map_toArray, List.map_cons, List.map_nil]); first | done | rfl) ?_; (with_reducible refine (strings_HasPrefix.calls a1 p10 false _ HO.out).mono ?_); rintro e w' ⟨rfl, ⟨nd, rfl⟩⟩; refine ⟨_, rfl, ?_⟩) | (go_at_call 55; (with_reducible refine (strings_HasPrefix.calls a1 p11 true _ HN.out).mono ?_); rintro e w' ⟨rfl, ⟨nd2, rfl⟩⟩))
    go_ret
    exact ⟨rfl, 0, old0, HI.out, by repeat (first | (with_reducible first | exact KeepBut.refl _ _ _ | apply KeepBut.set_ | apply keep_drewN | apply keep_drew) | exact KeepBut.refl _ _ _), by repeat (first | exact Below.refl _ _ | apply pw_below_drewN), fun hx => absurd hx (by decide)⟩
 | true =>
  rw [if_pos rfl] at h
  unfold head_head_first.g at h
  by_cases h13 : 13 ≤ a1.size
  ·rw [if_pos h13] at h
   have d13 : decide ((a1.size : Int) < 13) = false := decide_eq_false (by omega)
   have d13b : (a1.size < 13) = False := eq_false (by omega)
   have d12 : (12 < (a1.size : Int)) = True := eq_true (by omega)
   have d12b : (12 < a1.size) = True := eq_true (by omega)
   have d13c : ((13 : Int) ≤ (a1.size : Int)) = True := eq_true (by omega)
   have d13d : (13 ≤ a1.size) = True := eq_true h13
   have hx12 : ∀ h : 12 < a1.size, ((a1[12]'h).toNat : Int) = bt a1 12 := bt_at a1 12
   have H13 := Aside0.mk h13
   clear h13
   by_cases h12 : bt a1 12 = 32
   ·rw [if_pos h12] at h
    have c12 : (bt a1 12 != 32) = false := bne_eq_false_iff_eq.mpr h12
    have c12b : (bt a1 12 == 32) = true := beq_iff_eq.mpr h12
    clear h12
    replace h := Option.bind_eq_some_iff.mp h; obtain ⟨m, hm, h⟩ := h
    have HM := Aside0.mk hm
    clear hm
    cases m with
    | false =>
     rw [if_neg (by decide)] at h
     simp only [Option.some.injEq, Prod.mk.injEq] at h
     obtain ⟨rfl, rfl, rfl⟩ := h
     go_enter Tryz.func40, Tryz.ntmps40
     go_wp2_with (first | ((with_reducible refine gate_callee (f := 55) rfl ?_); refine goesL_ (some 8) rfl rfl Tryz.func55 (by kernel_rfl) rfl #[.string a1, .string p10] rfl (by (try simp only [List.map_toArray, List.map_cons, List.map_nil]); first | done | rfl) ?_; (with_reducible refine (strings_HasPrefix.calls a1 p10 true _ HO.out).mono ?_); rintro e w' ⟨rfl, ⟨nd, rfl⟩⟩; refine ⟨_, rfl, ?_⟩) | (go_at_call 56; (with_reducible refine (head_MayText.calls k (a1.extract 13 a1.size) false _ HM.out).mono ?_); rintro e w' ⟨rfl, ⟨nd3, rfl⟩⟩))
     go_ret
     exact ⟨rfl, 0, old0, HI.out, by repeat (first | (with_reducible first | exact KeepBut.refl _ _ _ | apply KeepBut.set_ | apply keep_drewN | apply keep_drew) | exact KeepBut.refl _ _ _), by repeat (first | exact Below.refl _ _ | apply pw_below_drewN), fun hx => absurd hx (by decide)⟩
    | true =>
     rw [if_pos rfl] at h
     have Hh := Aside0.mk h
     clear h
     go_enter Tryz.func40, Tryz.ntmps40
     go_wp2_with (first | ((with_reducible refine gate_callee (f := 55) rfl ?_); refine goesL_ (some 8) rfl rfl Tryz.func55 (by kernel_rfl) rfl #[.string a1, .string p10] rfl (by (try simp only [List.map_toArray, List.map_cons, List.map_nil]); first | done | rfl) ?_; (with_reducible refine (strings_HasPrefix.calls a1 p10 true _ HO.out).mono ?_); rintro e w' ⟨rfl, ⟨nd, rfl⟩⟩; refine ⟨_, rfl, ?_⟩) | (go_at_call 56; (with_reducible refine (head_MayText.calls k (a1.extract 13 a1.size) true _ HM.out).mono ?_); rintro e w' ⟨rfl, ⟨nd3, rfl⟩⟩))
     go_loopg [6] 3 (fun kq v6 w' => ∃ (n : Nat) (x : Int), v6 = .int .i64 x ∧ Aside0 (x = 9 + (n : Int)) ∧ Aside0 (kq + n = 3) ∧ Aside0 (∀ j, j < n → dg (bt a1 (9 + j))) ∧ Aside0 (HBlk w' g (stv a1 n) old0 v sz) ∧ Aside0 (KeepBut w w' g none) ∧ Aside0 (Below g w w'))
     case atStart => exact ⟨0, 9, rfl, ⟨rfl⟩, ⟨rfl⟩, ⟨fun j hj => absurd hj (by omega)⟩, HI, ⟨by repeat (first | (with_reducible first | exact KeepBut.refl _ _ _ | apply KeepBut.set_ | apply keep_drewN | apply keep_drew) | exact KeepBut.refl _ _ _)⟩, ⟨by repeat (first | exact Below.refl _ _ | apply pw_below_drewN)⟩⟩
     case round =>
      obtain ⟨n, x, rfl, HXN, HK1, HD, HI, HK, HB⟩ := hrel
      by_cases hn : n < 3
      ·have e12 : decide (x < 12) = true := decide_eq_true (by have := HXN.out; omega)
       have f0 : (0 ≤ x) = True := eq_true (by have := HXN.out; omega)
       have f1 : (x < (a1.size : Int)) = True := eq_true (by have := HXN.out; have := H13.out; omega)
       have hxn := bt_at a1 x
       have hc0 := HI.out.c0
       have hf0 := HI.out.fz 0
       have HNN := Aside0.mk hn
       clear hn
       by_cases h48 : bt a1 x < 48
       ·have d48 : decide (bt a1 x < 48) = true := decide_eq_true h48
        have hall : ¬ (dg (bt a1 9) ∧ dg (bt a1 10) ∧ dg (bt a1 11)) := by
         rintro ⟨x0, x1, x2⟩
         have : n = 0 ∨ n = 1 ∨ n = 2 := by have := HNN.out; omega
         rcases this with rfl | rfl | rfl
         ·have y : dg (bt a1 x) := by rw [HXN.out]; exact x0
          unfold dg at y
          omega
         ·have y : dg (bt a1 x) := by rw [HXN.out]; exact x1
          unfold dg at y
          omega
         ·have y : dg (bt a1 x) := by rw [HXN.out]; exact x2
          unfold dg at y
          omega
        have hh := Hh.out
        rw [if_neg hall] at hh
        simp only [Option.some.injEq, Prod.mk.injEq] at hh
        obtain ⟨rfl, rfl, rfl⟩ := hh
        clear h48
        go_wp2
        go_ret
        exact ⟨rfl, stv a1 n, old0, HI.out, HK.out, HB.out, fun hx => absurd hx (by decide)⟩
       ·have d48 : decide (bt a1 x < 48) = false := decide_eq_false h48
        by_cases h57 : bt a1 x > 57
        ·have d57 : decide (bt a1 x > 57) = true := decide_eq_true h57
         have hall : ¬ (dg (bt a1 9) ∧ dg (bt a1 10) ∧ dg (bt a1 11)) := by
          rintro ⟨x0, x1, x2⟩
          have : n = 0 ∨ n = 1 ∨ n = 2 := by have := HNN.out; omega
          rcases this with rfl | rfl | rfl
          ·have y : dg (bt a1 x) := by rw [HXN.out]; exact x0
           unfold dg at y
           omega
          ·have y : dg (bt a1 x) := by rw [HXN.out]; exact x1
           unfold dg at y
           omega
          ·have y : dg (bt a1 x) := by rw [HXN.out]; exact x2
           unfold dg at y
           omega
         have hh := Hh.out
         rw [if_neg hall] at hh
         simp only [Option.some.injEq, Prod.mk.injEq] at hh
         obtain ⟨rfl, rfl, rfl⟩ := hh
         clear h48 h57
         go_wp2
         go_ret
         exact ⟨rfl, stv a1 n, old0, HI.out, HK.out, HB.out, fun hx => absurd hx (by decide)⟩
        ·have d57 : decide (bt a1 x > 57) = false := decide_eq_false h57
         have HX := Aside0.mk (show dg (bt a1 x) from ⟨by omega, by omega⟩)
         clear h48 h57
         have HV := Aside0.mk (stv_step a1 n x HNN.out HXN.out HD.out HX.out)
         go_wp2
         go_still_tail 14, (by kernel_rfl)
         change wpList _ _ _ _ _ wr.drew
         have hc0d : wr.drew.cell? ⟨g, 0, none⟩ = some (.int .i64 (stv a1 n)) := hc0
         have hf0d : wr.drew.frozen? ⟨g, 0, none⟩ = false := hf0
         have HId := Aside0.mk (show HBlk wr.drew g (stv a1 n) old0 v sz from HI.out)
         have HKd := Aside0.mk (keep_drew HK.out)
         have HBd := Aside0.mk (below_drew1 HB.out)
         clear HI HK HB hc0 hf0
         generalize wr.drew = w2 at hc0d hf0d HId HKd HBd ⊢
         go_wp2
         rw [stv_val HV.out]
         go_roundg (gk - 1)
         case measure => have := HK1.out; have := HNN.out; omega
         case rel => exact ⟨n + 1, x + 1, by rw [wrap64_in (x + 1) (by have := HXN.out; have := HNN.out; omega)], ⟨by have := HXN.out; omega⟩, ⟨by have := HK1.out; have := HNN.out; omega⟩, ⟨fun j hj => by rcases Nat.lt_succ_iff_lt_or_eq.1 hj with h | rfl; exact HD.out j h; rw [← HXN.out]; exact HX.out⟩, ⟨HId.out.s0 _⟩, ⟨HKd.out.set_ _ _⟩, ⟨HBd.out.setCell (Nat.le_refl _) _⟩⟩
      ·have e12 : decide (x < 12) = false := decide_eq_false (by have := HXN.out; omega)
       obtain rfl : n = 3 := by have := HK1.out; omega
       have hh := Hh.out
       rw [if_pos ⟨by simpa using HD.out 0 (by omega), by simpa using HD.out 1 (by omega), by simpa using HD.out 2 (by omega)⟩] at hh
       simp only [Option.some.injEq, Prod.mk.injEq] at hh
       obtain ⟨rfl, rfl, rfl⟩ := hh
       have hc1 := HI.out.c1
       have hf1 := HI.out.fz 1
       go_wp2
       go_ret
       exact ⟨rfl, stv a1 3, HI.out.s1 _, HK.out.set_ _ _, HB.out.setCell (Nat.le_refl _) _, rfl⟩
   ·rw [if_neg h12] at h
    have c12 : (bt a1 12 != 32) = true := bne_iff_ne.mpr h12
    have c12b : (bt a1 12 == 32) = false := beq_eq_false_iff_ne.mpr h12
    clear h12
    simp only [Option.some.injEq, Prod.mk.injEq] at h
    obtain ⟨rfl, rfl, rfl⟩ := h
    go_enter Tryz.func40, Tryz.ntmps40
    go_wp2_with (first | ((with_reducible refine gate_callee (f := 55) rfl ?_); refine goesL_ (some 8) rfl rfl Tryz.func55 (by kernel_rfl) rfl #[.string a1, .string p10] rfl (by (try simp only [List.map_toArray, List.map_cons, List.map_nil]); first | done | rfl) ?_; (with_reducible refine (strings_HasPrefix.calls a1 p10 true _ HO.out).mono ?_); rintro e w' ⟨rfl, ⟨nd, rfl⟩⟩; refine ⟨_, rfl, ?_⟩))
    go_ret
    exact ⟨rfl, 0, old0, HI.out, by repeat (first | (with_reducible first | exact KeepBut.refl _ _ _ | apply KeepBut.set_ | apply keep_drewN | apply keep_drew) | exact KeepBut.refl _ _ _), by repeat (first | exact Below.refl _ _ | apply pw_below_drewN), fun hx => absurd hx (by decide)⟩
  ·rw [if_neg h13] at h
   have d13 : decide ((a1.size : Int) < 13) = true := decide_eq_true (by omega)
   have d13b : (a1.size < 13) = True := eq_true (by omega)
   clear h13
   simp only [Option.some.injEq, Prod.mk.injEq] at h
   obtain ⟨rfl, rfl, rfl⟩ := h
   go_enter Tryz.func40, Tryz.ntmps40
   go_wp2_with (first | ((with_reducible refine gate_callee (f := 55) rfl ?_); refine goesL_ (some 8) rfl rfl Tryz.func55 (by kernel_rfl) rfl #[.string a1, .string p10] rfl (by (try simp only [List.map_toArray, List.map_cons, List.map_nil]); first | done | rfl) ?_; (with_reducible refine (strings_HasPrefix.calls a1 p10 true _ HO.out).mono ?_); rintro e w' ⟨rfl, ⟨nd, rfl⟩⟩; refine ⟨_, rfl, ?_⟩))
   go_ret
   exact ⟨rfl, 0, old0, HI.out, by repeat (first | (with_reducible first | exact KeepBut.refl _ _ _ | apply KeepBut.set_ | apply keep_drewN | apply keep_drew) | exact KeepBut.refl _ _ _), by repeat (first | exact Below.refl _ _ | apply pw_below_drewN), fun hx => absurd hx (by decide)⟩
-- END first
end Go.Proofs.YtfpcoanlkfgagaaGreatDoor.PA
namespace Go.Proofs.YtfpcoanlkfgagaaGreatDoor.PA
open Go.RowKit Go.Proofs.YtfpcoanlkfgagaaGreatDoorW.PrintWords Go.Proofs.YtfpcoanlkfgagaaGreatDoorW.PrintLast Go.Proofs.YtfpcoanlkfgagaaGreatDoor.Ext Go.Proofs.YtfpcoanlkfgagaaGreatDoorW.PrintMore
attribute [local go_sem] max2_int min2_int max_two min_two
set_option linter.unusedVariables false
set_option linter.unusedSimpArgs false
theorem info86 : (Tryz.prog.info? 86).map (fun i => (i.zero, i.size, i.bytes)) = some (some (.agg #[(.string ⟨#[]⟩), (.string ⟨#[]⟩)]), 2, 32) := by kernel_rfl
abbrev colon : ByteArray := ⟨#[58]⟩
theorem below_lower {B : Nat} {w W W1 : World} (h : Below B w W) (hb : Below W.heap.size W W1) (hB : B ≤ W.heap.size) : Below B w W1 :=
 h.trans ⟨hb.os, hb.tape, hb.output, hb.size, fun i hi => hb.block i (by omega)⟩
theorem HBlk.alloc {w : World} {g : Nat} {st : Int} {old : Bool} {v : Value} {sz : Int} (h : HBlk w g st old v sz) (o : Obj) : HBlk (w.alloc o) g st old v sz := (Below.heap_alloc w o g h.lt).trans h
def head_head_field.f (k : Nat) (n : Nat) (s : ByteArray) : Option (Int × ByteArray × ByteArray) :=
 (strings_Cut.f s colon).bind fun t => (if t.2.2 = true then (head_MayName.f k t.1).bind fun m => (if m = true then (head_MayText.f k t.2.1).bind fun m2 => (if m2 = true then (if n < 64 then (head_small.f t.1).bind fun a => (head_trimmed.f t.2.1).bind fun b => some (0, a, b) else some (10, ⟨#[]⟩, ⟨#[]⟩)) else some (10, ⟨#[]⟩, ⟨#[]⟩)) else some (10, ⟨#[]⟩, ⟨#[]⟩)) else some (10, ⟨#[]⟩, ⟨#[]⟩))
set_option maxHeartbeats 8000000 in
set_option maxRecDepth 100000 in
theorem head_head_field.calls (k : Nat) (B g : Nat) (st : Int) (old : Bool) (v : Value) (sz : Int) (fs : List S86) (a1 : ByteArray) (r1 : Int) (r2 r3 : ByteArray) (w : World) (hI : HBlk w g st old v sz) (hR : Kd.R k86 86 w B (fun k => k ≠ g) v fs) (hBg : B ≤ g) (hG : Glob w) (h : head_head_field.f k fs.length a1 = some (r1, r2, r3)) :
  Calls Tryz.prog 41 #[.pointer (some ⟨g, 0, none⟩), .string a1] w fun e w' => e = .returned (.int .i64 r1) ∧ ∃ v1 fs1, HBlk w' g st old v1 sz ∧ Kd.R k86 86 w' B (fun k => k ≠ g) v1 fs1 ∧ Below B w w' ∧ (r1 = 0 → fs1 = fs ++ [⟨r2, r3⟩]) := by
 have HI := Aside0.mk hI
 have HR := Aside0.mk hR
 have HG := Aside0.mk hG
 clear hI hR hG
 unfold head_head_field.f at h
 replace h := Option.bind_eq_some_iff.mp h
 obtain ⟨⟨nm, vl, is⟩, hc, h⟩ := h
 dsimp only at h
 have HC := Aside0.mk hc
 clear hc
 cases is with
 | false =>
  rw [if_neg (by decide)] at h
  simp only [Option.some.injEq, Prod.mk.injEq] at h
  obtain ⟨rfl, rfl, rfl⟩ := h
  go_enter Tryz.func41, Tryz.ntmps41
  go_wp2_with (first | ((with_reducible refine gate_callee (f := 57) rfl ?_); refine goesL_ (some 10) rfl rfl Tryz.func57 (by kernel_rfl) rfl #[.string a1, .string colon] rfl (by (try simp only [List.map_toArray, List.map_cons, List.map_nil]); first | done | rfl) ?_; (with_reducible refine (strings_Cut.calls a1 colon nm vl false _ HG.out HC.out).mono ?_); rintro e w' ⟨rfl, ⟨nd, rfl⟩⟩; refine ⟨_, rfl, ?_⟩))
  go_ret
  exact ⟨rfl, _, fs, HI.out, HR.out, by repeat (first | exact Below.refl _ _ | apply pw_below_drewN), fun hx => absurd hx (by decide)⟩
 | true =>
  rw [if_pos rfl] at h
  replace h := Option.bind_eq_some_iff.mp h
  obtain ⟨m, hm, h⟩ := h
  have HN := Aside0.mk hm
  clear hm
  cases m with
  | false =>
   rw [if_neg (by decide)] at h
   simp only [Option.some.injEq, Prod.mk.injEq] at h
   obtain ⟨rfl, rfl, rfl⟩ := h
   go_enter Tryz.func41, Tryz.ntmps41
   go_wp2_with (first | ((with_reducible refine gate_callee (f := 57) rfl ?_); refine goesL_ (some 10) rfl rfl Tryz.func57 (by kernel_rfl) rfl #[.string a1, .string colon] rfl (by (try simp only [List.map_toArray, List.map_cons, List.map_nil]); first | done | rfl) ?_; (with_reducible refine (strings_Cut.calls a1 colon nm vl true _ HG.out HC.out).mono ?_); rintro e w' ⟨rfl, ⟨nd, rfl⟩⟩; refine ⟨_, rfl, ?_⟩) | (go_at_call 58; (with_reducible refine (head_MayName.calls k nm false _ HN.out).mono ?_); rintro e w' ⟨rfl, ⟨nd2, rfl⟩⟩))
   go_ret
   exact ⟨rfl, _, fs, HI.out, HR.out, by repeat (first | exact Below.refl _ _ | apply pw_below_drewN), fun hx => absurd hx (by decide)⟩
  | true =>
   rw [if_pos rfl] at h
   replace h := Option.bind_eq_some_iff.mp h
   obtain ⟨m, hm, h⟩ := h
   have HT := Aside0.mk hm
   clear hm
   cases m with
   | false =>
    rw [if_neg (by decide)] at h
    simp only [Option.some.injEq, Prod.mk.injEq] at h
    obtain ⟨rfl, rfl, rfl⟩ := h
    go_enter Tryz.func41, Tryz.ntmps41
    go_wp2_with (first | ((with_reducible refine gate_callee (f := 57) rfl ?_); refine goesL_ (some 10) rfl rfl Tryz.func57 (by kernel_rfl) rfl #[.string a1, .string colon] rfl (by (try simp only [List.map_toArray, List.map_cons, List.map_nil]); first | done | rfl) ?_; (with_reducible refine (strings_Cut.calls a1 colon nm vl true _ HG.out HC.out).mono ?_); rintro e w' ⟨rfl, ⟨nd, rfl⟩⟩; refine ⟨_, rfl, ?_⟩) | (go_at_call 58; (with_reducible refine (head_MayName.calls k nm true _ HN.out).mono ?_); rintro e w' ⟨rfl, ⟨nd2, rfl⟩⟩) | (go_at_call 56; (with_reducible refine (head_MayText.calls k vl false _ HT.out).mono ?_); rintro e w' ⟨rfl, ⟨nd3, rfl⟩⟩))
    go_ret
    exact ⟨rfl, _, fs, HI.out, HR.out, by repeat (first | exact Below.refl _ _ | apply pw_below_drewN), fun hx => absurd hx (by decide)⟩
   | true =>
    rw [if_pos rfl] at h
    obtain ⟨A, c, rfl⟩ := Kd.R_slice HR.out
    have hc2 := HI.out.c2
    by_cases h64 : fs.length < 64
    ·rw [if_pos h64] at h
     have d64 : decide ((fs.length : Int) ≥ 64) = false := decide_eq_false (by omega)
     have d64b : decide (64 ≤ fs.length) = false := decide_eq_false (by omega)
     have d64c : (64 ≤ fs.length) = False := eq_false (by omega)
     replace h := Option.bind_eq_some_iff.mp h
     obtain ⟨s1, hs1, h⟩ := h
     replace h := Option.bind_eq_some_iff.mp h
     obtain ⟨s2, hs2, h⟩ := h
     simp only [Option.some.injEq, Prod.mk.injEq] at h
     obtain ⟨rfl, rfl, rfl⟩ := h
     have HS1 := Aside0.mk hs1
     have HS2 := Aside0.mk hs2
     have H64 := Aside0.mk h64
     clear hs1 hs2 h64
     go_enter Tryz.func41, Tryz.ntmps41
     go_wp2_with (first | ((with_reducible refine gate_callee (f := 57) rfl ?_); refine goesL_ (some 10) rfl rfl Tryz.func57 (by kernel_rfl) rfl #[.string a1, .string colon] rfl (by (try simp only [List.map_toArray, List.map_cons, List.map_nil]); first | done | rfl) ?_; (with_reducible refine (strings_Cut.calls a1 colon nm vl true _ HG.out HC.out).mono ?_); rintro e w' ⟨rfl, ⟨nd, rfl⟩⟩; refine ⟨_, rfl, ?_⟩) | (go_at_call 58; (with_reducible refine (head_MayName.calls k nm true _ HN.out).mono ?_); rintro e w' ⟨rfl, ⟨nd2, rfl⟩⟩) | (go_at_call 56; (with_reducible refine (head_MayText.calls k vl true _ HT.out).mono ?_); rintro e w' ⟨rfl, ⟨nd3, rfl⟩⟩))
     refine start_ (n := 15) (S := fun w' => w'.cell? ⟨g, 2, none⟩ = some (.slice A fs.length c)) (ds := [14]) #[false, false, false, false, false, false, false, false, false, false, false, false, false, false, false] (by kernel_rfl) rfl rfl HI.out.c2 (fun hHeld => ?_)
     have HI2 := Aside0.mk (show HBlk (World.drew (World.drewN w (nd + nd2 + nd3))) g st old (.slice A fs.length c) sz from HI.out)
     have HR2 := Aside0.mk (show Kd.R k86 86 (World.drew (World.drewN w (nd + nd2 + nd3))) B (fun k => k ≠ g) (.slice A fs.length c) fs from Kd.R_drew (Kd.R_drewN HR.out _))
     have HB2 := Aside0.mk (show Below B w (World.drew (World.drewN w (nd + nd2 + nd3))) from below_drew (pw_below_drewN (Below.refl _ _) _))
     clear HI HR hc2
     generalize World.drew (World.drewN w (nd + nd2 + nd3)) = w2 at hHeld HI2 HR2 HB2 ⊢
     refine pure_ (i := 0) (N := some 34) (v := ?_) (a' := ?_) #[true, false, false, false, false, false, false, false, false, false, false, false, false, false, false] rfl rfl (by kernel_rfl) (fun _ _ _ h => h) (Or.inl ⟨by rfl, ?_⟩) ?_ ?_
     rotate_left
     ·intro w'
      go_simp
      with_reducible rfl
     rotate_left
     ·simp only [Act.put, List.setIfInBounds_toArray, List.set_cons_zero, List.set_cons_succ, i64_w, i32_w]
      rfl
     refine pure_ (i := 1) (N := some 35) (v := ?_) (a' := ?_) #[true, true, false, false, false, false, false, false, false, false, false, false, false, false, false] rfl rfl (by kernel_rfl) (fun _ _ _ h => h) (Or.inl ⟨by rfl, ?_⟩) ?_ ?_
     rotate_left
     ·intro w'
      go_simp
      with_reducible rfl
     rotate_left
     ·simp only [Act.put, List.setIfInBounds_toArray, List.set_cons_zero, List.set_cons_succ, i64_w, i32_w]
      rfl
     refine pure_ (i := 2) (N := some 36) (v := ?_) (a' := ?_) #[true, true, true, false, false, false, false, false, false, false, false, false, false, false, false] rfl rfl (by kernel_rfl) (fun _ _ _ h => h) (Or.inl ⟨by rfl, ?_⟩) ?_ ?_
     rotate_left
     ·intro w'
      go_simp
      with_reducible rfl
     rotate_left
     ·simp only [Act.put, List.setIfInBounds_toArray, List.set_cons_zero, List.set_cons_succ, i64_w, i32_w]
      rfl
     refine pure_ (i := 3) (N := some 37) (v := ?_) (a' := ?_) #[true, true, true, true, false, false, false, false, false, false, false, false, false, false, false] rfl rfl (by kernel_rfl) (fun _ _ _ h => h) (Or.inl ⟨by rfl, ?_⟩) ?_ ?_
     rotate_left
     ·intro w'
      go_simp
      with_reducible rfl
     rotate_left
     ·simp only [Act.put, List.setIfInBounds_toArray, List.set_cons_zero, List.set_cons_succ, i64_w, i32_w]
      rfl
     refine pure_ (i := 5) (N := some 39) (v := ?_) (a' := ?_) #[true, true, true, true, false, true, false, false, false, false, false, false, false, false, false] rfl rfl (by kernel_rfl) (fun _ _ _ h => h) (Or.inl ⟨by rfl, ?_⟩) ?_ ?_
     rotate_left
     ·intro w'
      go_simp
      with_reducible rfl
     rotate_left
     ·simp only [Act.put, List.setIfInBounds_toArray, List.set_cons_zero, List.set_cons_succ, i64_w, i32_w]
      rfl
     refine pure_ (i := 7) (N := some 41) (v := ?_) (a' := ?_) #[true, true, true, true, false, true, false, true, false, false, false, false, false, false, false] rfl rfl (by kernel_rfl) (fun _ _ _ h => h) (Or.inl ⟨by rfl, ?_⟩) ?_ ?_
     rotate_left
     ·intro w'
      go_simp
      with_reducible rfl
     rotate_left
     ·simp only [Act.put, List.setIfInBounds_toArray, List.set_cons_zero, List.set_cons_succ, i64_w, i32_w]
      rfl
     refine take_ (i := 4) (N := some 38) (v := ?_) (a' := ?_) #[true, true, true, true, true, true, false, true, false, false, false, false, false, false, false] rfl rfl (by kernel_rfl) (fun _ _ _ h => h) (Or.inl ⟨by rfl, ?_⟩) hHeld ?_ ?_
     rotate_left
     ·intro w' hS'
      have hS2 : w'.cell? ⟨g, 2, none⟩ = some (.slice A fs.length c) := hS'
      go_simp
      with_reducible rfl
     rotate_left
     ·simp only [Act.put, List.setIfInBounds_toArray, List.set_cons_zero, List.set_cons_succ, i64_w, i32_w]
      rfl
     refine one_ (i := 6) (N := some 40) #[true, true, true, true, true, true, true, true, false, false, false, false, false, false, false] rfl rfl (by kernel_rfl) (by decide) (fun K hK => ?_)
     refine goes_ Tryz.func30 (by kernel_rfl) rfl #[.string nm] (by rfl) rfl rfl (by (try simp only [List.map_toArray, List.map_cons, List.map_nil]); first | done | rfl) ?_
     with_reducible refine (head_small.calls nm s1 _ HS1.out).mono ?_
     rintro e w3 ⟨rfl, hb⟩
     refine ⟨_, rfl, ?_⟩
     have HI3 := Aside0.mk (show HBlk w3 g st old (.slice A fs.length c) sz from (hb.block g HI2.out.lt).trans HI2.out)
     have HR3 := Aside0.mk (Kd.R_below HR2.out hb)
     have HB3 := Aside0.mk (below_lower HB2.out hb (Nat.le_trans hBg (Nat.le_of_lt HI2.out.lt)))
     clear HI2 HR2 HB2 hb
     refine hK.out _ _ HI3.out.c2 (fun hHeld => ?_)
     clear hK K
     refine norm_ (a' := ?_) ?_ ?_
     rotate_left
     ·show Act.put _ (some 40) _ = _
      simp only [Act.put, List.setIfInBounds_toArray, List.set_cons_zero, List.set_cons_succ, i64_w, i32_w]
      rfl
     refine one_ (i := 8) (N := some 42) #[true, true, true, true, true, true, true, true, true, false, false, false, false, false, false] rfl rfl (by kernel_rfl) (by decide) (fun K hK => ?_)
     refine goes_ Tryz.func45 (by kernel_rfl) rfl #[.string vl] (by rfl) rfl rfl (by (try simp only [List.map_toArray, List.map_cons, List.map_nil]); first | done | rfl) ?_
     with_reducible refine (head_trimmed.calls vl s2 _ HS2.out).mono ?_
     rintro e w4 ⟨rfl, hb⟩
     refine ⟨_, rfl, ?_⟩
     have HI4 := Aside0.mk (show HBlk w4 g st old (.slice A fs.length c) sz from (hb.block g HI3.out.lt).trans HI3.out)
     have HR4 := Aside0.mk (Kd.R_below HR3.out hb)
     have HB4 := Aside0.mk (below_lower HB3.out hb (Nat.le_trans hBg (Nat.le_of_lt HI3.out.lt)))
     clear HI3 HR3 HB3 hb
     refine hK.out _ _ HI4.out.c2 (fun hHeld => ?_)
     clear hK K
     refine norm_ (a' := ?_) ?_ ?_
     rotate_left
     ·show Act.put _ (some 42) _ = _
      simp only [Act.put, List.setIfInBounds_toArray, List.set_cons_zero, List.set_cons_succ, i64_w, i32_w]
      rfl
     refine pure_ (i := 9) (N := some 43) (v := ?_) (a' := ?_) #[true, true, true, true, true, true, true, true, true, true, false, false, false, false, false] rfl rfl (by kernel_rfl) (fun _ _ _ h => h) (Or.inl ⟨by rfl, ?_⟩) ?_ ?_
     rotate_left
     ·intro w'
      go_simp
      with_reducible rfl
     rotate_left
     ·simp only [Act.put, List.setIfInBounds_toArray, List.set_cons_zero, List.set_cons_succ, i64_w, i32_w]
      rfl
     refine one_ (i := 10) (N := some 44) #[true, true, true, true, true, true, true, true, true, true, true, false, false, false, false] rfl rfl (by kernel_rfl) (by decide) (fun K hK => ?_)
     refine value_ (v := .slice (some ⟨w4.heap.size, 0, none⟩) 1 1) (w1 := w4.alloc (.cells [.string s1, .string s2].toArray 86)) (by rfl) rfl (by first | (go_simp; done) | (go_simp; rfl)) ?_
     refine hK.out _ _ (HI4.out.alloc _).c2 (fun hHeld => ?_)
     clear hK K
     refine norm_ (a' := ?_) ?_ ?_
     rotate_left
     ·show Act.put _ (some 44) _ = _
      simp only [Act.put, List.setIfInBounds_toArray, List.set_cons_zero, List.set_cons_succ, i64_w, i32_w]
      rfl
     refine one_ (i := 11) (N := some 45) #[true, true, true, true, true, true, true, true, true, true, true, true, false, false, false] rfl rfl (by kernel_rfl) (by decide) (fun K hK => ?_)
     refine Kd.R_append_step k86 (w0 := w) B (by rfl) (.tmp 38) (.tmp 44) 59 86 (.agg #[(.string ⟨#[]⟩), (.string ⟨#[]⟩)]) 32 rfl Tryz.underlying59 info86 rfl (by decide) (by omega) (.slice A fs.length c) fs (⟨s1, s2⟩ : S86) [.string s1, .string s2] (fun k => k ≠ g) (fun _ => False) rfl (by first | (go_simp; done) | (go_simp; rfl)) (k86_mkM _ _ _ (⟨s1, s2⟩ : S86)) (fun _ hk => hk.elim) (fun k hk => by have := HI4.out.lt; omega) HR4.out HB4.out (Nat.le_trans hBg (Nat.le_of_lt HI4.out.lt)) (by have := H64.out; omega) ?_
     intro v5 w5 ho hb hg hat
     obtain ⟨A5, c5, rfl⟩ := Kd.R_slice ho
     have HI5 := Aside0.mk (show HBlk w5 g st old (.slice A fs.length c) sz from (hg.block g HI4.out.lt (Kd.R_away HR4.out (fun _ hk => hk))).trans HI4.out)
     have HR5 := Aside0.mk ho
     have HB5 := Aside0.mk hb
     clear HI4 HR4 HB4 hg hat ho hb
     refine hK.out _ _ HI5.out.c2 (fun hHeld => ?_)
     clear hK K
     refine norm_ (a' := ?_) ?_ ?_
     rotate_left
     ·show Act.put _ (some 45) _ = _
      simp only [Act.put, List.setIfInBounds_toArray, List.set_cons_zero, List.set_cons_succ, i64_w, i32_w]
      rfl
     refine pure_ (i := 12) (N := some 46) (v := ?_) (a' := ?_) #[true, true, true, true, true, true, true, true, true, true, true, true, true, false, false] rfl rfl (by kernel_rfl) (fun _ _ _ h => h) (Or.inl ⟨by rfl, ?_⟩) ?_ ?_
     rotate_left
     ·intro w'
      go_simp
      with_reducible rfl
     rotate_left
     ·simp only [Act.put, List.setIfInBounds_toArray, List.set_cons_zero, List.set_cons_succ, i64_w, i32_w]
      rfl
     refine pure_ (i := 13) (N := some 47) (v := ?_) (a' := ?_) #[true, true, true, true, true, true, true, true, true, true, true, true, true, true, false] rfl rfl (by kernel_rfl) (fun _ _ _ h => h) (Or.inl ⟨by rfl, ?_⟩) ?_ ?_
     rotate_left
     ·intro w'
      go_simp
      with_reducible rfl
     rotate_left
     ·simp only [Act.put, List.setIfInBounds_toArray, List.set_cons_zero, List.set_cons_succ, i64_w, i32_w]
      rfl
     refine last_ (i := 14) (N := none) #[true, true, true, true, true, true, true, true, true, true, true, true, true, true, true] rfl rfl (by kernel_rfl) (by decide) (fun K hK => ?_)
     have hc2 := HI5.out.c2
     have hf2 := HI5.out.fz 2
     refine skip_ (w1 := w5.setCell ⟨g, 2, none⟩ (.slice A5 (fs ++ [(⟨s1, s2⟩ : S86)]).length c5)) (by rfl) rfl (by first | (go_simp; done) | (go_simp; rfl)) ?_
     refine hK.out _ _ ?_
     clear hK K
     refine done_ (by kernel_rfl) ?_
     go_wp2
     go_ret
     exact ⟨rfl, _, _, HI5.out.s2 _, Kd.R_far (p := ⟨g, 2, none⟩) HR5.out (fun _ hk => hk) _, HB5.out.setCell hBg _, fun _ => rfl⟩
    ·rw [if_neg h64] at h
     have d64 : decide ((fs.length : Int) ≥ 64) = true := decide_eq_true (by omega)
     have d64b : decide (64 ≤ fs.length) = true := decide_eq_true (by omega)
     have d64c : (64 ≤ fs.length) = True := eq_true (by omega)
     clear h64
     simp only [Option.some.injEq, Prod.mk.injEq] at h
     obtain ⟨rfl, rfl, rfl⟩ := h
     go_enter Tryz.func41, Tryz.ntmps41
     go_wp2_with (first | ((with_reducible refine gate_callee (f := 57) rfl ?_); refine goesL_ (some 10) rfl rfl Tryz.func57 (by kernel_rfl) rfl #[.string a1, .string colon] rfl (by (try simp only [List.map_toArray, List.map_cons, List.map_nil]); first | done | rfl) ?_; (with_reducible refine (strings_Cut.calls a1 colon nm vl true _ HG.out HC.out).mono ?_); rintro e w' ⟨rfl, ⟨nd, rfl⟩⟩; refine ⟨_, rfl, ?_⟩) | (go_at_call 58; (with_reducible refine (head_MayName.calls k nm true _ HN.out).mono ?_); rintro e w' ⟨rfl, ⟨nd2, rfl⟩⟩) | (go_at_call 56; (with_reducible refine (head_MayText.calls k vl true _ HT.out).mono ?_); rintro e w' ⟨rfl, ⟨nd3, rfl⟩⟩))
     go_ret
     exact ⟨rfl, _, fs, HI.out, HR.out, by repeat (first | exact Below.refl _ _ | apply pw_below_drewN), fun hx => absurd hx (by decide)⟩
end Go.Proofs.YtfpcoanlkfgagaaGreatDoor.PA
