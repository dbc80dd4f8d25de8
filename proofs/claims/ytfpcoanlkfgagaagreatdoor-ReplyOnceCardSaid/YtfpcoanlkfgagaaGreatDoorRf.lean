/- head.read: plain function and walk, by hand. -/
import Derived.Test.YtfpcoanlkfgagaaGreatDoorRe
namespace Go.Proofs.YtfpcoanlkfgagaaGreatDoor.PA
open Go.RowKit Go.Proofs.YtfpcoanlkfgagaaGreatDoorW.PrintWords Go.Proofs.YtfpcoanlkfgagaaGreatDoorW.PrintLast Go.Proofs.YtfpcoanlkfgagaaGreatDoor.Ext Go.Proofs.YtfpcoanlkfgagaaGreatDoorW.PrintMore
attribute [local go_sem] max2_int min2_int max_two min_two
set_option linter.unusedVariables false
set_option linter.unusedSimpArgs false

def head_read.l0 : Nat → List Int → Int → Int → Bool → List S86 → Int → Option (Int × Bool × List S86 × Int × Bool × Int)
 | 0, _, _, _, _, _, _ => none
 | k + 1, wi, n, st, old, fs, sz => if 0 ≤ sz ∧ sz ≤ (wi.length : Int) then (bytes_Index.f (wi.drop sz.toNat) [13, 10]).bind fun i => (if i < 0 then some (0, false, [], 0, false, if n ≥ 8192 then 13 else 0) else if sz + i ≤ (wi.length : Int) then (if sz = 0 then (if st = 0 then (head_head_first.f k (strOfNums ((wi.take (sz + i).toNat).drop sz.toNat))).bind fun t => (if t.1 = 0 then head_read.l0 k wi n t.2.1 t.2.2 fs (sz + (i + 2)) else some (0, false, [], 0, false, t.1)) else none) else if (strOfNums ((wi.take (sz + i).toNat).drop sz.toNat)).toList = [] then some (st, old, fs, sz + (i + 2), true, 0) else (head_head_field.f k fs.length (strOfNums ((wi.take (sz + i).toNat).drop sz.toNat))).bind fun t => (if t.1 = 0 then head_read.l0 k wi n st old (fs ++ [⟨t.2.1, t.2.2⟩]) (sz + (i + 2)) else some (0, false, [], 0, false, t.1))) else none) else none
def head_read.f (k : Nat) (l0 : List Int) : Option (Int × Bool × List S86 × Int × Bool × Int) := head_read.l0 k (l0.take (min (l0.length : Int) 8192).toNat) (l0.length : Int) 0 false [] 0

theorem info5 : (Tryz.prog.info? 5).map (fun i => (i.zero, i.size, i.bytes)) = some (some (.int .u8 0), 1, 1) := by kernel_rfl
set_option maxHeartbeats 8000000 in
set_option maxRecDepth 100000 in
theorem head_read.calls (k : Nat) (A0 : Option Addr) (c0 : Nat) (l0 : List Int) (r1 : Int) (r2 : Bool) (r3 : List S86) (r4 : Int) (r5 : Bool) (r6 : Int) (w : World) (hr0 : Kd.C (Kd.int .u8) w A0 l0.length l0) (hc0 : l0.length ≤ c0) (hG : Glob w) (h : head_read.f k l0 = some (r1, r2, r3, r4, r5, r6)) :
  Calls Tryz.prog 27 #[.slice A0 l0.length c0] w fun e w' => ∃ v0_ : Value, e = .returned (.tuple #[.agg #[.int .i64 r1, .bool r2, v0_, .int .i64 r4], .bool r5, .int .i64 r6]) ∧ Kd.R k86 86 w' w.heap.size (fun _ => True) v0_ r3 ∧ Below w.heap.size w w' := by
 have HR0 := Aside0.mk hr0
 have HC0 := Aside0.mk hc0
 have HG := Aside0.mk hG
 obtain ⟨j, hj⟩ : ∃ j : Int, j = min (l0.length : Int) 8192 := ⟨_, rfl⟩
 have hj0 : 0 ≤ j ∧ j ≤ (l0.length : Int) ∧ j ≤ 8192 := by omega
 have HJ := Aside0.mk hj0
 have hm1 : (if (8192 : Int) < (l0.length : Int) then (8192 : Int) else (l0.length : Int)) = j := by split <;> omega
 have HL : head_read.l0 k (l0.take j.toNat) (l0.length : Int) 0 false [] 0 = some (r1, r2, r3, r4, r5, r6) := by rw [hj]; exact h
 have H := Aside0.mk HL
 clear HL hj
 obtain ⟨wi, hwi⟩ : ∃ wi, wi = l0.take j.toNat := ⟨_, rfl⟩
 obtain ⟨i011, hi011, _, hsz11, _⟩ := info_parts info5
 obtain ⟨hcut11, hA11, hC11⟩ := print_take_of (P := Tryz.prog) (Value.int .u8) 0 22 5 .i64 Tryz.underlying22 hi011 hsz11 A0 c0 l0 j hj0.1 hj0.2.1 hc0
 have HWL := Aside0.mk (show wi.length ≤ 8192 from by rw [hwi, List.length_take]; omega)
 rw [← hwi] at hcut11 hA11 hC11 H
 have HR1 := Aside0.mk (Kd.C_of_reads (h1 := fun _ => rfl) (hA11 _ (Kd.reads_of_C hr0)))
 have HC1 := Aside0.mk hC11
 clear hr0 hc0 hG h hA11 hC11 hi011 hsz11 hj0 hwi
 go_enter Tryz.func27, Tryz.ntmps27
 go_wp2
 obtain ⟨n, hn⟩ : ∃ n : Int, n = (l0.length : Int) := ⟨_, rfl⟩
 rw [← hn] at H
 go_loopg [] k (fun kq w' => ∃ (st : Int) (old : Bool) (v : Value) (fs : List S86) (sz : Int), Aside0 (head_read.l0 kq wi n st old fs sz = some (r1, r2, r3, r4, r5, r6)) ∧ Aside0 (HBlk w' w.heap.size st old v sz) ∧ Aside0 (Kd.R k86 86 w' w.heap.size (fun k => k ≠ w.heap.size) v fs) ∧ Aside0 (Below w.heap.size w w'))
 case atStart => exact ⟨0, false, _, [], 0, H, ⟨heap_alloc_new w _⟩, ⟨Kd.R_nil _ _ _ _ _⟩, ⟨below_alloc (Below.refl _ _) _⟩⟩
 case round =>
  clear H
  obtain ⟨st, old, v, fs, sz, HA, HI, HR, HB⟩ := hrel
  cases gk with
  | zero => exact absurd HA.out (by simp [head_read.l0])
  | succ k1 =>
   have H := HA.out
   clear HA
   simp only [head_read.l0] at H
   by_cases c1 : 0 ≤ sz ∧ sz ≤ (wi.length : Int)
   ·rw [if_pos c1] at H
    replace H := Option.bind_eq_some_iff.mp H
    obtain ⟨i, hA, H⟩ := H
    have HA := Aside0.mk hA
    clear hA
    obtain ⟨i011, hi011, _, hsz11, _⟩ := info_parts info5
    obtain ⟨AD, hcutD, hAD, hCD⟩ := print_drop_of (P := Tryz.prog) (Value.int .u8) 0 22 5 .i64 Tryz.underlying22 hi011 hsz11 A0 c0 wi sz c1.1 c1.2 HC1.out
    have HCD := Aside0.mk hCD
    have HRD := Aside0.mk (fun (W : World) (hb : Below w.heap.size w W) => (Kd.C_of_reads (h1 := fun _ => rfl) (hAD W (Kd.reads_of_C (Kd.C_below HR1.out hb))) : Kd.C (Kd.int .u8) W AD (wi.drop sz.toNat).length (wi.drop sz.toNat)))
    have HC := Aside0.mk c1
    clear hCD hAD c1
    have hc3 := HI.out.c3
    by_cases cneg : i < 0
    ·rw [if_pos cneg] at H
     have dneg : decide (i < 0) = true := decide_eq_true cneg
     clear cneg
     by_cases cn : n ≥ 8192
     ·rw [if_pos cn] at H
      simp only [Option.some.injEq, Prod.mk.injEq] at H
      obtain ⟨rfl, rfl, rfl, rfl, rfl, rfl⟩ := H
      have dn : decide ((l0.length : Int) ≥ 8192) = true := decide_eq_true (by omega)
      have dn2 : decide (8192 ≤ l0.length) = true := decide_eq_true (by omega)
      have dn3 : (8192 ≤ l0.length) = True := eq_true (by omega)
      clear cn hn
      go_wp2_with (first | ((with_reducible refine gate_dst (N := 18) rfl ?_); refine lit_marked (xs := ([13, 10] : List Int)) (inner := [.int .u8 13, .int .u8 10]) ?hl1 ?hl2 (N1 := 18) ?hl3 ?hl4 Tryz.underlying22 Tryz.underlying5 [13, 10] rfl rfl ?hl5 ?hl6 ?hl7 ?_; (case hl1 => rfl); (case hl2 => rfl); (case hl3 => rfl); (case hl4 => rfl); (case hl5 => first | (go_simp; done) | (go_simp; rfl)); (case hl6 => exact fun _ => rfl); (case hl7 => simp); intro v1 w5 ho0 hb; obtain ⟨A6, c6, e6⟩ := Kd.V_slice ho0; subst e6; have HV := Aside0.mk (Kd.V_reads' ho0); have HI5 := Aside0.mk (show HBlk w5 w.heap.size st old v sz from (hb.block _ HI.out.lt).trans HI.out); have HR5 := Aside0.mk (Kd.R_below HR.out hb); have HB5 := Aside0.mk (below_step HB.out hb); have hd0 := HI5.out.c0; have hd1 := HI5.out.c1; have hd2 := HI5.out.c2; have hd3 := HI5.out.c3; have hf0 := HI5.out.fz 0; have hf1 := HI5.out.fz 1; have hf2 := HI5.out.fz 2; have hf3 := HI5.out.fz 3; clear hb ho0 HI HR HB) | (go_at_call 39; refine calls_of_args (args' := #[.slice AD (wi.drop sz.toNat).length (c0 - sz.toNat), .slice A6 ([13, 10] : List Int).length c6]) (by first | rfl | (simp only [List.length_drop]; rfl)) ?_; refine (bytes_Index.calls _ _ (wi.drop sz.toNat) _ _ [13, 10] i _ (HRD.out _ HB5.out) HCD.out HV.out.2.2 HV.out.2.1 (Glob.below HG.out HB5.out) HA.out).mono ?_; rintro e w' ⟨rfl, ⟨nd, rfl⟩⟩))
      refine bodyPost_ret (results_ctt rfl _ _ w.heap.size 61 #[.int .i64 0, .bool false, .slice none 0 0, .int .i64 0] (0, 0) _ rfl ((((HBlk.s0 (show HBlk (w5.drewN nd) w.heap.size st old v sz from HI5.out) 0).s1 false).s2 (.slice none 0 0)).s3 0) Tryz.underlying61 rfl (by kernel_rfl)) rfl ?_
      exact ⟨_, rfl, Kd.R_nil _ _ _ _ _, (((((pw_below_drewN HB5.out nd).setCell (Nat.le_refl _) _).setCell (Nat.le_refl _) _).setCell (Nat.le_refl _) _).setCell (Nat.le_refl _) _)⟩
     ·rw [if_neg cn] at H
      simp only [Option.some.injEq, Prod.mk.injEq] at H
      obtain ⟨rfl, rfl, rfl, rfl, rfl, rfl⟩ := H
      have dn : decide ((l0.length : Int) ≥ 8192) = false := decide_eq_false (by omega)
      have dn2 : decide (8192 ≤ l0.length) = false := decide_eq_false (by omega)
      have dn3 : (8192 ≤ l0.length) = False := eq_false (by omega)
      clear cn hn
      go_wp2_with (first | ((with_reducible refine gate_dst (N := 18) rfl ?_); refine lit_marked (xs := ([13, 10] : List Int)) (inner := [.int .u8 13, .int .u8 10]) ?hl1 ?hl2 (N1 := 18) ?hl3 ?hl4 Tryz.underlying22 Tryz.underlying5 [13, 10] rfl rfl ?hl5 ?hl6 ?hl7 ?_; (case hl1 => rfl); (case hl2 => rfl); (case hl3 => rfl); (case hl4 => rfl); (case hl5 => first | (go_simp; done) | (go_simp; rfl)); (case hl6 => exact fun _ => rfl); (case hl7 => simp); intro v1 w5 ho0 hb; obtain ⟨A6, c6, e6⟩ := Kd.V_slice ho0; subst e6; have HV := Aside0.mk (Kd.V_reads' ho0); have HI5 := Aside0.mk (show HBlk w5 w.heap.size st old v sz from (hb.block _ HI.out.lt).trans HI.out); have HR5 := Aside0.mk (Kd.R_below HR.out hb); have HB5 := Aside0.mk (below_step HB.out hb); have hd0 := HI5.out.c0; have hd1 := HI5.out.c1; have hd2 := HI5.out.c2; have hd3 := HI5.out.c3; have hf0 := HI5.out.fz 0; have hf1 := HI5.out.fz 1; have hf2 := HI5.out.fz 2; have hf3 := HI5.out.fz 3; clear hb ho0 HI HR HB) | (go_at_call 39; refine calls_of_args (args' := #[.slice AD (wi.drop sz.toNat).length (c0 - sz.toNat), .slice A6 ([13, 10] : List Int).length c6]) (by first | rfl | (simp only [List.length_drop]; rfl)) ?_; refine (bytes_Index.calls _ _ (wi.drop sz.toNat) _ _ [13, 10] i _ (HRD.out _ HB5.out) HCD.out HV.out.2.2 HV.out.2.1 (Glob.below HG.out HB5.out) HA.out).mono ?_; rintro e w' ⟨rfl, ⟨nd, rfl⟩⟩))
      refine bodyPost_ret (results_ctt rfl _ _ w.heap.size 61 #[.int .i64 0, .bool false, .slice none 0 0, .int .i64 0] (0, 0) _ rfl ((((HBlk.s0 (show HBlk (w5.drewN nd) w.heap.size st old v sz from HI5.out) 0).s1 false).s2 (.slice none 0 0)).s3 0) Tryz.underlying61 rfl (by kernel_rfl)) rfl ?_
      exact ⟨_, rfl, Kd.R_nil _ _ _ _ _, (((((pw_below_drewN HB5.out nd).setCell (Nat.le_refl _) _).setCell (Nat.le_refl _) _).setCell (Nat.le_refl _) _).setCell (Nat.le_refl _) _)⟩
    ·rw [if_neg cneg] at H
     have dneg : decide (i < 0) = false := decide_eq_false cneg
     by_cases c2 : sz + i ≤ (wi.length : Int)
     ·rw [if_pos c2] at H
      obtain ⟨e, he⟩ : ∃ e, e = sz + i := ⟨_, rfl⟩
      obtain ⟨i2, hi2⟩ : ∃ i2, i2 = i + 2 := ⟨_, rfl⟩
      obtain ⟨s2, hs2⟩ : ∃ s2, s2 = sz + i2 := ⟨_, rfl⟩
      have hwb := HWL.out
      have hsb := HC.out
      have hw1 : wrap64 (sz + i) = e := (wrap64_in _ (by omega)).trans he.symm
      have hw2 : wrap64 (i + 2) = i2 := (wrap64_in _ (by omega)).trans hi2.symm
      have hw3 : wrap64 (sz + i2) = s2 := (wrap64_in _ (by omega)).trans hs2.symm
      have hv1 : IntKind.i64.wrap (sz + i) = e := (i64_w _).trans hw1
      have hv2 : IntKind.i64.wrap (i + 2) = i2 := (i64_w _).trans hw2
      have hv3 : IntKind.i64.wrap (sz + i2) = s2 := (i64_w _).trans hw3
      rw [← he] at c2
      rw [← hi2, ← hs2, ← he] at H
      obtain ⟨AM, hcutM, hAM, hCM⟩ := print_mid_of (P := Tryz.prog) (Value.int .u8) 0 22 5 .i64 .i64 Tryz.underlying22 hi011 hsz11 A0 c0 wi sz e hsb.1 (by omega) c2 HC1.out
      have HRM := Aside0.mk (fun (W : World) (hb : Below w.heap.size w W) => (Kd.C_of_reads (h1 := fun _ => rfl) (hAM W (Kd.reads_of_C (Kd.C_below HR1.out hb))) : Kd.C (Kd.int .u8) W AM ((wi.take e.toNat).drop sz.toNat).length ((wi.take e.toNat).drop sz.toNat)))
      obtain ⟨ln, hln⟩ : ∃ ln, ln = strOfNums ((wi.take e.toNat).drop sz.toNat) := ⟨_, rfl⟩
      rw [← hln] at H
      have HLN := Aside0.mk hln
      clear cneg hAM hCM hln hwb hsb he hi2 hs2 c2
      by_cases c3 : sz = 0
      ·rw [if_pos c3] at H
       have z0 : (sz == 0) = true := beq_iff_eq.mpr c3
       by_cases c4 : st = 0
       ·rw [if_pos c4] at H
        have C4 := Aside0.mk c4
        clear c4
        replace H := Option.bind_eq_some_iff.mp H
        obtain ⟨⟨t1, t2, t3⟩, hF, H⟩ := H
        have HF := Aside0.mk hF
        dsimp only at H
        clear hF c3
        by_cases c5 : t1 = 0
        ·rw [if_pos c5] at H
         have y5 : (t1 != 0) = false := bne_eq_false_iff_eq.mpr c5
         have H' := Aside0.mk H
         have HT1 := Aside0.mk c5
         clear H c5
         go_wp2_with (first | ((with_reducible refine gate_dst (N := 18) rfl ?_); refine lit_marked (xs := ([13, 10] : List Int)) (inner := [.int .u8 13, .int .u8 10]) ?hl1 ?hl2 (N1 := 18) ?hl3 ?hl4 Tryz.underlying22 Tryz.underlying5 [13, 10] rfl rfl ?hl5 ?hl6 ?hl7 ?_; (case hl1 => rfl); (case hl2 => rfl); (case hl3 => rfl); (case hl4 => rfl); (case hl5 => first | (go_simp; done) | (go_simp; rfl)); (case hl6 => exact fun _ => rfl); (case hl7 => simp); intro v1 w5 ho0 hb; obtain ⟨A6, c6, e6⟩ := Kd.V_slice ho0; subst e6; have HV := Aside0.mk (Kd.V_reads' ho0); have HI5 := Aside0.mk (show HBlk w5 w.heap.size st old v sz from (hb.block _ HI.out.lt).trans HI.out); have HR5 := Aside0.mk (Kd.R_below HR.out hb); have HB5 := Aside0.mk (below_step HB.out hb); have hd0 := HI5.out.c0; have hd1 := HI5.out.c1; have hd2 := HI5.out.c2; have hd3 := HI5.out.c3; have hf0 := HI5.out.fz 0; have hf1 := HI5.out.fz 1; have hf2 := HI5.out.fz 2; have hf3 := HI5.out.fz 3; clear hb ho0 HI HR HB) | (go_at_call 39; refine calls_of_args (args' := #[.slice AD (wi.drop sz.toNat).length (c0 - sz.toNat), .slice A6 ([13, 10] : List Int).length c6]) (by first | rfl | (simp only [List.length_drop]; rfl)) ?_; refine (bytes_Index.calls _ _ (wi.drop sz.toNat) _ _ [13, 10] i _ (HRD.out _ HB5.out) HCD.out HV.out.2.2 HV.out.2.1 (Glob.below HG.out HB5.out) HA.out).mono ?_; rintro e w' ⟨rfl, ⟨nd, rfl⟩⟩; have hcv0 := C_string0 (P := Tryz.prog) (A := AM) (c := c0 - sz.toNat) Tryz.underlying22 Tryz.underlying5 Tryz.underlying9 (HRM.out _ HB5.out); have hcv1 := C_stringN (P := Tryz.prog) (A := AM) (c := c0 - sz.toNat) Tryz.underlying22 Tryz.underlying5 Tryz.underlying9 (HRM.out _ HB5.out); rw [← HLN.out] at hcv0 hcv1) | (go_at_call 40; refine (head_head_first.calls k1 w.heap.size v s2 old ln t1 t2 t3 _ (by have hh := (show HBlk (w5.drewN nd) w.heap.size st old v sz from HI5.out).s3 s2; rw [C4.out] at hh; exact hh) HF.out).mono ?_; rintro e w7 ⟨rfl, st1, old1, hI, hK, hB, hE⟩; have HI7 := Aside0.mk hI; have HR7 := Aside0.mk (Kd.R_keep (Kd.R_far (p := ⟨w.heap.size, 3, none⟩) (Kd.R_drewN HR5.out nd) (fun _ hk => hk) (.int .i64 s2)) hK (fun _ hk => hk)); have HB7 := Aside0.mk (((pw_below_drewN HB5.out nd).setCell (p := ⟨w.heap.size, 3, none⟩) (Nat.le_refl _) (.int .i64 s2)).trans hB); have HE := Aside0.mk hE; have hx0 := hI.c0; have hx1 := hI.c1; have hx2 := hI.c2; have hx3 := hI.c3; have hy0 := hI.fz 0; have hy1 := hI.fz 1; have hy2 := hI.fz 2; have hy3 := hI.fz 3; clear hI hK hB hE HI5 HR5 HB5))
         go_roundg k1
         case measure => omega
         case rel => exact ⟨t2, t3, v, fs, s2, H', ⟨by obtain ⟨e1, e2⟩ := HE.out HT1.out; rw [← e1, ← e2]; exact HI7.out⟩, HR7, HB7⟩
        ·rw [if_neg c5] at H
         have y5 : (t1 != 0) = true := bne_iff_ne.mpr c5
         simp only [Option.some.injEq, Prod.mk.injEq] at H
         obtain ⟨rfl, rfl, rfl, rfl, rfl, rfl⟩ := H
         clear c5
         go_wp2_with (first | ((with_reducible refine gate_dst (N := 18) rfl ?_); refine lit_marked (xs := ([13, 10] : List Int)) (inner := [.int .u8 13, .int .u8 10]) ?hl1 ?hl2 (N1 := 18) ?hl3 ?hl4 Tryz.underlying22 Tryz.underlying5 [13, 10] rfl rfl ?hl5 ?hl6 ?hl7 ?_; (case hl1 => rfl); (case hl2 => rfl); (case hl3 => rfl); (case hl4 => rfl); (case hl5 => first | (go_simp; done) | (go_simp; rfl)); (case hl6 => exact fun _ => rfl); (case hl7 => simp); intro v1 w5 ho0 hb; obtain ⟨A6, c6, e6⟩ := Kd.V_slice ho0; subst e6; have HV := Aside0.mk (Kd.V_reads' ho0); have HI5 := Aside0.mk (show HBlk w5 w.heap.size st old v sz from (hb.block _ HI.out.lt).trans HI.out); have HR5 := Aside0.mk (Kd.R_below HR.out hb); have HB5 := Aside0.mk (below_step HB.out hb); have hd0 := HI5.out.c0; have hd1 := HI5.out.c1; have hd2 := HI5.out.c2; have hd3 := HI5.out.c3; have hf0 := HI5.out.fz 0; have hf1 := HI5.out.fz 1; have hf2 := HI5.out.fz 2; have hf3 := HI5.out.fz 3; clear hb ho0 HI HR HB) | (go_at_call 39; refine calls_of_args (args' := #[.slice AD (wi.drop sz.toNat).length (c0 - sz.toNat), .slice A6 ([13, 10] : List Int).length c6]) (by first | rfl | (simp only [List.length_drop]; rfl)) ?_; refine (bytes_Index.calls _ _ (wi.drop sz.toNat) _ _ [13, 10] i _ (HRD.out _ HB5.out) HCD.out HV.out.2.2 HV.out.2.1 (Glob.below HG.out HB5.out) HA.out).mono ?_; rintro e w' ⟨rfl, ⟨nd, rfl⟩⟩; have hcv0 := C_string0 (P := Tryz.prog) (A := AM) (c := c0 - sz.toNat) Tryz.underlying22 Tryz.underlying5 Tryz.underlying9 (HRM.out _ HB5.out); have hcv1 := C_stringN (P := Tryz.prog) (A := AM) (c := c0 - sz.toNat) Tryz.underlying22 Tryz.underlying5 Tryz.underlying9 (HRM.out _ HB5.out); rw [← HLN.out] at hcv0 hcv1) | (go_at_call 40; refine (head_head_first.calls k1 w.heap.size v s2 old ln t1 t2 t3 _ (by have hh := (show HBlk (w5.drewN nd) w.heap.size st old v sz from HI5.out).s3 s2; rw [C4.out] at hh; exact hh) HF.out).mono ?_; rintro e w7 ⟨rfl, st1, old1, hI, hK, hB, hE⟩; have HI7 := Aside0.mk hI; have HR7 := Aside0.mk (Kd.R_keep (Kd.R_far (p := ⟨w.heap.size, 3, none⟩) (Kd.R_drewN HR5.out nd) (fun _ hk => hk) (.int .i64 s2)) hK (fun _ hk => hk)); have HB7 := Aside0.mk (((pw_below_drewN HB5.out nd).setCell (p := ⟨w.heap.size, 3, none⟩) (Nat.le_refl _) (.int .i64 s2)).trans hB); have HE := Aside0.mk hE; have hx0 := hI.c0; have hx1 := hI.c1; have hx2 := hI.c2; have hx3 := hI.c3; have hy0 := hI.fz 0; have hy1 := hI.fz 1; have hy2 := hI.fz 2; have hy3 := hI.fz 3; clear hI hK hB hE HI5 HR5 HB5))
         refine bodyPost_ret (results_ctt rfl _ _ w.heap.size 61 #[.int .i64 0, .bool false, .slice none 0 0, .int .i64 0] (0, 0) _ rfl ((((HI7.out.s0 0).s1 false).s2 (.slice none 0 0)).s3 0) Tryz.underlying61 rfl (by kernel_rfl)) rfl ?_
         exact ⟨_, rfl, Kd.R_nil _ _ _ _ _, ((((HB7.out.setCell (Nat.le_refl _) _).setCell (Nat.le_refl _) _).setCell (Nat.le_refl _) _).setCell (Nat.le_refl _) _)⟩
       ·rw [if_neg c4] at H
        exact absurd H (by simp)
      ·rw [if_neg c3] at H
       have z0 : (sz == 0) = false := beq_eq_false_iff_ne.mpr c3
       clear c3
       obtain ⟨Av, cv, rfl⟩ := Kd.R_slice HR.out
       by_cases c6 : ln.toList = []
       ·rw [if_pos c6] at H
        have y6 : (ln.toList == []) = true := beq_iff_eq.mpr c6
        have y7 : ln.toList.isEmpty = true := by rw [c6]; rfl
        simp only [Option.some.injEq, Prod.mk.injEq] at H
        obtain ⟨rfl, rfl, rfl, rfl, rfl, rfl⟩ := H
        clear c6
        go_wp2_with (first | ((with_reducible refine gate_dst (N := 18) rfl ?_); refine lit_marked (xs := ([13, 10] : List Int)) (inner := [.int .u8 13, .int .u8 10]) ?hl1 ?hl2 (N1 := 18) ?hl3 ?hl4 Tryz.underlying22 Tryz.underlying5 [13, 10] rfl rfl ?hl5 ?hl6 ?hl7 ?_; (case hl1 => rfl); (case hl2 => rfl); (case hl3 => rfl); (case hl4 => rfl); (case hl5 => first | (go_simp; done) | (go_simp; rfl)); (case hl6 => exact fun _ => rfl); (case hl7 => simp); intro v1 w5 ho0 hb; obtain ⟨A6, c6, e6⟩ := Kd.V_slice ho0; subst e6; have HV := Aside0.mk (Kd.V_reads' ho0); have HI5 := Aside0.mk (show HBlk w5 w.heap.size st old (.slice Av fs.length cv) sz from (hb.block _ HI.out.lt).trans HI.out); have HR5 := Aside0.mk (Kd.R_below HR.out hb); have HB5 := Aside0.mk (below_step HB.out hb); have hd0 := HI5.out.c0; have hd1 := HI5.out.c1; have hd2 := HI5.out.c2; have hd3 := HI5.out.c3; have hf0 := HI5.out.fz 0; have hf1 := HI5.out.fz 1; have hf2 := HI5.out.fz 2; have hf3 := HI5.out.fz 3; clear hb ho0 HI HR HB) | (go_at_call 39; refine calls_of_args (args' := #[.slice AD (wi.drop sz.toNat).length (c0 - sz.toNat), .slice A6 ([13, 10] : List Int).length c6]) (by first | rfl | (simp only [List.length_drop]; rfl)) ?_; refine (bytes_Index.calls _ _ (wi.drop sz.toNat) _ _ [13, 10] i _ (HRD.out _ HB5.out) HCD.out HV.out.2.2 HV.out.2.1 (Glob.below HG.out HB5.out) HA.out).mono ?_; rintro e w' ⟨rfl, ⟨nd, rfl⟩⟩; have hcv0 := C_string0 (P := Tryz.prog) (A := AM) (c := c0 - sz.toNat) Tryz.underlying22 Tryz.underlying5 Tryz.underlying9 (HRM.out _ HB5.out); have hcv1 := C_stringN (P := Tryz.prog) (A := AM) (c := c0 - sz.toNat) Tryz.underlying22 Tryz.underlying5 Tryz.underlying9 (HRM.out _ HB5.out); rw [← HLN.out] at hcv0 hcv1))
        refine bodyPost_ret (results_ctt rfl _ _ w.heap.size 61 #[.int .i64 st, .bool old, .slice Av fs.length cv, .int .i64 s2] (0, 0) _ rfl ((((((show HBlk (w5.drewN nd) w.heap.size st old (.slice Av fs.length cv) sz from HI5.out).s3 s2).s0 st).s1 old).s2 (.slice Av fs.length cv)).s3 s2) Tryz.underlying61 rfl (by kernel_rfl)) rfl ?_
        refine ⟨_, rfl, Kd.R_mono (ok := fun k => k ≠ w.heap.size) (ok' := fun _ => True) ?_ (fun _ _ => trivial), ?_⟩
        ·exact Kd.R_far (p := ⟨w.heap.size, 3, none⟩) (Kd.R_far (p := ⟨w.heap.size, 2, none⟩) (Kd.R_far (p := ⟨w.heap.size, 1, none⟩) (Kd.R_far (p := ⟨w.heap.size, 0, none⟩) (Kd.R_far (p := ⟨w.heap.size, 3, none⟩) (Kd.R_drewN HR5.out nd) (fun _ hk => hk) _) (fun _ hk => hk) _) (fun _ hk => hk) _) (fun _ hk => hk) _) (fun _ hk => hk) _
        ·exact (((((pw_below_drewN HB5.out nd).setCell (Nat.le_refl _) _).setCell (Nat.le_refl _) _).setCell (Nat.le_refl _) _).setCell (Nat.le_refl _) _).setCell (Nat.le_refl _) _
       ·rw [if_neg c6] at H
        have y6 : (ln.toList == []) = false := beq_eq_false_iff_ne.mpr c6
        have y7 : ln.toList.isEmpty = false := by cases hx : ln.toList with | nil => exact absurd hx c6 | cons _ _ => rfl
        replace H := Option.bind_eq_some_iff.mp H
        obtain ⟨⟨t1, t2, t3⟩, hF, H⟩ := H
        have HF := Aside0.mk hF
        dsimp only at H
        clear hF c6
        by_cases c5 : t1 = 0
        ·rw [if_pos c5] at H
         have y5 : (t1 != 0) = false := bne_eq_false_iff_eq.mpr c5
         have H' := Aside0.mk H
         have HT1 := Aside0.mk c5
         clear H c5
         go_wp2_with (first | ((with_reducible refine gate_dst (N := 18) rfl ?_); refine lit_marked (xs := ([13, 10] : List Int)) (inner := [.int .u8 13, .int .u8 10]) ?hl1 ?hl2 (N1 := 18) ?hl3 ?hl4 Tryz.underlying22 Tryz.underlying5 [13, 10] rfl rfl ?hl5 ?hl6 ?hl7 ?_; (case hl1 => rfl); (case hl2 => rfl); (case hl3 => rfl); (case hl4 => rfl); (case hl5 => first | (go_simp; done) | (go_simp; rfl)); (case hl6 => exact fun _ => rfl); (case hl7 => simp); intro v1 w5 ho0 hb; obtain ⟨A6, c6, e6⟩ := Kd.V_slice ho0; subst e6; have HV := Aside0.mk (Kd.V_reads' ho0); have HI5 := Aside0.mk (show HBlk w5 w.heap.size st old (.slice Av fs.length cv) sz from (hb.block _ HI.out.lt).trans HI.out); have HR5 := Aside0.mk (Kd.R_below HR.out hb); have HB5 := Aside0.mk (below_step HB.out hb); have hd0 := HI5.out.c0; have hd1 := HI5.out.c1; have hd2 := HI5.out.c2; have hd3 := HI5.out.c3; have hf0 := HI5.out.fz 0; have hf1 := HI5.out.fz 1; have hf2 := HI5.out.fz 2; have hf3 := HI5.out.fz 3; clear hb ho0 HI HR HB) | (go_at_call 39; refine calls_of_args (args' := #[.slice AD (wi.drop sz.toNat).length (c0 - sz.toNat), .slice A6 ([13, 10] : List Int).length c6]) (by first | rfl | (simp only [List.length_drop]; rfl)) ?_; refine (bytes_Index.calls _ _ (wi.drop sz.toNat) _ _ [13, 10] i _ (HRD.out _ HB5.out) HCD.out HV.out.2.2 HV.out.2.1 (Glob.below HG.out HB5.out) HA.out).mono ?_; rintro e w' ⟨rfl, ⟨nd, rfl⟩⟩; have hcv0 := C_string0 (P := Tryz.prog) (A := AM) (c := c0 - sz.toNat) Tryz.underlying22 Tryz.underlying5 Tryz.underlying9 (HRM.out _ HB5.out); have hcv1 := C_stringN (P := Tryz.prog) (A := AM) (c := c0 - sz.toNat) Tryz.underlying22 Tryz.underlying5 Tryz.underlying9 (HRM.out _ HB5.out); rw [← HLN.out] at hcv0 hcv1) | (go_at_call 41; refine (head_head_field.calls k1 w.heap.size w.heap.size st old (.slice Av fs.length cv) s2 fs ln t1 t2 t3 _ ((show HBlk (w5.drewN nd) w.heap.size st old (.slice Av fs.length cv) sz from HI5.out).s3 s2) (Kd.R_far (p := ⟨w.heap.size, 3, none⟩) (Kd.R_drewN HR5.out nd) (fun _ hk => hk) (.int .i64 s2)) (Nat.le_refl _) (Glob.below HG.out ((pw_below_drewN HB5.out nd).setCell (p := ⟨w.heap.size, 3, none⟩) (Nat.le_refl _) (.int .i64 s2))) HF.out).mono ?_; rintro e w7 ⟨rfl, v7, fs7, hI, hR, hB, hE⟩; have HI7 := Aside0.mk hI; have HR7 := Aside0.mk hR; have HB7 := Aside0.mk (((pw_below_drewN HB5.out nd).setCell (p := ⟨w.heap.size, 3, none⟩) (Nat.le_refl _) (.int .i64 s2)).trans hB); have HE := Aside0.mk hE; have hx0 := hI.c0; have hx1 := hI.c1; have hx2 := hI.c2; have hx3 := hI.c3; have hy0 := hI.fz 0; have hy1 := hI.fz 1; have hy2 := hI.fz 2; have hy3 := hI.fz 3; clear hI hR hB hE HI5 HR5 HB5))
         go_roundg k1
         case measure => omega
         case rel => exact ⟨st, old, v7, fs ++ [⟨t2, t3⟩], s2, H', HI7, ⟨by rw [← HE.out HT1.out]; exact HR7.out⟩, HB7⟩
        ·rw [if_neg c5] at H
         have y5 : (t1 != 0) = true := bne_iff_ne.mpr c5
         simp only [Option.some.injEq, Prod.mk.injEq] at H
         obtain ⟨rfl, rfl, rfl, rfl, rfl, rfl⟩ := H
         clear c5
         go_wp2_with (first | ((with_reducible refine gate_dst (N := 18) rfl ?_); refine lit_marked (xs := ([13, 10] : List Int)) (inner := [.int .u8 13, .int .u8 10]) ?hl1 ?hl2 (N1 := 18) ?hl3 ?hl4 Tryz.underlying22 Tryz.underlying5 [13, 10] rfl rfl ?hl5 ?hl6 ?hl7 ?_; (case hl1 => rfl); (case hl2 => rfl); (case hl3 => rfl); (case hl4 => rfl); (case hl5 => first | (go_simp; done) | (go_simp; rfl)); (case hl6 => exact fun _ => rfl); (case hl7 => simp); intro v1 w5 ho0 hb; obtain ⟨A6, c6, e6⟩ := Kd.V_slice ho0; subst e6; have HV := Aside0.mk (Kd.V_reads' ho0); have HI5 := Aside0.mk (show HBlk w5 w.heap.size st old (.slice Av fs.length cv) sz from (hb.block _ HI.out.lt).trans HI.out); have HR5 := Aside0.mk (Kd.R_below HR.out hb); have HB5 := Aside0.mk (below_step HB.out hb); have hd0 := HI5.out.c0; have hd1 := HI5.out.c1; have hd2 := HI5.out.c2; have hd3 := HI5.out.c3; have hf0 := HI5.out.fz 0; have hf1 := HI5.out.fz 1; have hf2 := HI5.out.fz 2; have hf3 := HI5.out.fz 3; clear hb ho0 HI HR HB) | (go_at_call 39; refine calls_of_args (args' := #[.slice AD (wi.drop sz.toNat).length (c0 - sz.toNat), .slice A6 ([13, 10] : List Int).length c6]) (by first | rfl | (simp only [List.length_drop]; rfl)) ?_; refine (bytes_Index.calls _ _ (wi.drop sz.toNat) _ _ [13, 10] i _ (HRD.out _ HB5.out) HCD.out HV.out.2.2 HV.out.2.1 (Glob.below HG.out HB5.out) HA.out).mono ?_; rintro e w' ⟨rfl, ⟨nd, rfl⟩⟩; have hcv0 := C_string0 (P := Tryz.prog) (A := AM) (c := c0 - sz.toNat) Tryz.underlying22 Tryz.underlying5 Tryz.underlying9 (HRM.out _ HB5.out); have hcv1 := C_stringN (P := Tryz.prog) (A := AM) (c := c0 - sz.toNat) Tryz.underlying22 Tryz.underlying5 Tryz.underlying9 (HRM.out _ HB5.out); rw [← HLN.out] at hcv0 hcv1) | (go_at_call 41; refine (head_head_field.calls k1 w.heap.size w.heap.size st old (.slice Av fs.length cv) s2 fs ln t1 t2 t3 _ ((show HBlk (w5.drewN nd) w.heap.size st old (.slice Av fs.length cv) sz from HI5.out).s3 s2) (Kd.R_far (p := ⟨w.heap.size, 3, none⟩) (Kd.R_drewN HR5.out nd) (fun _ hk => hk) (.int .i64 s2)) (Nat.le_refl _) (Glob.below HG.out ((pw_below_drewN HB5.out nd).setCell (p := ⟨w.heap.size, 3, none⟩) (Nat.le_refl _) (.int .i64 s2))) HF.out).mono ?_; rintro e w7 ⟨rfl, v7, fs7, hI, hR, hB, hE⟩; have HI7 := Aside0.mk hI; have HR7 := Aside0.mk hR; have HB7 := Aside0.mk (((pw_below_drewN HB5.out nd).setCell (p := ⟨w.heap.size, 3, none⟩) (Nat.le_refl _) (.int .i64 s2)).trans hB); have HE := Aside0.mk hE; have hx0 := hI.c0; have hx1 := hI.c1; have hx2 := hI.c2; have hx3 := hI.c3; have hy0 := hI.fz 0; have hy1 := hI.fz 1; have hy2 := hI.fz 2; have hy3 := hI.fz 3; clear hI hR hB hE HI5 HR5 HB5))
         refine bodyPost_ret (results_ctt rfl _ _ w.heap.size 61 #[.int .i64 0, .bool false, .slice none 0 0, .int .i64 0] (0, 0) _ rfl ((((HI7.out.s0 0).s1 false).s2 (.slice none 0 0)).s3 0) Tryz.underlying61 rfl (by kernel_rfl)) rfl ?_
         exact ⟨_, rfl, Kd.R_nil _ _ _ _ _, ((((HB7.out.setCell (Nat.le_refl _) _).setCell (Nat.le_refl _) _).setCell (Nat.le_refl _) _).setCell (Nat.le_refl _) _)⟩
     ·rw [if_neg c2] at H
      exact absurd H (by simp)
   ·rw [if_neg c1] at H
    exact absurd H (by simp)
end Go.Proofs.YtfpcoanlkfgagaaGreatDoor.PA
