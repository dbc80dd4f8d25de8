/- The reference's Parse: its walk, by hand, to the printed function. -/
import Derived.Test.YtfpcoanlkfgagaaDoorRg
import Derived.Test.YtfpcoanlkfgagaaDoorPAxD
namespace Go.Proofs.YtfpcoanlkfgagaaDoor.PA
open Go.RowKit Go.Proofs.YtfpcoanlkfgagaaDoorW.PrintWords Go.Proofs.YtfpcoanlkfgagaaDoorW.PrintLast Go.Proofs.YtfpcoanlkfgagaaDoor.Ext Go.Proofs.YtfpcoanlkfgagaaDoorW.PrintMore
attribute [local go_sem] max2_int min2_int max_two min_two
set_option linter.unusedVariables false
set_option linter.unusedSimpArgs false
theorem drawn_below {w W : World} (h : Drawn0 w W) : Below w.heap.size w W := by
 obtain ⟨⟨n, rfl⟩⟩ := h
 exact pw_below_drewN (Below.refl _ _) _
theorem u8_mod (x : Int) : IntKind.u8.wrap x = x % 256 := by
 simp only [IntKind.wrap, IntKind.bits, IntKind.signed, Bool.false_and, Bool.false_eq_true, if_false]
 omega
theorem st_val (a b c : Int) (ha : 0 ≤ a ∧ a ≤ 255) (hb : 0 ≤ b ∧ b ≤ 255) (hc : 0 ≤ c ∧ c ≤ 255) :
  wrap64 (wrap64 (wrap64 (100 * wrap64 (IntKind.u8.wrap (a - 48))) + wrap64 (10 * wrap64 (IntKind.u8.wrap (b - 48)))) + wrap64 (IntKind.u8.wrap (c - 48))) = ((100 * ((a - 48) % 256)) + (10 * ((b - 48) % 256))) + ((c - 48) % 256) := by
 rw [u8_mod, u8_mod, u8_mod]
 unfold wrap64
 omega
abbrev ar0 : Array Bool := #[false, false, false, false, false, false, false, false, false, false, false, false, false, false, false, false, false, false, false, false, false]
abbrev ar1 : Array Bool := #[true, false, false, false, false, false, false, false, false, false, false, false, false, false, false, false, false, false, false, false, false]
abbrev ar2 : Array Bool := #[true, false, false, false, false, true, false, false, false, false, false, false, false, false, false, false, false, false, false, false, false]
abbrev ar3 : Array Bool := #[true, false, false, false, false, true, false, false, false, false, false, true, false, false, false, false, false, false, false, false, false]
abbrev ar4 : Array Bool := #[true, false, false, false, false, true, false, false, false, false, false, true, false, false, false, false, true, false, false, false, false]
abbrev ar5 : Array Bool := #[true, false, false, false, false, true, false, false, false, false, false, true, false, false, false, false, true, true, false, false, false]
abbrev ar6 : Array Bool := #[true, true, false, false, false, true, false, false, false, false, false, true, false, false, false, false, true, true, false, false, false]
abbrev ar7 : Array Bool := #[true, true, true, false, false, true, false, false, false, false, false, true, false, false, false, false, true, true, false, false, false]
abbrev ar8 : Array Bool := #[true, true, true, true, false, true, false, false, false, false, false, true, false, false, false, false, true, true, false, false, false]
abbrev ar9 : Array Bool := #[true, true, true, true, true, true, false, false, false, false, false, true, false, false, false, false, true, true, false, false, false]
abbrev ar10 : Array Bool := #[true, true, true, true, true, true, true, false, false, false, false, true, false, false, false, false, true, true, false, false, false]
abbrev ar11 : Array Bool := #[true, true, true, true, true, true, true, true, false, false, false, true, false, false, false, false, true, true, false, false, false]
abbrev ar12 : Array Bool := #[true, true, true, true, true, true, true, true, true, false, false, true, false, false, false, false, true, true, false, false, false]
abbrev ar13 : Array Bool := #[true, true, true, true, true, true, true, true, true, true, false, true, false, false, false, false, true, true, false, false, false]
abbrev ar14 : Array Bool := #[true, true, true, true, true, true, true, true, true, true, true, true, false, false, false, false, true, true, false, false, false]
abbrev ar15 : Array Bool := #[true, true, true, true, true, true, true, true, true, true, true, true, true, false, false, false, true, true, false, false, false]
abbrev ar16 : Array Bool := #[true, true, true, true, true, true, true, true, true, true, true, true, true, true, false, false, true, true, false, false, false]
abbrev ar17 : Array Bool := #[true, true, true, true, true, true, true, true, true, true, true, true, true, true, true, false, true, true, false, false, false]
abbrev ar18 : Array Bool := #[true, true, true, true, true, true, true, true, true, true, true, true, true, true, true, true, true, true, false, false, false]
abbrev ar19 : Array Bool := #[true, true, true, true, true, true, true, true, true, true, true, true, true, true, true, true, true, true, true, false, false]
abbrev ar20 : Array Bool := #[true, true, true, true, true, true, true, true, true, true, true, true, true, true, true, true, true, true, true, true, false]
abbrev ar21 : Array Bool := #[true, true, true, true, true, true, true, true, true, true, true, true, true, true, true, true, true, true, true, true, true]
abbrev clen_ : ByteArray := ⟨#[99, 111, 110, 116, 101, 110, 116, 45, 108, 101, 110, 103, 116, 104]⟩
abbrev conn_ : ByteArray := ⟨#[99, 111, 110, 110, 101, 99, 116, 105, 111, 110]⟩
set_option maxHeartbeats 40000000 in
set_option maxRecDepth 100000 in
theorem odometerref06_Parse.calls (k : Nat) (A0 : Option Addr) (c0 : Nat) (l0 : List Int) (r1 : Int) (r2 : Int) (r3 : Bool) (r4 : Bool) (r5 : Int) (r6 : Int) (w : World) (hr0 : Kd.C (Kd.int .u8) w A0 l0.length l0) (hc0 : l0.length ≤ c0) (h : odometerref06_Parse.f k l0 = some (r1, r2, r3, r4, r5, r6)) :
  Calls Tryd.prog 22 #[.slice A0 l0.length c0] w fun e w' => e = .returned (.tuple #[.agg #[.int .i64 r1, .int .i64 r2, .bool r3, .bool r4], .int .i64 r5, .int .i64 r6]) ∧ Below w.heap.size w w' := by
 have HR0 := Aside0.mk hr0
 have HC0 := Aside0.mk hc0
 clear hr0 hc0
 unfold odometerref06_Parse.f at h
 replace h := Option.bind_eq_some_iff.mp h
 obtain ⟨⟨line, l, n, e⟩, hr, h⟩ := h
 have HRD := Aside0.mk hr
 try dsimp only at h
 clear hr
 go_enter Tryd.func22, Tryd.ntmps22
 go_upto_region 3 with (first | (go_at_call 28; (with_reducible refine (odometerref06_Read.calls k (fun k_ => k_ < w.heap.size) A0 c0 l0 line l n e _ (Kd.V_mk HC0.out (Kd.F_below (Kd.C_F (Kd.heap_int .u8) HR0.out) (below_alloc HB.out _))) HRD.out).mono ?_); rintro x wR ⟨v0, rfl, hR, hb⟩; obtain ⟨Av, cv, rfl⟩ := Kd.R_slice hR; have RC := Aside0.mk (Kd.R_reads' hR).2.2; have RL := Aside0.mk (Kd.R_reads' hR).2.1; have n1 := Aside0.mk (show PBlk wR g2 0 0 false false from (hb.block g2 (Nat.lt_of_lt_of_le BK.out.lt (below_alloc (Below.refl _ _) _).size)).trans (BK.out.alloc _)); have NK := Aside0.mk (show PBlk wR wA.heap.size 0 0 false false from (hb.block _ (blk_lt (blk_new wA _))).trans (blk_new wA _)); have n2 := Aside0.mk (below_lower (below_alloc HB.out _) hb (below_alloc HB.out _).size); have HN5 := Aside0.mk (show g2 ≠ wA.heap.size from Nat.ne_of_lt BK.out.lt); clear BK HB; have BK := n1; have HB := n2; clear n1 n2 hR hb; have hne1 := HN5.out; have hne2 : wA.heap.size ≠ g2 := fun h => hne1 h.symm; have hp0 := PBlk.c0 BK.out; have hp1 := PBlk.c1 BK.out; have hp2 := PBlk.c2 BK.out; have hp3 := PBlk.c3 BK.out; have hpf0 := PBlk.fz BK.out 0; have hpf1 := PBlk.fz BK.out 1; have hpf2 := PBlk.fz BK.out 2; have hpf3 := PBlk.fz BK.out 3; have hn0 := PBlk.c0 NK.out; have hn1 := PBlk.c1 NK.out; have hn2 := PBlk.c2 NK.out; have hn3 := PBlk.c3 NK.out) | ((with_reducible refine gate_dst (N := 2) rfl ?_); refine box_event ?hg (N := 2) ?hd (cs := #[.int .i64 0, .int .i64 0, .bool false, .bool false]) (t := 29) ?hr ?_; (case hd => rfl); (case hg => rfl); (case hr => first | (go_simp; done) | (go_simp; rfl)); intro g2 hg2 wA hbox hb; have BK := Aside0.mk (show PBlk wA g2 0 0 false false from hbox); have HB := Aside0.mk hb; have HG2 := Aside0.mk hg2; clear hbox hb hg2))
 clear HRD
 by_cases ce : e = 0
 ·rw [if_pos ce] at h
  have ye : (e != 0) = false := bne_eq_false_iff_eq.mpr ce
  have ye2 : (e == 0) = true := beq_iff_eq.mpr ce
  cases k with
  | zero => exact absurd h (by simp [odometerref06_Parse.j0])
  | succ k0 =>
   simp only [odometerref06_Parse.j0] at h
   by_cases cn : n = 0
   ·have yn : (n == 0) = true := beq_iff_eq.mpr cn
    rw [if_pos yn] at h
    clear ce cn
    simp only [Option.some.injEq, Prod.mk.injEq] at h
    obtain ⟨rfl, rfl, rfl, rfl, rfl, rfl⟩ := h
    go_wp2
    refine bodyPost_ret (results_ctt rfl _ _ g2 29 #[.int .i64 0, .int .i64 0, .bool false, .bool false] (0, 0) _ rfl ((((PBlk.s0 BK.out 0).s1 0).s2 false).s3 false) Tryd.underlying29 rfl (by kernel_rfl)) rfl ?_
    exact ⟨rfl, ((((HB.out).setCell (p := ⟨g2, 0, none⟩) (by rw [HG2.out]; exact Nat.le_refl _) _).setCell (p := ⟨g2, 1, none⟩) (by rw [HG2.out]; exact Nat.le_refl _) _).setCell (p := ⟨g2, 2, none⟩) (by rw [HG2.out]; exact Nat.le_refl _) _).setCell (p := ⟨g2, 3, none⟩) (by rw [HG2.out]; exact Nat.le_refl _) _⟩
   ·have yn : (n == 0) = false := beq_eq_false_iff_ne.mpr cn
    clear ce cn
    rw [if_neg (by rw [yn]; decide)] at h
    by_cases c7 : 7 < (line.size : Int)
    ·rw [if_pos c7] at h
     have q7 : (7 < line.size) = True := eq_true (by omega)
     have q7i : ((7 : Int) < (line.size : Int)) = True := eq_true c7
     have hx7 : ∀ h : 7 < line.size, ((line[7]'h).toNat : Int) = bt line 7 := bt_at line 7
     clear c7
     replace h := Option.bind_eq_some_iff.mp h
     obtain ⟨vl, hr, h⟩ := h
     have HV1 := Aside0.mk hr
     try dsimp only at h
     clear hr
     replace h := Option.bind_eq_some_iff.mp h
     obtain ⟨⟨sz, is⟩, hr, h⟩ := h
     have HLN := Aside0.mk hr
     try dsimp only at h
     clear hr
     replace h := Option.bind_eq_some_iff.mp h
     obtain ⟨cd, hr, h⟩ := h
     have HV2 := Aside0.mk hr
     try dsimp only at h
     clear hr
     go_upto_region 8 with (first | (go_at_call 42; (with_reducible refine (odometerref06_Values.calls k0 Av cv l tenc cd _ RC.out RL.out HV2.out).mono ?_); rintro x w3 ⟨v2, rfl, hR, hb⟩; obtain ⟨A2, c2, rfl⟩ := Kd.R_slice hR; have C2 := Aside0.mk (Kd.R_reads' hR).2.2; have n1 := Aside0.mk (show PBlk w3 g2 0 0 false false from (hb.block g2 BK.out.lt).trans BK.out); have n2 := Aside0.mk (show PBlk w3 wA.heap.size 0 0 false false from (hb.block _ NK.out.lt).trans NK.out); have n3 := Aside0.mk (below_lower HB.out hb HB.out.size); have n4 := Aside0.mk (Kd.C_below RC.out hb); clear hp0 hp1 hp2 hp3 hpf0 hpf1 hpf2 hpf3 hn0 hn1 hn2 hn3; clear BK NK HB RC; have BK := n1; have NK := n2; have HB := n3; have RC := n4; clear n1 n2 n3 n4; clear hR hb; have hp0 := PBlk.c0 BK.out; have hp1 := PBlk.c1 BK.out; have hp2 := PBlk.c2 BK.out; have hp3 := PBlk.c3 BK.out; have hpf0 := PBlk.fz BK.out 0; have hpf1 := PBlk.fz BK.out 1; have hpf2 := PBlk.fz BK.out 2; have hpf3 := PBlk.fz BK.out 3; have hn0 := PBlk.c0 NK.out; have hn1 := PBlk.c1 NK.out; have hn2 := PBlk.c2 NK.out; have hn3 := PBlk.c3 NK.out) | (go_at_call 41; (with_reducible refine (odometerref06_Length.calls k0 A1 c1 vl sz is _ C1.out L1.out HLN.out).mono ?_); rintro x w2 ⟨rfl, hD⟩; have hb := drawn_below hD; have n1 := Aside0.mk (show PBlk w2 g2 0 0 false false from (hb.block g2 BK.out.lt).trans BK.out); have n2 := Aside0.mk (show PBlk w2 wA.heap.size 0 0 false false from (hb.block _ NK.out.lt).trans NK.out); have n3 := Aside0.mk (below_lower HB.out hb HB.out.size); have n4 := Aside0.mk (Kd.C_below RC.out hb); clear hp0 hp1 hp2 hp3 hpf0 hpf1 hpf2 hpf3 hn0 hn1 hn2 hn3; clear BK NK HB RC; have BK := n1; have NK := n2; have HB := n3; have RC := n4; clear n1 n2 n3 n4; clear hD hb C1 L1; have hp0 := PBlk.c0 BK.out; have hp1 := PBlk.c1 BK.out; have hp2 := PBlk.c2 BK.out; have hp3 := PBlk.c3 BK.out; have hpf0 := PBlk.fz BK.out 0; have hpf1 := PBlk.fz BK.out 1; have hpf2 := PBlk.fz BK.out 2; have hpf3 := PBlk.fz BK.out 3; have hn0 := PBlk.c0 NK.out; have hn1 := PBlk.c1 NK.out; have hn2 := PBlk.c2 NK.out; have hn3 := PBlk.c3 NK.out) | (go_at_call 42; (with_reducible refine (odometerref06_Values.calls k0 Av cv l clen_ vl _ RC.out RL.out HV1.out).mono ?_); rintro x w1 ⟨v1, rfl, hR, hb⟩; obtain ⟨A1, c1, rfl⟩ := Kd.R_slice hR; have C1 := Aside0.mk (Kd.R_reads' hR).2.2; have L1 := Aside0.mk (Kd.R_reads' hR).2.1; have n1 := Aside0.mk (show PBlk w1 g2 0 0 false false from (hb.block g2 BK.out.lt).trans BK.out); have n2 := Aside0.mk (show PBlk w1 wA.heap.size 0 0 false false from (hb.block _ NK.out.lt).trans NK.out); have n3 := Aside0.mk (below_lower HB.out hb HB.out.size); have n4 := Aside0.mk (Kd.C_below RC.out hb); clear hp0 hp1 hp2 hp3 hpf0 hpf1 hpf2 hpf3 hn0 hn1 hn2 hn3; clear BK NK HB RC; have BK := n1; have NK := n2; have HB := n3; have RC := n4; clear n1 n2 n3 n4; clear hR hb; have hp0 := PBlk.c0 BK.out; have hp1 := PBlk.c1 BK.out; have hp2 := PBlk.c2 BK.out; have hp3 := PBlk.c3 BK.out; have hpf0 := PBlk.fz BK.out 0; have hpf1 := PBlk.fz BK.out 1; have hpf2 := PBlk.fz BK.out 2; have hpf3 := PBlk.fz BK.out 3; have hn0 := PBlk.c0 NK.out; have hn1 := PBlk.c1 NK.out; have hn2 := PBlk.c2 NK.out; have hn3 := PBlk.c3 NK.out))
     clear HV1 HLN HV2
     cases is with
     | false =>
      rw [if_neg (by decide)] at h
      cases k0 with
      | zero => exact absurd h (by simp [odometerref06_Parse.j1])
      | succ k1 =>
       simp only [odometerref06_Parse.j1] at h
       rw [if_pos trivial] at h
       simp only [Option.some.injEq, Prod.mk.injEq] at h
       obtain ⟨rfl, rfl, rfl, rfl, rfl, rfl⟩ := h
       go_wp2
       refine bodyPost_ret (results_ctt rfl _ _ g2 29 #[.int .i64 0, .int .i64 0, .bool false, .bool false] (0, 0) _ rfl ((((PBlk.s0 BK.out 0).s1 0).s2 false).s3 false) Tryd.underlying29 rfl (by kernel_rfl)) rfl ?_
       exact ⟨rfl, ((((HB.out).setCell (p := ⟨g2, 0, none⟩) (by rw [HG2.out]; exact Nat.le_refl _) _).setCell (p := ⟨g2, 1, none⟩) (by rw [HG2.out]; exact Nat.le_refl _) _).setCell (p := ⟨g2, 2, none⟩) (by rw [HG2.out]; exact Nat.le_refl _) _).setCell (p := ⟨g2, 3, none⟩) (by rw [HG2.out]; exact Nat.le_refl _) _⟩
     | true =>
      rw [if_pos rfl] at h
      by_cases cz : sz ≥ 0
      ·have yz : decide (sz ≥ 0) = true := decide_eq_true cz
       have yz2 : decide (0 ≤ sz) = true := decide_eq_true cz
       rw [if_pos cz] at h
       by_cases cl : (cd.length : Int) > 0
       ·have yl : decide ((cd.length : Int) > 0) = true := decide_eq_true cl
        have yl2 : decide (0 < cd.length) = true := decide_eq_true (by omega)
        rw [yl] at h
        clear cz cl
        cases k0 with
        | zero => exact absurd h (by simp [odometerref06_Parse.j1])
        | succ k1 =>
         simp only [odometerref06_Parse.j1] at h
         rw [if_pos trivial] at h
         simp only [Option.some.injEq, Prod.mk.injEq] at h
         obtain ⟨rfl, rfl, rfl, rfl, rfl, rfl⟩ := h
         go_wp2
         refine bodyPost_ret (results_ctt rfl _ _ g2 29 #[.int .i64 0, .int .i64 0, .bool false, .bool false] (0, 0) _ rfl ((((PBlk.s0 BK.out 0).s1 0).s2 false).s3 false) Tryd.underlying29 rfl (by kernel_rfl)) rfl ?_
         exact ⟨rfl, ((((HB.out).setCell (p := ⟨g2, 0, none⟩) (by rw [HG2.out]; exact Nat.le_refl _) _).setCell (p := ⟨g2, 1, none⟩) (by rw [HG2.out]; exact Nat.le_refl _) _).setCell (p := ⟨g2, 2, none⟩) (by rw [HG2.out]; exact Nat.le_refl _) _).setCell (p := ⟨g2, 3, none⟩) (by rw [HG2.out]; exact Nat.le_refl _) _⟩
       ·have yl : decide ((cd.length : Int) > 0) = false := decide_eq_false cl
        have yl2 : decide (0 < cd.length) = false := decide_eq_false (by omega)
        rw [yl] at h
        obtain rfl : cd = [] := List.length_eq_zero_iff.mp (by omega)
        cases k0 with
        | zero => exact absurd h (by simp [odometerref06_Parse.j1])
        | succ k1 =>
         simp only [odometerref06_Parse.j1] at h
         rw [if_neg (by decide), if_neg (by decide)] at h
         have yl3 : decide (([] : List ByteArray).length > 0) = false := rfl
         rw [show decide ((([] : List ByteArray).length : Int) > 0) = false from rfl] at h
         go_upto_region 13 with (fail)
         cases k1 with
         | zero => exact absurd h (by simp [odometerref06_Parse.j2])
         | succ k2 =>
          simp only [odometerref06_Parse.j2] at h
          rw [if_neg (by decide)] at h
          by_cases c9 : 9 < (line.size : Int)
          case neg => exact absurd h (by rw [if_neg c9]; simp)
          rw [if_pos c9] at h
          by_cases c10 : 10 < (line.size : Int)
          case neg => exact absurd h (by rw [if_neg c10]; simp)
          rw [if_pos c10] at h
          by_cases c11 : 11 < (line.size : Int)
          case neg => exact absurd h (by rw [if_neg c11]; simp)
          rw [if_pos c11] at h
          have q9 : (9 < line.size) = True := eq_true (by omega)
          have q9i : ((9 : Int) < (line.size : Int)) = True := eq_true c9
          have hx9 : ∀ h : 9 < line.size, ((line[9]'h).toNat : Int) = bt line 9 := bt_at line 9
          have q10 : (10 < line.size) = True := eq_true (by omega)
          have q10i : ((10 : Int) < (line.size : Int)) = True := eq_true c10
          have hx10 : ∀ h : 10 < line.size, ((line[10]'h).toNat : Int) = bt line 10 := bt_at line 10
          have q11 : (11 < line.size) = True := eq_true (by omega)
          have q11i : ((11 : Int) < (line.size : Int)) = True := eq_true c11
          have hx11 : ∀ h : 11 < line.size, ((line[11]'h).toNat : Int) = bt line 11 := bt_at line 11
          clear c9 c10 c11
          have hst := st_val (bt line 9) (bt line 10) (bt line 11) (bt_range line 9) (bt_range line 10) (bt_range line 11)
          obtain ⟨st, hst2⟩ : ∃ st, st = ((100 * (((bt line 9) - 48) % 256)) + (10 * (((bt line 10) - 48) % 256))) + (((bt line 11) - 48) % 256) := ⟨_, rfl⟩
          rw [← hst2] at h hst
          have HST := Aside0.mk hst
          clear hst hst2
          replace h := Option.bind_eq_some_iff.mp h
          obtain ⟨sd, hr, h⟩ := h
          have HV3 := Aside0.mk hr
          try dsimp only at h
          clear hr
          replace h := Option.bind_eq_some_iff.mp h
          obtain ⟨t1, hr, h⟩ := h
          have HS1 := Aside0.mk hr
          try dsimp only at h
          clear hr
          have H := Aside0.mk h
          clear h
          refine start_ (n := 21) (S := fun w' => True) (ds := []) ar0 (by kernel_rfl) rfl rfl trivial (fun hHeld => ?_); refine with_tabW odometerref06_Parse.tab13 odometerref06_Parse.bits13 (fun HT_ HW_ => ?_)
          have BKd := Aside0.mk (show PBlk (World.drew w3) g2 0 0 false false from BK.out)
          have HBd := Aside0.mk (below_drew1 HB.out)
          have RCd := Aside0.mk (Kd.C_drew RC.out)
          clear BK NK HB RC
          clear hp0 hp1 hp2 hp3 hpf0 hpf1 hpf2 hpf3 hn0 hn1 hn2 hn3
          generalize World.drew w3 = wd at BKd HBd RCd hHeld ⊢
          refine pure_ (i := 0) (N := some 76) (v := ?_) (a' := ?_) ar1 rfl rfl (any_of HT_.out (by kernel_rfl)) (fun _ _ _ h => h) (Or.inl ⟨by rfl, ?_⟩) ?_ ?_
          rotate_left
          ·intro w'
           go_simp
           with_reducible rfl
          rotate_left
          ·simp only [Act.put, List.setIfInBounds_toArray, List.set_cons_zero, List.set_cons_succ, i64_w, i32_w]
           rfl
          refine pure_ (i := 5) (N := some 81) (v := ?_) (a' := ?_) ar2 rfl rfl (any_of HT_.out (by kernel_rfl)) (fun _ _ _ h => h) (Or.inl ⟨by rfl, ?_⟩) ?_ ?_
          rotate_left
          ·intro w'
           go_simp
           with_reducible rfl
          rotate_left
          ·simp only [Act.put, List.setIfInBounds_toArray, List.set_cons_zero, List.set_cons_succ, i64_w, i32_w]
           rfl
          refine pure_ (i := 11) (N := some 87) (v := ?_) (a' := ?_) ar3 rfl rfl (any_of HT_.out (by kernel_rfl)) (fun _ _ _ h => h) (Or.inl ⟨by rfl, ?_⟩) ?_ ?_
          rotate_left
          ·intro w'
           go_simp
           with_reducible rfl
          rotate_left
          ·simp only [Act.put, List.setIfInBounds_toArray, List.set_cons_zero, List.set_cons_succ, i64_w, i32_w]
           rfl
          refine pure_ (i := 16) (N := some 92) (v := ?_) (a' := ?_) ar4 rfl rfl (any_of HT_.out (by kernel_rfl)) (fun _ _ _ h => h) (Or.inl ⟨by rfl, ?_⟩) ?_ ?_
          rotate_left
          ·intro w'
           go_simp
           with_reducible rfl
          rotate_left
          ·simp only [Act.put, List.setIfInBounds_toArray, List.set_cons_zero, List.set_cons_succ, i64_w, i32_w]
           rfl
          refine pure_ (i := 17) (N := some 93) (v := ?_) (a' := ?_) ar5 rfl rfl (any_of HT_.out (by kernel_rfl)) (fun _ _ _ h => h) (Or.inl ⟨by rfl, ?_⟩) ?_ ?_
          rotate_left
          ·intro w'
           go_simp
           with_reducible rfl
          rotate_left
          ·simp only [Act.put, List.setIfInBounds_toArray, List.set_cons_zero, List.set_cons_succ, i64_w, i32_w]
           rfl
          refine take_ (i := 1) (N := some 77) (v := ?_) (a' := ?_) ar6 rfl rfl (take_ofW HT_.out HW_.out (by kernel_rfl)) (fun _ _ _ h => h) (Or.inl ⟨by rfl, ?_⟩) hHeld ?_ ?_
          rotate_left
          ·intro w' _
           go_simp
           with_reducible rfl
          rotate_left
          ·simp only [Act.put, List.setIfInBounds_toArray, List.set_cons_zero, List.set_cons_succ, i64_w, i32_w]
           rfl
          refine pure_ (i := 2) (N := some 78) (v := ?_) (a' := ?_) ar7 rfl rfl (any_of HT_.out (by kernel_rfl)) (fun _ _ _ h => h) (Or.inl ⟨by rfl, ?_⟩) ?_ ?_
          rotate_left
          ·intro w'
           go_simp
           with_reducible rfl
          rotate_left
          ·simp only [Act.put, List.setIfInBounds_toArray, List.set_cons_zero, List.set_cons_succ, i64_w, i32_w]
           rfl
          refine pure_ (i := 3) (N := some 79) (v := ?_) (a' := ?_) ar8 rfl rfl (any_of HT_.out (by kernel_rfl)) (fun _ _ _ h => h) (Or.inl ⟨by rfl, ?_⟩) ?_ ?_
          rotate_left
          ·intro w'
           go_simp
           with_reducible rfl
          rotate_left
          ·simp only [Act.put, List.setIfInBounds_toArray, List.set_cons_zero, List.set_cons_succ, i64_w, i32_w]
           rfl
          refine pure_ (i := 4) (N := some 80) (v := ?_) (a' := ?_) ar9 rfl rfl (any_of HT_.out (by kernel_rfl)) (fun _ _ _ h => h) (Or.inl ⟨by rfl, ?_⟩) ?_ ?_
          rotate_left
          ·intro w'
           go_simp
           with_reducible rfl
          rotate_left
          ·simp only [Act.put, List.setIfInBounds_toArray, List.set_cons_zero, List.set_cons_succ, i64_w, i32_w]
           rfl
          refine take_ (i := 6) (N := some 82) (v := ?_) (a' := ?_) ar10 rfl rfl (take_ofW HT_.out HW_.out (by kernel_rfl)) (fun _ _ _ h => h) (Or.inl ⟨by rfl, ?_⟩) hHeld ?_ ?_
          rotate_left
          ·intro w' _
           go_simp
           with_reducible rfl
          rotate_left
          ·simp only [Act.put, List.setIfInBounds_toArray, List.set_cons_zero, List.set_cons_succ, i64_w, i32_w]
           rfl
          refine pure_ (i := 7) (N := some 83) (v := ?_) (a' := ?_) ar11 rfl rfl (any_of HT_.out (by kernel_rfl)) (fun _ _ _ h => h) (Or.inl ⟨by rfl, ?_⟩) ?_ ?_
          rotate_left
          ·intro w'
           go_simp
           with_reducible rfl
          rotate_left
          ·simp only [Act.put, List.setIfInBounds_toArray, List.set_cons_zero, List.set_cons_succ, i64_w, i32_w]
           rfl
          refine pure_ (i := 8) (N := some 84) (v := ?_) (a' := ?_) ar12 rfl rfl (any_of HT_.out (by kernel_rfl)) (fun _ _ _ h => h) (Or.inl ⟨by rfl, ?_⟩) ?_ ?_
          rotate_left
          ·intro w'
           go_simp
           with_reducible rfl
          rotate_left
          ·simp only [Act.put, List.setIfInBounds_toArray, List.set_cons_zero, List.set_cons_succ, i64_w, i32_w]
           rfl
          refine pure_ (i := 9) (N := some 85) (v := ?_) (a' := ?_) ar13 rfl rfl (any_of HT_.out (by kernel_rfl)) (fun _ _ _ h => h) (Or.inl ⟨by rfl, ?_⟩) ?_ ?_
          rotate_left
          ·intro w'
           go_simp
           with_reducible rfl
          rotate_left
          ·simp only [Act.put, List.setIfInBounds_toArray, List.set_cons_zero, List.set_cons_succ, i64_w, i32_w]
           rfl
          refine pure_ (i := 10) (N := some 86) (v := ?_) (a' := ?_) ar14 rfl rfl (any_of HT_.out (by kernel_rfl)) (fun _ _ _ h => h) (Or.inl ⟨by rfl, ?_⟩) ?_ ?_
          rotate_left
          ·intro w'
           go_simp
           with_reducible rfl
          rotate_left
          ·simp only [Act.put, List.setIfInBounds_toArray, List.set_cons_zero, List.set_cons_succ, i64_w, i32_w]
           rfl
          refine take_ (i := 12) (N := some 88) (v := ?_) (a' := ?_) ar15 rfl rfl (take_ofW HT_.out HW_.out (by kernel_rfl)) (fun _ _ _ h => h) (Or.inl ⟨by rfl, ?_⟩) hHeld ?_ ?_
          rotate_left
          ·intro w' _
           go_simp
           with_reducible rfl
          rotate_left
          ·simp only [Act.put, List.setIfInBounds_toArray, List.set_cons_zero, List.set_cons_succ, i64_w, i32_w]
           rfl
          refine pure_ (i := 13) (N := some 89) (v := ?_) (a' := ?_) ar16 rfl rfl (any_of HT_.out (by kernel_rfl)) (fun _ _ _ h => h) (Or.inl ⟨by rfl, ?_⟩) ?_ ?_
          rotate_left
          ·intro w'
           go_simp
           with_reducible rfl
          rotate_left
          ·simp only [Act.put, List.setIfInBounds_toArray, List.set_cons_zero, List.set_cons_succ, i64_w, i32_w]
           rfl
          refine pure_ (i := 14) (N := some 90) (v := ?_) (a' := ?_) ar17 rfl rfl (any_of HT_.out (by kernel_rfl)) (fun _ _ _ h => h) (Or.inl ⟨by rfl, ?_⟩) ?_ ?_
          rotate_left
          ·intro w'
           go_simp
           with_reducible rfl
          rotate_left
          ·simp only [Act.put, List.setIfInBounds_toArray, List.set_cons_zero, List.set_cons_succ, i64_w, i32_w]
           rfl
          refine pure_ (i := 15) (N := some 91) (v := ?_) (a' := ?_) ar18 rfl rfl (any_of HT_.out (by kernel_rfl)) (fun _ _ _ h => h) (Or.inl ⟨by rfl, ?_⟩) ?_ ?_
          rotate_left
          ·intro w'
           go_simp
           with_reducible rfl
          rotate_left
          ·simp only [Act.put, List.setIfInBounds_toArray, List.set_cons_zero, List.set_cons_succ, i64_w, i32_w]
           rfl
          refine pure_ (i := 18) (N := some 94) (v := ?_) (a' := ?_) ar19 rfl rfl (any_of HT_.out (by kernel_rfl)) (fun _ _ _ h => h) (Or.inl ⟨by rfl, ?_⟩) ?_ ?_
          rotate_left
          ·intro w'
           go_simp
           with_reducible rfl
          rotate_left
          ·simp only [Act.put, List.setIfInBounds_toArray, List.set_cons_zero, List.set_cons_succ, i64_w, i32_w]
           rfl
          refine one_ (i := 19) (N := some 15) ar20 rfl rfl (one_of HT_.out (by kernel_rfl)) (by decide) (fun K hK => ?_)
          refine box_step ?hg (N := 15) ?hd (cs := #[.int .i64 0, .int .i64 0, .bool false, .bool false]) (t := 29) ?hr ?_; (case hd => rfl); (case hg => rfl); (case hr => first | (go_simp; done) | (go_simp; rfl))
          intro g9 hg wB hbox hb
          have O0 := Aside0.mk (show PBlk wB g9 0 0 false false from hbox)
          have HB0 := Aside0.mk hb
          have HGD := Aside0.mk (show wd.heap.size ≤ g9 by rw [hg]; exact Nat.le_refl _)
          have HGE := Aside0.mk (show w.heap.size ≤ g9 by rw [hg]; exact HBd.out.size)
          have HNC := Aside0.mk (show g2 ≠ g9 by rw [hg]; exact Nat.ne_of_lt BKd.out.lt)
          clear hb hbox hg
          refine hK.out _ _ trivial (fun hHeld => ?_)
          clear hK K
          refine norm_ (a' := ?_) ?_ ?_
          rotate_left
          ·show Act.put _ (some 15) _ = _
           simp only [Act.put, List.setIfInBounds_toArray, List.set_cons_zero, List.set_cons_succ, i64_w, i32_w]
           rfl
          refine one_ (i := 20) (N := none) ar21 rfl rfl (one_of HT_.out (by kernel_rfl)) (by decide) (fun K hK => ?_)
          have hs0 := O0.out.c0
          have hfs0 := O0.out.fz 0
          have hs1 := O0.out.c1
          have hfs1 := O0.out.fz 1
          have hs2 := O0.out.c2
          have hfs2 := O0.out.fz 2
          have hs3 := O0.out.c3
          have hfs3 := O0.out.fz 3
          refine skip_ (w1 := ?_) (by rfl) rfl ?_ ?_
          rotate_left
          ·go_simp
           rfl
          refine hK.out _ _ trivial (fun hHeld => ?_)
          clear hK K hs0 hs1 hs2 hs3 hfs0 hfs1 hfs2 hfs3
          refine done_ (done_of HT_.out (by kernel_rfl)) ?_
          rw [HST.out]
          have OF := Aside0.mk ((((O0.out.s0 st).s1 sz).s2 false).s3 false)
          have hb := (Below.setCell (p := ⟨g9, 3, none⟩) (Below.setCell (p := ⟨g9, 2, none⟩) (Below.setCell (p := ⟨g9, 1, none⟩) (Below.setCell (p := ⟨g9, 0, none⟩) HB0.out HGD.out (.int .i64 st)) HGD.out (.int .i64 sz)) HGD.out (.bool false)) HGD.out (.bool false))
          clear O0 HB0
          generalize (World.setCell (World.setCell (World.setCell (World.setCell wB ⟨g9, 0, none⟩ (.int .i64 st)) ⟨g9, 1, none⟩ (.int .i64 sz)) ⟨g9, 2, none⟩ (.bool false)) ⟨g9, 3, none⟩ (.bool false)) = wf at OF hb ⊢
          have BK := Aside0.mk (show PBlk wf g2 0 0 false false from (hb.block g2 BKd.out.lt).trans BKd.out)
          have HB := Aside0.mk (below_lower HBd.out hb HBd.out.size)
          have RC := Aside0.mk (Kd.C_below RCd.out hb)
          have hneC := HNC.out
          have hneD : g9 ≠ g2 := fun h => hneC h.symm
          clear BKd HBd RCd hb
          go_upto_region 15 with (first | (go_at_call 42; (with_reducible refine (odometerref06_Values.calls k2 Av cv l conn_ sd _ RC.out RL.out HV3.out).mono ?_); rintro x w5 ⟨v3, rfl, hR, hb⟩; obtain ⟨A3, c3, rfl⟩ := Kd.R_slice hR; have C3 := Aside0.mk (Kd.R_reads' hR).2.2; have L3 := Aside0.mk (Kd.R_reads' hR).2.1; have n1 := Aside0.mk (show PBlk w5 g2 0 0 false false from (hb.block g2 BK.out.lt).trans BK.out); have n2 := Aside0.mk (show PBlk w5 g9 st sz false false from (hb.block g9 OF.out.lt).trans OF.out); have n3 := Aside0.mk (below_lower HB.out hb HB.out.size); clear BK OF HB; have BK := n1; have OF := n2; have HB := n3; clear n1 n2 n3; clear hR hb RC))
          clear HV3
          have h := H.out
          clear H
          cases t1 with
          | true =>
           rw [if_pos rfl] at h
           simp only [Option.some.injEq, Prod.mk.injEq] at h
           obtain ⟨rfl, rfl, rfl, rfl, rfl, rfl⟩ := h
           go_wp2_with (first | (go_at_call 44; (with_reducible refine (odometerref06_Says.calls k2 A3 c3 sd clos true _ C3.out L3.out HS1.out).mono ?_); rintro x w6 ⟨rfl, hb⟩; have n1 := Aside0.mk (show PBlk w6 g2 0 0 false false from (hb.block g2 BK.out.lt).trans BK.out); have n2 := Aside0.mk (show PBlk w6 g9 st sz false false from (hb.block g9 OF.out.lt).trans OF.out); have n3 := Aside0.mk (below_lower HB.out hb HB.out.size); clear BK OF HB; have BK := n1; have OF := n2; have HB := n3; clear n1 n2 n3; have n4 := Aside0.mk (Kd.C_below C3.out hb); clear C3 hb; have C3 := n4; clear n4; have hp0 := PBlk.c0 BK.out; have hp1 := PBlk.c1 BK.out; have hp2 := PBlk.c2 BK.out; have hp3 := PBlk.c3 BK.out; have hpf0 := PBlk.fz BK.out 0; have hpf1 := PBlk.fz BK.out 1; have hpf2 := PBlk.fz BK.out 2; have hpf3 := PBlk.fz BK.out 3; have ho0 := PBlk.c0 OF.out; have ho1 := PBlk.c1 OF.out; have ho2 := PBlk.c2 OF.out; have ho3 := PBlk.c3 OF.out; have hof0 := PBlk.fz OF.out 0; have hof1 := PBlk.fz OF.out 1; have hof2 := PBlk.fz OF.out 2; have hof3 := PBlk.fz OF.out 3))
           refine bodyPost_ret (results_ctt rfl _ _ g2 29 #[.int .i64 st, .int .i64 sz, .bool false, .bool true] (0, 0) _ rfl (((((PBlk.far BK.out (p := ⟨g9, 3, none⟩) HNC.out (.bool true)).s0 st).s1 sz).s2 false).s3 true) Tryd.underlying29 rfl (by kernel_rfl)) rfl ?_
           exact ⟨rfl, (((((HB.out.setCell (p := ⟨g9, 3, none⟩) HGE.out (.bool true))).setCell (p := ⟨g2, 0, none⟩) (by rw [HG2.out]; exact Nat.le_refl _) _).setCell (p := ⟨g2, 1, none⟩) (by rw [HG2.out]; exact Nat.le_refl _) _).setCell (p := ⟨g2, 2, none⟩) (by rw [HG2.out]; exact Nat.le_refl _) _).setCell (p := ⟨g2, 3, none⟩) (by rw [HG2.out]; exact Nat.le_refl _) _⟩
          | false =>
           rw [if_neg (by decide)] at h
           rw [if_neg (by omega)] at h
           by_cases co : (bt line 7 == 48) = true
           ·rw [if_pos co] at h
            replace h := Option.bind_eq_some_iff.mp h
            obtain ⟨u1, hr, h⟩ := h
            have HS2 := Aside0.mk hr
            try dsimp only at h
            clear hr
            cases u1 with
            | true =>
             simp only [Option.some.injEq, Prod.mk.injEq] at h
             obtain ⟨rfl, rfl, rfl, rfl, rfl, rfl⟩ := h
             go_wp2_with (first | (go_at_call 44; (with_reducible refine (odometerref06_Says.calls k2 A3 c3 sd kali true _ C3.out L3.out HS2.out).mono ?_); rintro x w7 ⟨rfl, hb⟩; clear hp0 hp1 hp2 hp3 hpf0 hpf1 hpf2 hpf3 ho0 ho1 ho2 ho3 hof0 hof1 hof2 hof3; have n1 := Aside0.mk (show PBlk w7 g2 0 0 false false from (hb.block g2 BK.out.lt).trans BK.out); have n2 := Aside0.mk (show PBlk w7 g9 st sz false false from (hb.block g9 OF.out.lt).trans OF.out); have n3 := Aside0.mk (below_lower HB.out hb HB.out.size); clear BK OF HB; have BK := n1; have OF := n2; have HB := n3; clear n1 n2 n3; clear C3 hb; have hp0 := PBlk.c0 BK.out; have hp1 := PBlk.c1 BK.out; have hp2 := PBlk.c2 BK.out; have hp3 := PBlk.c3 BK.out; have hpf0 := PBlk.fz BK.out 0; have hpf1 := PBlk.fz BK.out 1; have hpf2 := PBlk.fz BK.out 2; have hpf3 := PBlk.fz BK.out 3; have ho0 := PBlk.c0 OF.out; have ho1 := PBlk.c1 OF.out; have ho2 := PBlk.c2 OF.out; have ho3 := PBlk.c3 OF.out; have hof0 := PBlk.fz OF.out 0; have hof1 := PBlk.fz OF.out 1; have hof2 := PBlk.fz OF.out 2; have hof3 := PBlk.fz OF.out 3) | (go_at_call 44; (with_reducible refine (odometerref06_Says.calls k2 A3 c3 sd clos false _ C3.out L3.out HS1.out).mono ?_); rintro x w6 ⟨rfl, hb⟩; have n1 := Aside0.mk (show PBlk w6 g2 0 0 false false from (hb.block g2 BK.out.lt).trans BK.out); have n2 := Aside0.mk (show PBlk w6 g9 st sz false false from (hb.block g9 OF.out.lt).trans OF.out); have n3 := Aside0.mk (below_lower HB.out hb HB.out.size); clear BK OF HB; have BK := n1; have OF := n2; have HB := n3; clear n1 n2 n3; have n4 := Aside0.mk (Kd.C_below C3.out hb); clear C3 hb; have C3 := n4; clear n4; have hp0 := PBlk.c0 BK.out; have hp1 := PBlk.c1 BK.out; have hp2 := PBlk.c2 BK.out; have hp3 := PBlk.c3 BK.out; have hpf0 := PBlk.fz BK.out 0; have hpf1 := PBlk.fz BK.out 1; have hpf2 := PBlk.fz BK.out 2; have hpf3 := PBlk.fz BK.out 3; have ho0 := PBlk.c0 OF.out; have ho1 := PBlk.c1 OF.out; have ho2 := PBlk.c2 OF.out; have ho3 := PBlk.c3 OF.out; have hof0 := PBlk.fz OF.out 0; have hof1 := PBlk.fz OF.out 1; have hof2 := PBlk.fz OF.out 2; have hof3 := PBlk.fz OF.out 3))
             refine bodyPost_ret (results_ctt rfl _ _ g2 29 #[.int .i64 st, .int .i64 sz, .bool false, .bool false] (0, 0) _ rfl (((((PBlk.far BK.out (p := ⟨g9, 3, none⟩) HNC.out (.bool false)).s0 st).s1 sz).s2 false).s3 false) Tryd.underlying29 rfl (by kernel_rfl)) rfl ?_
             exact ⟨rfl, (((((HB.out.setCell (p := ⟨g9, 3, none⟩) HGE.out (.bool false))).setCell (p := ⟨g2, 0, none⟩) (by rw [HG2.out]; exact Nat.le_refl _) _).setCell (p := ⟨g2, 1, none⟩) (by rw [HG2.out]; exact Nat.le_refl _) _).setCell (p := ⟨g2, 2, none⟩) (by rw [HG2.out]; exact Nat.le_refl _) _).setCell (p := ⟨g2, 3, none⟩) (by rw [HG2.out]; exact Nat.le_refl _) _⟩
            | false =>
             simp only [Option.some.injEq, Prod.mk.injEq] at h
             obtain ⟨rfl, rfl, rfl, rfl, rfl, rfl⟩ := h
             go_wp2_with (first | (go_at_call 44; (with_reducible refine (odometerref06_Says.calls k2 A3 c3 sd kali false _ C3.out L3.out HS2.out).mono ?_); rintro x w7 ⟨rfl, hb⟩; clear hp0 hp1 hp2 hp3 hpf0 hpf1 hpf2 hpf3 ho0 ho1 ho2 ho3 hof0 hof1 hof2 hof3; have n1 := Aside0.mk (show PBlk w7 g2 0 0 false false from (hb.block g2 BK.out.lt).trans BK.out); have n2 := Aside0.mk (show PBlk w7 g9 st sz false false from (hb.block g9 OF.out.lt).trans OF.out); have n3 := Aside0.mk (below_lower HB.out hb HB.out.size); clear BK OF HB; have BK := n1; have OF := n2; have HB := n3; clear n1 n2 n3; clear C3 hb; have hp0 := PBlk.c0 BK.out; have hp1 := PBlk.c1 BK.out; have hp2 := PBlk.c2 BK.out; have hp3 := PBlk.c3 BK.out; have hpf0 := PBlk.fz BK.out 0; have hpf1 := PBlk.fz BK.out 1; have hpf2 := PBlk.fz BK.out 2; have hpf3 := PBlk.fz BK.out 3; have ho0 := PBlk.c0 OF.out; have ho1 := PBlk.c1 OF.out; have ho2 := PBlk.c2 OF.out; have ho3 := PBlk.c3 OF.out; have hof0 := PBlk.fz OF.out 0; have hof1 := PBlk.fz OF.out 1; have hof2 := PBlk.fz OF.out 2; have hof3 := PBlk.fz OF.out 3) | (go_at_call 44; (with_reducible refine (odometerref06_Says.calls k2 A3 c3 sd clos false _ C3.out L3.out HS1.out).mono ?_); rintro x w6 ⟨rfl, hb⟩; have n1 := Aside0.mk (show PBlk w6 g2 0 0 false false from (hb.block g2 BK.out.lt).trans BK.out); have n2 := Aside0.mk (show PBlk w6 g9 st sz false false from (hb.block g9 OF.out.lt).trans OF.out); have n3 := Aside0.mk (below_lower HB.out hb HB.out.size); clear BK OF HB; have BK := n1; have OF := n2; have HB := n3; clear n1 n2 n3; have n4 := Aside0.mk (Kd.C_below C3.out hb); clear C3 hb; have C3 := n4; clear n4; have hp0 := PBlk.c0 BK.out; have hp1 := PBlk.c1 BK.out; have hp2 := PBlk.c2 BK.out; have hp3 := PBlk.c3 BK.out; have hpf0 := PBlk.fz BK.out 0; have hpf1 := PBlk.fz BK.out 1; have hpf2 := PBlk.fz BK.out 2; have hpf3 := PBlk.fz BK.out 3; have ho0 := PBlk.c0 OF.out; have ho1 := PBlk.c1 OF.out; have ho2 := PBlk.c2 OF.out; have ho3 := PBlk.c3 OF.out; have hof0 := PBlk.fz OF.out 0; have hof1 := PBlk.fz OF.out 1; have hof2 := PBlk.fz OF.out 2; have hof3 := PBlk.fz OF.out 3))
             refine bodyPost_ret (results_ctt rfl _ _ g2 29 #[.int .i64 st, .int .i64 sz, .bool false, .bool true] (0, 0) _ rfl (((((PBlk.far BK.out (p := ⟨g9, 3, none⟩) HNC.out (.bool true)).s0 st).s1 sz).s2 false).s3 true) Tryd.underlying29 rfl (by kernel_rfl)) rfl ?_
             exact ⟨rfl, (((((HB.out.setCell (p := ⟨g9, 3, none⟩) HGE.out (.bool true))).setCell (p := ⟨g2, 0, none⟩) (by rw [HG2.out]; exact Nat.le_refl _) _).setCell (p := ⟨g2, 1, none⟩) (by rw [HG2.out]; exact Nat.le_refl _) _).setCell (p := ⟨g2, 2, none⟩) (by rw [HG2.out]; exact Nat.le_refl _) _).setCell (p := ⟨g2, 3, none⟩) (by rw [HG2.out]; exact Nat.le_refl _) _⟩
           ·rw [if_neg co] at h
            replace co := Bool.eq_false_iff.mpr co
            simp only [Option.some.injEq, Prod.mk.injEq] at h
            obtain ⟨rfl, rfl, rfl, rfl, rfl, rfl⟩ := h
            go_wp2_with (first | (go_at_call 44; (with_reducible refine (odometerref06_Says.calls k2 A3 c3 sd clos false _ C3.out L3.out HS1.out).mono ?_); rintro x w6 ⟨rfl, hb⟩; have n1 := Aside0.mk (show PBlk w6 g2 0 0 false false from (hb.block g2 BK.out.lt).trans BK.out); have n2 := Aside0.mk (show PBlk w6 g9 st sz false false from (hb.block g9 OF.out.lt).trans OF.out); have n3 := Aside0.mk (below_lower HB.out hb HB.out.size); clear BK OF HB; have BK := n1; have OF := n2; have HB := n3; clear n1 n2 n3; have n4 := Aside0.mk (Kd.C_below C3.out hb); clear C3 hb; have C3 := n4; clear n4; have hp0 := PBlk.c0 BK.out; have hp1 := PBlk.c1 BK.out; have hp2 := PBlk.c2 BK.out; have hp3 := PBlk.c3 BK.out; have hpf0 := PBlk.fz BK.out 0; have hpf1 := PBlk.fz BK.out 1; have hpf2 := PBlk.fz BK.out 2; have hpf3 := PBlk.fz BK.out 3; have ho0 := PBlk.c0 OF.out; have ho1 := PBlk.c1 OF.out; have ho2 := PBlk.c2 OF.out; have ho3 := PBlk.c3 OF.out; have hof0 := PBlk.fz OF.out 0; have hof1 := PBlk.fz OF.out 1; have hof2 := PBlk.fz OF.out 2; have hof3 := PBlk.fz OF.out 3))
            refine bodyPost_ret (results_ctt rfl _ _ g2 29 #[.int .i64 st, .int .i64 sz, .bool false, .bool false] (0, 0) _ rfl (((((PBlk.far BK.out (p := ⟨g9, 3, none⟩) HNC.out (.bool false)).s0 st).s1 sz).s2 false).s3 false) Tryd.underlying29 rfl (by kernel_rfl)) rfl ?_
            exact ⟨rfl, (((((HB.out.setCell (p := ⟨g9, 3, none⟩) HGE.out (.bool false))).setCell (p := ⟨g2, 0, none⟩) (by rw [HG2.out]; exact Nat.le_refl _) _).setCell (p := ⟨g2, 1, none⟩) (by rw [HG2.out]; exact Nat.le_refl _) _).setCell (p := ⟨g2, 2, none⟩) (by rw [HG2.out]; exact Nat.le_refl _) _).setCell (p := ⟨g2, 3, none⟩) (by rw [HG2.out]; exact Nat.le_refl _) _⟩
      ·have yz : decide (sz ≥ 0) = false := decide_eq_false cz
       have yz2 : decide (0 ≤ sz) = false := decide_eq_false cz
       rw [if_neg cz] at h
       cases k0 with
       | zero => exact absurd h (by simp [odometerref06_Parse.j1])
       | succ k1 =>
        simp only [odometerref06_Parse.j1] at h
        rw [if_neg (by decide)] at h
        by_cases cl : (cd.length : Int) > 0
        ·have yl : decide ((cd.length : Int) > 0) = true := decide_eq_true cl
         have yl2 : decide (0 < cd.length) = true := decide_eq_true (by omega)
         rw [if_pos cl] at h
         by_cases cl1 : (cd.length : Int) > 1
         ·have ym : decide ((cd.length : Int) > 1) = true := decide_eq_true cl1
          have ym2 : decide (1 < cd.length) = true := decide_eq_true (by omega)
          rw [if_pos cl1] at h
          clear cz cl cl1
          cases k1 with
          | zero => exact absurd h (by simp [odometerref06_Parse.j2])
          | succ k2 =>
           simp only [odometerref06_Parse.j2] at h
           rw [if_pos trivial] at h
           simp only [Option.some.injEq, Prod.mk.injEq] at h
           obtain ⟨rfl, rfl, rfl, rfl, rfl, rfl⟩ := h
           go_wp2
           refine bodyPost_ret (results_ctt rfl _ _ g2 29 #[.int .i64 0, .int .i64 0, .bool false, .bool false] (0, 0) _ rfl ((((PBlk.s0 BK.out 0).s1 0).s2 false).s3 false) Tryd.underlying29 rfl (by kernel_rfl)) rfl ?_
           exact ⟨rfl, ((((HB.out).setCell (p := ⟨g2, 0, none⟩) (by rw [HG2.out]; exact Nat.le_refl _) _).setCell (p := ⟨g2, 1, none⟩) (by rw [HG2.out]; exact Nat.le_refl _) _).setCell (p := ⟨g2, 2, none⟩) (by rw [HG2.out]; exact Nat.le_refl _) _).setCell (p := ⟨g2, 3, none⟩) (by rw [HG2.out]; exact Nat.le_refl _) _⟩
         ·have ym : decide ((cd.length : Int) > 1) = false := decide_eq_false cl1
          have ym2 : decide (1 < cd.length) = false := decide_eq_false (by omega)
          rw [if_neg cl1, if_pos (by omega)] at h
          have HL1 := Aside0.mk (show cd.length = 1 by omega)
          have q0 : (0 < cd.length) = True := eq_true (by omega)
          have q0i : ((0 : Int) < (cd.length : Int)) = True := eq_true (by omega)
          rw [yl] at h
          replace h := Option.bind_eq_some_iff.mp h
          obtain ⟨s, hr, h⟩ := h
          have HSM := Aside0.mk hr
          try dsimp only at h
          clear hr
          clear cl cl1
          obtain ⟨ad, ea, hx0⟩ := Kd.at_string C2.out 0 (by decide) (by have := HL1.out; omega)
          subst ea
          have hx1 : w3.cell? ad = some (.string (rdOf ByteArray.empty cd 0)) := hx0
          clear hx0
          by_cases cs : s.toList = ([99, 104, 117, 110, 107, 101, 100] : List UInt8)
          ·rw [if_pos cs] at h
           have ys : (s.toList != ([99, 104, 117, 110, 107, 101, 100] : List UInt8)) = false := bne_eq_false_iff_eq.mpr cs
           have ys2 : (s.toList == ([99, 104, 117, 110, 107, 101, 100] : List UInt8)) = true := beq_iff_eq.mpr cs
           clear cs
           by_cases co7 : (bt line 7 == 48) = true
           ·rw [co7] at h
            clear cz
            cases k1 with
            | zero => exact absurd h (by simp [odometerref06_Parse.j2])
            | succ k2 =>
             simp only [odometerref06_Parse.j2] at h
             rw [if_pos trivial] at h
             simp only [Option.some.injEq, Prod.mk.injEq] at h
             obtain ⟨rfl, rfl, rfl, rfl, rfl, rfl⟩ := h
             go_wp2_with (first | (go_at_call 43; (with_reducible refine (odometerref06_Small.calls (rdOf ByteArray.empty cd 0) s _ HSM.out).mono ?_); rintro x w4 ⟨rfl, hb⟩; have n1 := Aside0.mk (show PBlk w4 g2 0 0 false false from (hb.block g2 BK.out.lt).trans BK.out); have n2 := Aside0.mk (show PBlk w4 wA.heap.size 0 0 false false from (hb.block _ NK.out.lt).trans NK.out); have n3 := Aside0.mk (below_lower HB.out hb HB.out.size); have n4 := Aside0.mk (Kd.C_below RC.out hb); clear hp0 hp1 hp2 hp3 hpf0 hpf1 hpf2 hpf3 hn0 hn1 hn2 hn3; clear BK NK HB RC; have BK := n1; have NK := n2; have HB := n3; have RC := n4; clear n1 n2 n3 n4; clear hb hx1; have hp0 := PBlk.c0 BK.out; have hp1 := PBlk.c1 BK.out; have hp2 := PBlk.c2 BK.out; have hp3 := PBlk.c3 BK.out; have hpf0 := PBlk.fz BK.out 0; have hpf1 := PBlk.fz BK.out 1; have hpf2 := PBlk.fz BK.out 2; have hpf3 := PBlk.fz BK.out 3; have hn0 := PBlk.c0 NK.out; have hn1 := PBlk.c1 NK.out; have hn2 := PBlk.c2 NK.out; have hn3 := PBlk.c3 NK.out))
             refine bodyPost_ret (results_ctt rfl _ _ g2 29 #[.int .i64 0, .int .i64 0, .bool false, .bool false] (0, 0) _ rfl ((((PBlk.s0 BK.out 0).s1 0).s2 false).s3 false) Tryd.underlying29 rfl (by kernel_rfl)) rfl ?_
             exact ⟨rfl, ((((HB.out).setCell (p := ⟨g2, 0, none⟩) (by rw [HG2.out]; exact Nat.le_refl _) _).setCell (p := ⟨g2, 1, none⟩) (by rw [HG2.out]; exact Nat.le_refl _) _).setCell (p := ⟨g2, 2, none⟩) (by rw [HG2.out]; exact Nat.le_refl _) _).setCell (p := ⟨g2, 3, none⟩) (by rw [HG2.out]; exact Nat.le_refl _) _⟩
           ·replace co7 := Bool.eq_false_iff.mpr co7
            rw [co7] at h
            go_upto_region 13 with (first | (go_at_call 43; (with_reducible refine (odometerref06_Small.calls (rdOf ByteArray.empty cd 0) s _ HSM.out).mono ?_); rintro x w4 ⟨rfl, hb⟩; have n1 := Aside0.mk (show PBlk w4 g2 0 0 false false from (hb.block g2 BK.out.lt).trans BK.out); have n2 := Aside0.mk (show PBlk w4 wA.heap.size 0 0 false false from (hb.block _ NK.out.lt).trans NK.out); have n3 := Aside0.mk (below_lower HB.out hb HB.out.size); have n4 := Aside0.mk (Kd.C_below RC.out hb); clear hp0 hp1 hp2 hp3 hpf0 hpf1 hpf2 hpf3 hn0 hn1 hn2 hn3; clear BK NK HB RC; have BK := n1; have NK := n2; have HB := n3; have RC := n4; clear n1 n2 n3 n4; clear hb hx1; have hp0 := PBlk.c0 BK.out; have hp1 := PBlk.c1 BK.out; have hp2 := PBlk.c2 BK.out; have hp3 := PBlk.c3 BK.out; have hpf0 := PBlk.fz BK.out 0; have hpf1 := PBlk.fz BK.out 1; have hpf2 := PBlk.fz BK.out 2; have hpf3 := PBlk.fz BK.out 3; have hn0 := PBlk.c0 NK.out; have hn1 := PBlk.c1 NK.out; have hn2 := PBlk.c2 NK.out; have hn3 := PBlk.c3 NK.out))
            cases k1 with
            | zero => exact absurd h (by simp [odometerref06_Parse.j2])
            | succ k2 =>
             simp only [odometerref06_Parse.j2] at h
             rw [if_neg (by decide)] at h
             by_cases c9 : 9 < (line.size : Int)
             case neg => exact absurd h (by rw [if_neg c9]; simp)
             rw [if_pos c9] at h
             by_cases c10 : 10 < (line.size : Int)
             case neg => exact absurd h (by rw [if_neg c10]; simp)
             rw [if_pos c10] at h
             by_cases c11 : 11 < (line.size : Int)
             case neg => exact absurd h (by rw [if_neg c11]; simp)
             rw [if_pos c11] at h
             have q9 : (9 < line.size) = True := eq_true (by omega)
             have q9i : ((9 : Int) < (line.size : Int)) = True := eq_true c9
             have hx9 : ∀ h : 9 < line.size, ((line[9]'h).toNat : Int) = bt line 9 := bt_at line 9
             have q10 : (10 < line.size) = True := eq_true (by omega)
             have q10i : ((10 : Int) < (line.size : Int)) = True := eq_true c10
             have hx10 : ∀ h : 10 < line.size, ((line[10]'h).toNat : Int) = bt line 10 := bt_at line 10
             have q11 : (11 < line.size) = True := eq_true (by omega)
             have q11i : ((11 : Int) < (line.size : Int)) = True := eq_true c11
             have hx11 : ∀ h : 11 < line.size, ((line[11]'h).toNat : Int) = bt line 11 := bt_at line 11
             clear c9 c10 c11
             have hst := st_val (bt line 9) (bt line 10) (bt line 11) (bt_range line 9) (bt_range line 10) (bt_range line 11)
             obtain ⟨st, hst2⟩ : ∃ st, st = ((100 * (((bt line 9) - 48) % 256)) + (10 * (((bt line 10) - 48) % 256))) + (((bt line 11) - 48) % 256) := ⟨_, rfl⟩
             rw [← hst2] at h hst
             have HST := Aside0.mk hst
             clear hst hst2
             replace h := Option.bind_eq_some_iff.mp h
             obtain ⟨sd, hr, h⟩ := h
             have HV3 := Aside0.mk hr
             try dsimp only at h
             clear hr
             replace h := Option.bind_eq_some_iff.mp h
             obtain ⟨t1, hr, h⟩ := h
             have HS1 := Aside0.mk hr
             try dsimp only at h
             clear hr
             have H := Aside0.mk h
             clear h
             refine start_ (n := 21) (S := fun w' => True) (ds := []) ar0 (by kernel_rfl) rfl rfl trivial (fun hHeld => ?_); refine with_tabW odometerref06_Parse.tab13 odometerref06_Parse.bits13 (fun HT_ HW_ => ?_)
             have BKd := Aside0.mk (show PBlk (World.drew w4) g2 0 0 false false from BK.out)
             have HBd := Aside0.mk (below_drew1 HB.out)
             have RCd := Aside0.mk (Kd.C_drew RC.out)
             clear BK NK HB RC
             clear hp0 hp1 hp2 hp3 hpf0 hpf1 hpf2 hpf3 hn0 hn1 hn2 hn3
             generalize World.drew w4 = wd at BKd HBd RCd hHeld ⊢
             refine pure_ (i := 0) (N := some 76) (v := ?_) (a' := ?_) ar1 rfl rfl (any_of HT_.out (by kernel_rfl)) (fun _ _ _ h => h) (Or.inl ⟨by rfl, ?_⟩) ?_ ?_
             rotate_left
             ·intro w'
              go_simp
              with_reducible rfl
             rotate_left
             ·simp only [Act.put, List.setIfInBounds_toArray, List.set_cons_zero, List.set_cons_succ, i64_w, i32_w]
              rfl
             refine pure_ (i := 5) (N := some 81) (v := ?_) (a' := ?_) ar2 rfl rfl (any_of HT_.out (by kernel_rfl)) (fun _ _ _ h => h) (Or.inl ⟨by rfl, ?_⟩) ?_ ?_
             rotate_left
             ·intro w'
              go_simp
              with_reducible rfl
             rotate_left
             ·simp only [Act.put, List.setIfInBounds_toArray, List.set_cons_zero, List.set_cons_succ, i64_w, i32_w]
              rfl
             refine pure_ (i := 11) (N := some 87) (v := ?_) (a' := ?_) ar3 rfl rfl (any_of HT_.out (by kernel_rfl)) (fun _ _ _ h => h) (Or.inl ⟨by rfl, ?_⟩) ?_ ?_
             rotate_left
             ·intro w'
              go_simp
              with_reducible rfl
             rotate_left
             ·simp only [Act.put, List.setIfInBounds_toArray, List.set_cons_zero, List.set_cons_succ, i64_w, i32_w]
              rfl
             refine pure_ (i := 16) (N := some 92) (v := ?_) (a' := ?_) ar4 rfl rfl (any_of HT_.out (by kernel_rfl)) (fun _ _ _ h => h) (Or.inl ⟨by rfl, ?_⟩) ?_ ?_
             rotate_left
             ·intro w'
              go_simp
              with_reducible rfl
             rotate_left
             ·simp only [Act.put, List.setIfInBounds_toArray, List.set_cons_zero, List.set_cons_succ, i64_w, i32_w]
              rfl
             refine pure_ (i := 17) (N := some 93) (v := ?_) (a' := ?_) ar5 rfl rfl (any_of HT_.out (by kernel_rfl)) (fun _ _ _ h => h) (Or.inl ⟨by rfl, ?_⟩) ?_ ?_
             rotate_left
             ·intro w'
              go_simp
              with_reducible rfl
             rotate_left
             ·simp only [Act.put, List.setIfInBounds_toArray, List.set_cons_zero, List.set_cons_succ, i64_w, i32_w]
              rfl
             refine take_ (i := 1) (N := some 77) (v := ?_) (a' := ?_) ar6 rfl rfl (take_ofW HT_.out HW_.out (by kernel_rfl)) (fun _ _ _ h => h) (Or.inl ⟨by rfl, ?_⟩) hHeld ?_ ?_
             rotate_left
             ·intro w' _
              go_simp
              with_reducible rfl
             rotate_left
             ·simp only [Act.put, List.setIfInBounds_toArray, List.set_cons_zero, List.set_cons_succ, i64_w, i32_w]
              rfl
             refine pure_ (i := 2) (N := some 78) (v := ?_) (a' := ?_) ar7 rfl rfl (any_of HT_.out (by kernel_rfl)) (fun _ _ _ h => h) (Or.inl ⟨by rfl, ?_⟩) ?_ ?_
             rotate_left
             ·intro w'
              go_simp
              with_reducible rfl
             rotate_left
             ·simp only [Act.put, List.setIfInBounds_toArray, List.set_cons_zero, List.set_cons_succ, i64_w, i32_w]
              rfl
             refine pure_ (i := 3) (N := some 79) (v := ?_) (a' := ?_) ar8 rfl rfl (any_of HT_.out (by kernel_rfl)) (fun _ _ _ h => h) (Or.inl ⟨by rfl, ?_⟩) ?_ ?_
             rotate_left
             ·intro w'
              go_simp
              with_reducible rfl
             rotate_left
             ·simp only [Act.put, List.setIfInBounds_toArray, List.set_cons_zero, List.set_cons_succ, i64_w, i32_w]
              rfl
             refine pure_ (i := 4) (N := some 80) (v := ?_) (a' := ?_) ar9 rfl rfl (any_of HT_.out (by kernel_rfl)) (fun _ _ _ h => h) (Or.inl ⟨by rfl, ?_⟩) ?_ ?_
             rotate_left
             ·intro w'
              go_simp
              with_reducible rfl
             rotate_left
             ·simp only [Act.put, List.setIfInBounds_toArray, List.set_cons_zero, List.set_cons_succ, i64_w, i32_w]
              rfl
             refine take_ (i := 6) (N := some 82) (v := ?_) (a' := ?_) ar10 rfl rfl (take_ofW HT_.out HW_.out (by kernel_rfl)) (fun _ _ _ h => h) (Or.inl ⟨by rfl, ?_⟩) hHeld ?_ ?_
             rotate_left
             ·intro w' _
              go_simp
              with_reducible rfl
             rotate_left
             ·simp only [Act.put, List.setIfInBounds_toArray, List.set_cons_zero, List.set_cons_succ, i64_w, i32_w]
              rfl
             refine pure_ (i := 7) (N := some 83) (v := ?_) (a' := ?_) ar11 rfl rfl (any_of HT_.out (by kernel_rfl)) (fun _ _ _ h => h) (Or.inl ⟨by rfl, ?_⟩) ?_ ?_
             rotate_left
             ·intro w'
              go_simp
              with_reducible rfl
             rotate_left
             ·simp only [Act.put, List.setIfInBounds_toArray, List.set_cons_zero, List.set_cons_succ, i64_w, i32_w]
              rfl
             refine pure_ (i := 8) (N := some 84) (v := ?_) (a' := ?_) ar12 rfl rfl (any_of HT_.out (by kernel_rfl)) (fun _ _ _ h => h) (Or.inl ⟨by rfl, ?_⟩) ?_ ?_
             rotate_left
             ·intro w'
              go_simp
              with_reducible rfl
             rotate_left
             ·simp only [Act.put, List.setIfInBounds_toArray, List.set_cons_zero, List.set_cons_succ, i64_w, i32_w]
              rfl
             refine pure_ (i := 9) (N := some 85) (v := ?_) (a' := ?_) ar13 rfl rfl (any_of HT_.out (by kernel_rfl)) (fun _ _ _ h => h) (Or.inl ⟨by rfl, ?_⟩) ?_ ?_
             rotate_left
             ·intro w'
              go_simp
              with_reducible rfl
             rotate_left
             ·simp only [Act.put, List.setIfInBounds_toArray, List.set_cons_zero, List.set_cons_succ, i64_w, i32_w]
              rfl
             refine pure_ (i := 10) (N := some 86) (v := ?_) (a' := ?_) ar14 rfl rfl (any_of HT_.out (by kernel_rfl)) (fun _ _ _ h => h) (Or.inl ⟨by rfl, ?_⟩) ?_ ?_
             rotate_left
             ·intro w'
              go_simp
              with_reducible rfl
             rotate_left
             ·simp only [Act.put, List.setIfInBounds_toArray, List.set_cons_zero, List.set_cons_succ, i64_w, i32_w]
              rfl
             refine take_ (i := 12) (N := some 88) (v := ?_) (a' := ?_) ar15 rfl rfl (take_ofW HT_.out HW_.out (by kernel_rfl)) (fun _ _ _ h => h) (Or.inl ⟨by rfl, ?_⟩) hHeld ?_ ?_
             rotate_left
             ·intro w' _
              go_simp
              with_reducible rfl
             rotate_left
             ·simp only [Act.put, List.setIfInBounds_toArray, List.set_cons_zero, List.set_cons_succ, i64_w, i32_w]
              rfl
             refine pure_ (i := 13) (N := some 89) (v := ?_) (a' := ?_) ar16 rfl rfl (any_of HT_.out (by kernel_rfl)) (fun _ _ _ h => h) (Or.inl ⟨by rfl, ?_⟩) ?_ ?_
             rotate_left
             ·intro w'
              go_simp
              with_reducible rfl
             rotate_left
             ·simp only [Act.put, List.setIfInBounds_toArray, List.set_cons_zero, List.set_cons_succ, i64_w, i32_w]
              rfl
             refine pure_ (i := 14) (N := some 90) (v := ?_) (a' := ?_) ar17 rfl rfl (any_of HT_.out (by kernel_rfl)) (fun _ _ _ h => h) (Or.inl ⟨by rfl, ?_⟩) ?_ ?_
             rotate_left
             ·intro w'
              go_simp
              with_reducible rfl
             rotate_left
             ·simp only [Act.put, List.setIfInBounds_toArray, List.set_cons_zero, List.set_cons_succ, i64_w, i32_w]
              rfl
             refine pure_ (i := 15) (N := some 91) (v := ?_) (a' := ?_) ar18 rfl rfl (any_of HT_.out (by kernel_rfl)) (fun _ _ _ h => h) (Or.inl ⟨by rfl, ?_⟩) ?_ ?_
             rotate_left
             ·intro w'
              go_simp
              with_reducible rfl
             rotate_left
             ·simp only [Act.put, List.setIfInBounds_toArray, List.set_cons_zero, List.set_cons_succ, i64_w, i32_w]
              rfl
             refine pure_ (i := 18) (N := some 94) (v := ?_) (a' := ?_) ar19 rfl rfl (any_of HT_.out (by kernel_rfl)) (fun _ _ _ h => h) (Or.inl ⟨by rfl, ?_⟩) ?_ ?_
             rotate_left
             ·intro w'
              go_simp
              with_reducible rfl
             rotate_left
             ·simp only [Act.put, List.setIfInBounds_toArray, List.set_cons_zero, List.set_cons_succ, i64_w, i32_w]
              rfl
             refine one_ (i := 19) (N := some 15) ar20 rfl rfl (one_of HT_.out (by kernel_rfl)) (by decide) (fun K hK => ?_)
             refine box_step ?hg (N := 15) ?hd (cs := #[.int .i64 0, .int .i64 0, .bool false, .bool false]) (t := 29) ?hr ?_; (case hd => rfl); (case hg => rfl); (case hr => first | (go_simp; done) | (go_simp; rfl))
             intro g9 hg wB hbox hb
             have O0 := Aside0.mk (show PBlk wB g9 0 0 false false from hbox)
             have HB0 := Aside0.mk hb
             have HGD := Aside0.mk (show wd.heap.size ≤ g9 by rw [hg]; exact Nat.le_refl _)
             have HGE := Aside0.mk (show w.heap.size ≤ g9 by rw [hg]; exact HBd.out.size)
             have HNC := Aside0.mk (show g2 ≠ g9 by rw [hg]; exact Nat.ne_of_lt BKd.out.lt)
             clear hb hbox hg
             refine hK.out _ _ trivial (fun hHeld => ?_)
             clear hK K
             refine norm_ (a' := ?_) ?_ ?_
             rotate_left
             ·show Act.put _ (some 15) _ = _
              simp only [Act.put, List.setIfInBounds_toArray, List.set_cons_zero, List.set_cons_succ, i64_w, i32_w]
              rfl
             refine one_ (i := 20) (N := none) ar21 rfl rfl (one_of HT_.out (by kernel_rfl)) (by decide) (fun K hK => ?_)
             have hs0 := O0.out.c0
             have hfs0 := O0.out.fz 0
             have hs1 := O0.out.c1
             have hfs1 := O0.out.fz 1
             have hs2 := O0.out.c2
             have hfs2 := O0.out.fz 2
             have hs3 := O0.out.c3
             have hfs3 := O0.out.fz 3
             refine skip_ (w1 := ?_) (by rfl) rfl ?_ ?_
             rotate_left
             ·go_simp
              rfl
             refine hK.out _ _ trivial (fun hHeld => ?_)
             clear hK K hs0 hs1 hs2 hs3 hfs0 hfs1 hfs2 hfs3
             refine done_ (done_of HT_.out (by kernel_rfl)) ?_
             rw [HST.out]
             have OF := Aside0.mk ((((O0.out.s0 st).s1 sz).s2 true).s3 false)
             have hb := (Below.setCell (p := ⟨g9, 3, none⟩) (Below.setCell (p := ⟨g9, 2, none⟩) (Below.setCell (p := ⟨g9, 1, none⟩) (Below.setCell (p := ⟨g9, 0, none⟩) HB0.out HGD.out (.int .i64 st)) HGD.out (.int .i64 sz)) HGD.out (.bool true)) HGD.out (.bool false))
             clear O0 HB0
             generalize (World.setCell (World.setCell (World.setCell (World.setCell wB ⟨g9, 0, none⟩ (.int .i64 st)) ⟨g9, 1, none⟩ (.int .i64 sz)) ⟨g9, 2, none⟩ (.bool true)) ⟨g9, 3, none⟩ (.bool false)) = wf at OF hb ⊢
             have BK := Aside0.mk (show PBlk wf g2 0 0 false false from (hb.block g2 BKd.out.lt).trans BKd.out)
             have HB := Aside0.mk (below_lower HBd.out hb HBd.out.size)
             have RC := Aside0.mk (Kd.C_below RCd.out hb)
             have hneC := HNC.out
             have hneD : g9 ≠ g2 := fun h => hneC h.symm
             clear BKd HBd RCd hb
             go_upto_region 15 with (first | (go_at_call 42; (with_reducible refine (odometerref06_Values.calls k2 Av cv l conn_ sd _ RC.out RL.out HV3.out).mono ?_); rintro x w5 ⟨v3, rfl, hR, hb⟩; obtain ⟨A3, c3, rfl⟩ := Kd.R_slice hR; have C3 := Aside0.mk (Kd.R_reads' hR).2.2; have L3 := Aside0.mk (Kd.R_reads' hR).2.1; have n1 := Aside0.mk (show PBlk w5 g2 0 0 false false from (hb.block g2 BK.out.lt).trans BK.out); have n2 := Aside0.mk (show PBlk w5 g9 st sz true false from (hb.block g9 OF.out.lt).trans OF.out); have n3 := Aside0.mk (below_lower HB.out hb HB.out.size); clear BK OF HB; have BK := n1; have OF := n2; have HB := n3; clear n1 n2 n3; clear hR hb RC))
             clear HV3
             have h := H.out
             clear H
             cases t1 with
             | true =>
              rw [if_pos rfl] at h
              simp only [Option.some.injEq, Prod.mk.injEq] at h
              obtain ⟨rfl, rfl, rfl, rfl, rfl, rfl⟩ := h
              go_wp2_with (first | (go_at_call 44; (with_reducible refine (odometerref06_Says.calls k2 A3 c3 sd clos true _ C3.out L3.out HS1.out).mono ?_); rintro x w6 ⟨rfl, hb⟩; have n1 := Aside0.mk (show PBlk w6 g2 0 0 false false from (hb.block g2 BK.out.lt).trans BK.out); have n2 := Aside0.mk (show PBlk w6 g9 st sz true false from (hb.block g9 OF.out.lt).trans OF.out); have n3 := Aside0.mk (below_lower HB.out hb HB.out.size); clear BK OF HB; have BK := n1; have OF := n2; have HB := n3; clear n1 n2 n3; have n4 := Aside0.mk (Kd.C_below C3.out hb); clear C3 hb; have C3 := n4; clear n4; have hp0 := PBlk.c0 BK.out; have hp1 := PBlk.c1 BK.out; have hp2 := PBlk.c2 BK.out; have hp3 := PBlk.c3 BK.out; have hpf0 := PBlk.fz BK.out 0; have hpf1 := PBlk.fz BK.out 1; have hpf2 := PBlk.fz BK.out 2; have hpf3 := PBlk.fz BK.out 3; have ho0 := PBlk.c0 OF.out; have ho1 := PBlk.c1 OF.out; have ho2 := PBlk.c2 OF.out; have ho3 := PBlk.c3 OF.out; have hof0 := PBlk.fz OF.out 0; have hof1 := PBlk.fz OF.out 1; have hof2 := PBlk.fz OF.out 2; have hof3 := PBlk.fz OF.out 3))
              refine bodyPost_ret (results_ctt rfl _ _ g2 29 #[.int .i64 st, .int .i64 sz, .bool true, .bool true] (0, 0) _ rfl (((((PBlk.far BK.out (p := ⟨g9, 3, none⟩) HNC.out (.bool true)).s0 st).s1 sz).s2 true).s3 true) Tryd.underlying29 rfl (by kernel_rfl)) rfl ?_
              exact ⟨rfl, (((((HB.out.setCell (p := ⟨g9, 3, none⟩) HGE.out (.bool true))).setCell (p := ⟨g2, 0, none⟩) (by rw [HG2.out]; exact Nat.le_refl _) _).setCell (p := ⟨g2, 1, none⟩) (by rw [HG2.out]; exact Nat.le_refl _) _).setCell (p := ⟨g2, 2, none⟩) (by rw [HG2.out]; exact Nat.le_refl _) _).setCell (p := ⟨g2, 3, none⟩) (by rw [HG2.out]; exact Nat.le_refl _) _⟩
             | false =>
              rw [if_neg (by decide)] at h
              rw [if_pos (by omega)] at h
              rw [if_pos trivial] at h
              rw [if_neg (by decide)] at h
              simp only [Option.some.injEq, Prod.mk.injEq] at h
              obtain ⟨rfl, rfl, rfl, rfl, rfl, rfl⟩ := h
              go_wp2_with (first | (go_at_call 44; (with_reducible refine (odometerref06_Says.calls k2 A3 c3 sd clos false _ C3.out L3.out HS1.out).mono ?_); rintro x w6 ⟨rfl, hb⟩; have n1 := Aside0.mk (show PBlk w6 g2 0 0 false false from (hb.block g2 BK.out.lt).trans BK.out); have n2 := Aside0.mk (show PBlk w6 g9 st sz true false from (hb.block g9 OF.out.lt).trans OF.out); have n3 := Aside0.mk (below_lower HB.out hb HB.out.size); clear BK OF HB; have BK := n1; have OF := n2; have HB := n3; clear n1 n2 n3; have n4 := Aside0.mk (Kd.C_below C3.out hb); clear C3 hb; have C3 := n4; clear n4; have hp0 := PBlk.c0 BK.out; have hp1 := PBlk.c1 BK.out; have hp2 := PBlk.c2 BK.out; have hp3 := PBlk.c3 BK.out; have hpf0 := PBlk.fz BK.out 0; have hpf1 := PBlk.fz BK.out 1; have hpf2 := PBlk.fz BK.out 2; have hpf3 := PBlk.fz BK.out 3; have ho0 := PBlk.c0 OF.out; have ho1 := PBlk.c1 OF.out; have ho2 := PBlk.c2 OF.out; have ho3 := PBlk.c3 OF.out; have hof0 := PBlk.fz OF.out 0; have hof1 := PBlk.fz OF.out 1; have hof2 := PBlk.fz OF.out 2; have hof3 := PBlk.fz OF.out 3))
              refine bodyPost_ret (results_ctt rfl _ _ g2 29 #[.int .i64 st, .int .i64 sz, .bool true, .bool false] (0, 0) _ rfl (((((PBlk.far BK.out (p := ⟨g9, 3, none⟩) HNC.out (.bool false)).s0 st).s1 sz).s2 true).s3 false) Tryd.underlying29 rfl (by kernel_rfl)) rfl ?_
              exact ⟨rfl, (((((HB.out.setCell (p := ⟨g9, 3, none⟩) HGE.out (.bool false))).setCell (p := ⟨g2, 0, none⟩) (by rw [HG2.out]; exact Nat.le_refl _) _).setCell (p := ⟨g2, 1, none⟩) (by rw [HG2.out]; exact Nat.le_refl _) _).setCell (p := ⟨g2, 2, none⟩) (by rw [HG2.out]; exact Nat.le_refl _) _).setCell (p := ⟨g2, 3, none⟩) (by rw [HG2.out]; exact Nat.le_refl _) _⟩
          ·rw [if_neg cs] at h
           have ys : (s.toList != ([99, 104, 117, 110, 107, 101, 100] : List UInt8)) = true := bne_iff_ne.mpr cs
           have ys2 : (s.toList == ([99, 104, 117, 110, 107, 101, 100] : List UInt8)) = false := beq_eq_false_iff_ne.mpr cs
           clear cs cz
           cases k1 with
           | zero => exact absurd h (by simp [odometerref06_Parse.j2])
           | succ k2 =>
            simp only [odometerref06_Parse.j2] at h
            rw [if_pos trivial] at h
            simp only [Option.some.injEq, Prod.mk.injEq] at h
            obtain ⟨rfl, rfl, rfl, rfl, rfl, rfl⟩ := h
            go_wp2_with (first | (go_at_call 43; (with_reducible refine (odometerref06_Small.calls (rdOf ByteArray.empty cd 0) s _ HSM.out).mono ?_); rintro x w4 ⟨rfl, hb⟩; have n1 := Aside0.mk (show PBlk w4 g2 0 0 false false from (hb.block g2 BK.out.lt).trans BK.out); have n2 := Aside0.mk (show PBlk w4 wA.heap.size 0 0 false false from (hb.block _ NK.out.lt).trans NK.out); have n3 := Aside0.mk (below_lower HB.out hb HB.out.size); have n4 := Aside0.mk (Kd.C_below RC.out hb); clear hp0 hp1 hp2 hp3 hpf0 hpf1 hpf2 hpf3 hn0 hn1 hn2 hn3; clear BK NK HB RC; have BK := n1; have NK := n2; have HB := n3; have RC := n4; clear n1 n2 n3 n4; clear hb hx1; have hp0 := PBlk.c0 BK.out; have hp1 := PBlk.c1 BK.out; have hp2 := PBlk.c2 BK.out; have hp3 := PBlk.c3 BK.out; have hpf0 := PBlk.fz BK.out 0; have hpf1 := PBlk.fz BK.out 1; have hpf2 := PBlk.fz BK.out 2; have hpf3 := PBlk.fz BK.out 3; have hn0 := PBlk.c0 NK.out; have hn1 := PBlk.c1 NK.out; have hn2 := PBlk.c2 NK.out; have hn3 := PBlk.c3 NK.out))
            refine bodyPost_ret (results_ctt rfl _ _ g2 29 #[.int .i64 0, .int .i64 0, .bool false, .bool false] (0, 0) _ rfl ((((PBlk.s0 BK.out 0).s1 0).s2 false).s3 false) Tryd.underlying29 rfl (by kernel_rfl)) rfl ?_
            exact ⟨rfl, ((((HB.out).setCell (p := ⟨g2, 0, none⟩) (by rw [HG2.out]; exact Nat.le_refl _) _).setCell (p := ⟨g2, 1, none⟩) (by rw [HG2.out]; exact Nat.le_refl _) _).setCell (p := ⟨g2, 2, none⟩) (by rw [HG2.out]; exact Nat.le_refl _) _).setCell (p := ⟨g2, 3, none⟩) (by rw [HG2.out]; exact Nat.le_refl _) _⟩
        ·have yl : decide ((cd.length : Int) > 0) = false := decide_eq_false cl
         have yl2 : decide (0 < cd.length) = false := decide_eq_false (by omega)
         rw [if_neg cl, yl] at h
         obtain rfl : cd = [] := List.length_eq_zero_iff.mp (by omega)
         go_upto_region 13 with (fail)
         cases k1 with
         | zero => exact absurd h (by simp [odometerref06_Parse.j2])
         | succ k2 =>
          simp only [odometerref06_Parse.j2] at h
          rw [if_neg (by decide)] at h
          by_cases c9 : 9 < (line.size : Int)
          case neg => exact absurd h (by rw [if_neg c9]; simp)
          rw [if_pos c9] at h
          by_cases c10 : 10 < (line.size : Int)
          case neg => exact absurd h (by rw [if_neg c10]; simp)
          rw [if_pos c10] at h
          by_cases c11 : 11 < (line.size : Int)
          case neg => exact absurd h (by rw [if_neg c11]; simp)
          rw [if_pos c11] at h
          have q9 : (9 < line.size) = True := eq_true (by omega)
          have q9i : ((9 : Int) < (line.size : Int)) = True := eq_true c9
          have hx9 : ∀ h : 9 < line.size, ((line[9]'h).toNat : Int) = bt line 9 := bt_at line 9
          have q10 : (10 < line.size) = True := eq_true (by omega)
          have q10i : ((10 : Int) < (line.size : Int)) = True := eq_true c10
          have hx10 : ∀ h : 10 < line.size, ((line[10]'h).toNat : Int) = bt line 10 := bt_at line 10
          have q11 : (11 < line.size) = True := eq_true (by omega)
          have q11i : ((11 : Int) < (line.size : Int)) = True := eq_true c11
          have hx11 : ∀ h : 11 < line.size, ((line[11]'h).toNat : Int) = bt line 11 := bt_at line 11
          clear c9 c10 c11
          have hst := st_val (bt line 9) (bt line 10) (bt line 11) (bt_range line 9) (bt_range line 10) (bt_range line 11)
          obtain ⟨st, hst2⟩ : ∃ st, st = ((100 * (((bt line 9) - 48) % 256)) + (10 * (((bt line 10) - 48) % 256))) + (((bt line 11) - 48) % 256) := ⟨_, rfl⟩
          rw [← hst2] at h hst
          have HST := Aside0.mk hst
          clear hst hst2
          replace h := Option.bind_eq_some_iff.mp h
          obtain ⟨sd, hr, h⟩ := h
          have HV3 := Aside0.mk hr
          try dsimp only at h
          clear hr
          replace h := Option.bind_eq_some_iff.mp h
          obtain ⟨t1, hr, h⟩ := h
          have HS1 := Aside0.mk hr
          try dsimp only at h
          clear hr
          have H := Aside0.mk h
          clear h
          refine start_ (n := 21) (S := fun w' => True) (ds := []) ar0 (by kernel_rfl) rfl rfl trivial (fun hHeld => ?_); refine with_tabW odometerref06_Parse.tab13 odometerref06_Parse.bits13 (fun HT_ HW_ => ?_)
          have BKd := Aside0.mk (show PBlk (World.drew w3) g2 0 0 false false from BK.out)
          have HBd := Aside0.mk (below_drew1 HB.out)
          have RCd := Aside0.mk (Kd.C_drew RC.out)
          clear BK NK HB RC
          clear hp0 hp1 hp2 hp3 hpf0 hpf1 hpf2 hpf3 hn0 hn1 hn2 hn3
          generalize World.drew w3 = wd at BKd HBd RCd hHeld ⊢
          refine pure_ (i := 0) (N := some 76) (v := ?_) (a' := ?_) ar1 rfl rfl (any_of HT_.out (by kernel_rfl)) (fun _ _ _ h => h) (Or.inl ⟨by rfl, ?_⟩) ?_ ?_
          rotate_left
          ·intro w'
           go_simp
           with_reducible rfl
          rotate_left
          ·simp only [Act.put, List.setIfInBounds_toArray, List.set_cons_zero, List.set_cons_succ, i64_w, i32_w]
           rfl
          refine pure_ (i := 5) (N := some 81) (v := ?_) (a' := ?_) ar2 rfl rfl (any_of HT_.out (by kernel_rfl)) (fun _ _ _ h => h) (Or.inl ⟨by rfl, ?_⟩) ?_ ?_
          rotate_left
          ·intro w'
           go_simp
           with_reducible rfl
          rotate_left
          ·simp only [Act.put, List.setIfInBounds_toArray, List.set_cons_zero, List.set_cons_succ, i64_w, i32_w]
           rfl
          refine pure_ (i := 11) (N := some 87) (v := ?_) (a' := ?_) ar3 rfl rfl (any_of HT_.out (by kernel_rfl)) (fun _ _ _ h => h) (Or.inl ⟨by rfl, ?_⟩) ?_ ?_
          rotate_left
          ·intro w'
           go_simp
           with_reducible rfl
          rotate_left
          ·simp only [Act.put, List.setIfInBounds_toArray, List.set_cons_zero, List.set_cons_succ, i64_w, i32_w]
           rfl
          refine pure_ (i := 16) (N := some 92) (v := ?_) (a' := ?_) ar4 rfl rfl (any_of HT_.out (by kernel_rfl)) (fun _ _ _ h => h) (Or.inl ⟨by rfl, ?_⟩) ?_ ?_
          rotate_left
          ·intro w'
           go_simp
           with_reducible rfl
          rotate_left
          ·simp only [Act.put, List.setIfInBounds_toArray, List.set_cons_zero, List.set_cons_succ, i64_w, i32_w]
           rfl
          refine pure_ (i := 17) (N := some 93) (v := ?_) (a' := ?_) ar5 rfl rfl (any_of HT_.out (by kernel_rfl)) (fun _ _ _ h => h) (Or.inl ⟨by rfl, ?_⟩) ?_ ?_
          rotate_left
          ·intro w'
           go_simp
           with_reducible rfl
          rotate_left
          ·simp only [Act.put, List.setIfInBounds_toArray, List.set_cons_zero, List.set_cons_succ, i64_w, i32_w]
           rfl
          refine take_ (i := 1) (N := some 77) (v := ?_) (a' := ?_) ar6 rfl rfl (take_ofW HT_.out HW_.out (by kernel_rfl)) (fun _ _ _ h => h) (Or.inl ⟨by rfl, ?_⟩) hHeld ?_ ?_
          rotate_left
          ·intro w' _
           go_simp
           with_reducible rfl
          rotate_left
          ·simp only [Act.put, List.setIfInBounds_toArray, List.set_cons_zero, List.set_cons_succ, i64_w, i32_w]
           rfl
          refine pure_ (i := 2) (N := some 78) (v := ?_) (a' := ?_) ar7 rfl rfl (any_of HT_.out (by kernel_rfl)) (fun _ _ _ h => h) (Or.inl ⟨by rfl, ?_⟩) ?_ ?_
          rotate_left
          ·intro w'
           go_simp
           with_reducible rfl
          rotate_left
          ·simp only [Act.put, List.setIfInBounds_toArray, List.set_cons_zero, List.set_cons_succ, i64_w, i32_w]
           rfl
          refine pure_ (i := 3) (N := some 79) (v := ?_) (a' := ?_) ar8 rfl rfl (any_of HT_.out (by kernel_rfl)) (fun _ _ _ h => h) (Or.inl ⟨by rfl, ?_⟩) ?_ ?_
          rotate_left
          ·intro w'
           go_simp
           with_reducible rfl
          rotate_left
          ·simp only [Act.put, List.setIfInBounds_toArray, List.set_cons_zero, List.set_cons_succ, i64_w, i32_w]
           rfl
          refine pure_ (i := 4) (N := some 80) (v := ?_) (a' := ?_) ar9 rfl rfl (any_of HT_.out (by kernel_rfl)) (fun _ _ _ h => h) (Or.inl ⟨by rfl, ?_⟩) ?_ ?_
          rotate_left
          ·intro w'
           go_simp
           with_reducible rfl
          rotate_left
          ·simp only [Act.put, List.setIfInBounds_toArray, List.set_cons_zero, List.set_cons_succ, i64_w, i32_w]
           rfl
          refine take_ (i := 6) (N := some 82) (v := ?_) (a' := ?_) ar10 rfl rfl (take_ofW HT_.out HW_.out (by kernel_rfl)) (fun _ _ _ h => h) (Or.inl ⟨by rfl, ?_⟩) hHeld ?_ ?_
          rotate_left
          ·intro w' _
           go_simp
           with_reducible rfl
          rotate_left
          ·simp only [Act.put, List.setIfInBounds_toArray, List.set_cons_zero, List.set_cons_succ, i64_w, i32_w]
           rfl
          refine pure_ (i := 7) (N := some 83) (v := ?_) (a' := ?_) ar11 rfl rfl (any_of HT_.out (by kernel_rfl)) (fun _ _ _ h => h) (Or.inl ⟨by rfl, ?_⟩) ?_ ?_
          rotate_left
          ·intro w'
           go_simp
           with_reducible rfl
          rotate_left
          ·simp only [Act.put, List.setIfInBounds_toArray, List.set_cons_zero, List.set_cons_succ, i64_w, i32_w]
           rfl
          refine pure_ (i := 8) (N := some 84) (v := ?_) (a' := ?_) ar12 rfl rfl (any_of HT_.out (by kernel_rfl)) (fun _ _ _ h => h) (Or.inl ⟨by rfl, ?_⟩) ?_ ?_
          rotate_left
          ·intro w'
           go_simp
           with_reducible rfl
          rotate_left
          ·simp only [Act.put, List.setIfInBounds_toArray, List.set_cons_zero, List.set_cons_succ, i64_w, i32_w]
           rfl
          refine pure_ (i := 9) (N := some 85) (v := ?_) (a' := ?_) ar13 rfl rfl (any_of HT_.out (by kernel_rfl)) (fun _ _ _ h => h) (Or.inl ⟨by rfl, ?_⟩) ?_ ?_
          rotate_left
          ·intro w'
           go_simp
           with_reducible rfl
          rotate_left
          ·simp only [Act.put, List.setIfInBounds_toArray, List.set_cons_zero, List.set_cons_succ, i64_w, i32_w]
           rfl
          refine pure_ (i := 10) (N := some 86) (v := ?_) (a' := ?_) ar14 rfl rfl (any_of HT_.out (by kernel_rfl)) (fun _ _ _ h => h) (Or.inl ⟨by rfl, ?_⟩) ?_ ?_
          rotate_left
          ·intro w'
           go_simp
           with_reducible rfl
          rotate_left
          ·simp only [Act.put, List.setIfInBounds_toArray, List.set_cons_zero, List.set_cons_succ, i64_w, i32_w]
           rfl
          refine take_ (i := 12) (N := some 88) (v := ?_) (a' := ?_) ar15 rfl rfl (take_ofW HT_.out HW_.out (by kernel_rfl)) (fun _ _ _ h => h) (Or.inl ⟨by rfl, ?_⟩) hHeld ?_ ?_
          rotate_left
          ·intro w' _
           go_simp
           with_reducible rfl
          rotate_left
          ·simp only [Act.put, List.setIfInBounds_toArray, List.set_cons_zero, List.set_cons_succ, i64_w, i32_w]
           rfl
          refine pure_ (i := 13) (N := some 89) (v := ?_) (a' := ?_) ar16 rfl rfl (any_of HT_.out (by kernel_rfl)) (fun _ _ _ h => h) (Or.inl ⟨by rfl, ?_⟩) ?_ ?_
          rotate_left
          ·intro w'
           go_simp
           with_reducible rfl
          rotate_left
          ·simp only [Act.put, List.setIfInBounds_toArray, List.set_cons_zero, List.set_cons_succ, i64_w, i32_w]
           rfl
          refine pure_ (i := 14) (N := some 90) (v := ?_) (a' := ?_) ar17 rfl rfl (any_of HT_.out (by kernel_rfl)) (fun _ _ _ h => h) (Or.inl ⟨by rfl, ?_⟩) ?_ ?_
          rotate_left
          ·intro w'
           go_simp
           with_reducible rfl
          rotate_left
          ·simp only [Act.put, List.setIfInBounds_toArray, List.set_cons_zero, List.set_cons_succ, i64_w, i32_w]
           rfl
          refine pure_ (i := 15) (N := some 91) (v := ?_) (a' := ?_) ar18 rfl rfl (any_of HT_.out (by kernel_rfl)) (fun _ _ _ h => h) (Or.inl ⟨by rfl, ?_⟩) ?_ ?_
          rotate_left
          ·intro w'
           go_simp
           with_reducible rfl
          rotate_left
          ·simp only [Act.put, List.setIfInBounds_toArray, List.set_cons_zero, List.set_cons_succ, i64_w, i32_w]
           rfl
          refine pure_ (i := 18) (N := some 94) (v := ?_) (a' := ?_) ar19 rfl rfl (any_of HT_.out (by kernel_rfl)) (fun _ _ _ h => h) (Or.inl ⟨by rfl, ?_⟩) ?_ ?_
          rotate_left
          ·intro w'
           go_simp
           with_reducible rfl
          rotate_left
          ·simp only [Act.put, List.setIfInBounds_toArray, List.set_cons_zero, List.set_cons_succ, i64_w, i32_w]
           rfl
          refine one_ (i := 19) (N := some 15) ar20 rfl rfl (one_of HT_.out (by kernel_rfl)) (by decide) (fun K hK => ?_)
          refine box_step ?hg (N := 15) ?hd (cs := #[.int .i64 0, .int .i64 0, .bool false, .bool false]) (t := 29) ?hr ?_; (case hd => rfl); (case hg => rfl); (case hr => first | (go_simp; done) | (go_simp; rfl))
          intro g9 hg wB hbox hb
          have O0 := Aside0.mk (show PBlk wB g9 0 0 false false from hbox)
          have HB0 := Aside0.mk hb
          have HGD := Aside0.mk (show wd.heap.size ≤ g9 by rw [hg]; exact Nat.le_refl _)
          have HGE := Aside0.mk (show w.heap.size ≤ g9 by rw [hg]; exact HBd.out.size)
          have HNC := Aside0.mk (show g2 ≠ g9 by rw [hg]; exact Nat.ne_of_lt BKd.out.lt)
          clear hb hbox hg
          refine hK.out _ _ trivial (fun hHeld => ?_)
          clear hK K
          refine norm_ (a' := ?_) ?_ ?_
          rotate_left
          ·show Act.put _ (some 15) _ = _
           simp only [Act.put, List.setIfInBounds_toArray, List.set_cons_zero, List.set_cons_succ, i64_w, i32_w]
           rfl
          refine one_ (i := 20) (N := none) ar21 rfl rfl (one_of HT_.out (by kernel_rfl)) (by decide) (fun K hK => ?_)
          have hs0 := O0.out.c0
          have hfs0 := O0.out.fz 0
          have hs1 := O0.out.c1
          have hfs1 := O0.out.fz 1
          have hs2 := O0.out.c2
          have hfs2 := O0.out.fz 2
          have hs3 := O0.out.c3
          have hfs3 := O0.out.fz 3
          refine skip_ (w1 := ?_) (by rfl) rfl ?_ ?_
          rotate_left
          ·go_simp
           rfl
          refine hK.out _ _ trivial (fun hHeld => ?_)
          clear hK K hs0 hs1 hs2 hs3 hfs0 hfs1 hfs2 hfs3
          refine done_ (done_of HT_.out (by kernel_rfl)) ?_
          rw [HST.out]
          have OF := Aside0.mk ((((O0.out.s0 st).s1 sz).s2 false).s3 false)
          have hb := (Below.setCell (p := ⟨g9, 3, none⟩) (Below.setCell (p := ⟨g9, 2, none⟩) (Below.setCell (p := ⟨g9, 1, none⟩) (Below.setCell (p := ⟨g9, 0, none⟩) HB0.out HGD.out (.int .i64 st)) HGD.out (.int .i64 sz)) HGD.out (.bool false)) HGD.out (.bool false))
          clear O0 HB0
          generalize (World.setCell (World.setCell (World.setCell (World.setCell wB ⟨g9, 0, none⟩ (.int .i64 st)) ⟨g9, 1, none⟩ (.int .i64 sz)) ⟨g9, 2, none⟩ (.bool false)) ⟨g9, 3, none⟩ (.bool false)) = wf at OF hb ⊢
          have BK := Aside0.mk (show PBlk wf g2 0 0 false false from (hb.block g2 BKd.out.lt).trans BKd.out)
          have HB := Aside0.mk (below_lower HBd.out hb HBd.out.size)
          have RC := Aside0.mk (Kd.C_below RCd.out hb)
          have hneC := HNC.out
          have hneD : g9 ≠ g2 := fun h => hneC h.symm
          clear BKd HBd RCd hb
          go_upto_region 15 with (first | (go_at_call 42; (with_reducible refine (odometerref06_Values.calls k2 Av cv l conn_ sd _ RC.out RL.out HV3.out).mono ?_); rintro x w5 ⟨v3, rfl, hR, hb⟩; obtain ⟨A3, c3, rfl⟩ := Kd.R_slice hR; have C3 := Aside0.mk (Kd.R_reads' hR).2.2; have L3 := Aside0.mk (Kd.R_reads' hR).2.1; have n1 := Aside0.mk (show PBlk w5 g2 0 0 false false from (hb.block g2 BK.out.lt).trans BK.out); have n2 := Aside0.mk (show PBlk w5 g9 st sz false false from (hb.block g9 OF.out.lt).trans OF.out); have n3 := Aside0.mk (below_lower HB.out hb HB.out.size); clear BK OF HB; have BK := n1; have OF := n2; have HB := n3; clear n1 n2 n3; clear hR hb RC))
          clear HV3
          have h := H.out
          clear H
          cases t1 with
          | true =>
           rw [if_pos rfl] at h
           simp only [Option.some.injEq, Prod.mk.injEq] at h
           obtain ⟨rfl, rfl, rfl, rfl, rfl, rfl⟩ := h
           go_wp2_with (first | (go_at_call 44; (with_reducible refine (odometerref06_Says.calls k2 A3 c3 sd clos true _ C3.out L3.out HS1.out).mono ?_); rintro x w6 ⟨rfl, hb⟩; have n1 := Aside0.mk (show PBlk w6 g2 0 0 false false from (hb.block g2 BK.out.lt).trans BK.out); have n2 := Aside0.mk (show PBlk w6 g9 st sz false false from (hb.block g9 OF.out.lt).trans OF.out); have n3 := Aside0.mk (below_lower HB.out hb HB.out.size); clear BK OF HB; have BK := n1; have OF := n2; have HB := n3; clear n1 n2 n3; have n4 := Aside0.mk (Kd.C_below C3.out hb); clear C3 hb; have C3 := n4; clear n4; have hp0 := PBlk.c0 BK.out; have hp1 := PBlk.c1 BK.out; have hp2 := PBlk.c2 BK.out; have hp3 := PBlk.c3 BK.out; have hpf0 := PBlk.fz BK.out 0; have hpf1 := PBlk.fz BK.out 1; have hpf2 := PBlk.fz BK.out 2; have hpf3 := PBlk.fz BK.out 3; have ho0 := PBlk.c0 OF.out; have ho1 := PBlk.c1 OF.out; have ho2 := PBlk.c2 OF.out; have ho3 := PBlk.c3 OF.out; have hof0 := PBlk.fz OF.out 0; have hof1 := PBlk.fz OF.out 1; have hof2 := PBlk.fz OF.out 2; have hof3 := PBlk.fz OF.out 3))
           refine bodyPost_ret (results_ctt rfl _ _ g2 29 #[.int .i64 st, .int .i64 sz, .bool false, .bool true] (0, 0) _ rfl (((((PBlk.far BK.out (p := ⟨g9, 3, none⟩) HNC.out (.bool true)).s0 st).s1 sz).s2 false).s3 true) Tryd.underlying29 rfl (by kernel_rfl)) rfl ?_
           exact ⟨rfl, (((((HB.out.setCell (p := ⟨g9, 3, none⟩) HGE.out (.bool true))).setCell (p := ⟨g2, 0, none⟩) (by rw [HG2.out]; exact Nat.le_refl _) _).setCell (p := ⟨g2, 1, none⟩) (by rw [HG2.out]; exact Nat.le_refl _) _).setCell (p := ⟨g2, 2, none⟩) (by rw [HG2.out]; exact Nat.le_refl _) _).setCell (p := ⟨g2, 3, none⟩) (by rw [HG2.out]; exact Nat.le_refl _) _⟩
          | false =>
           rw [if_neg (by decide)] at h
           rw [if_pos (by omega)] at h
           rw [if_neg (by decide)] at h
           simp only [Option.some.injEq, Prod.mk.injEq] at h
           obtain ⟨rfl, rfl, rfl, rfl, rfl, rfl⟩ := h
           go_wp2_with (first | (go_at_call 44; (with_reducible refine (odometerref06_Says.calls k2 A3 c3 sd clos false _ C3.out L3.out HS1.out).mono ?_); rintro x w6 ⟨rfl, hb⟩; have n1 := Aside0.mk (show PBlk w6 g2 0 0 false false from (hb.block g2 BK.out.lt).trans BK.out); have n2 := Aside0.mk (show PBlk w6 g9 st sz false false from (hb.block g9 OF.out.lt).trans OF.out); have n3 := Aside0.mk (below_lower HB.out hb HB.out.size); clear BK OF HB; have BK := n1; have OF := n2; have HB := n3; clear n1 n2 n3; have n4 := Aside0.mk (Kd.C_below C3.out hb); clear C3 hb; have C3 := n4; clear n4; have hp0 := PBlk.c0 BK.out; have hp1 := PBlk.c1 BK.out; have hp2 := PBlk.c2 BK.out; have hp3 := PBlk.c3 BK.out; have hpf0 := PBlk.fz BK.out 0; have hpf1 := PBlk.fz BK.out 1; have hpf2 := PBlk.fz BK.out 2; have hpf3 := PBlk.fz BK.out 3; have ho0 := PBlk.c0 OF.out; have ho1 := PBlk.c1 OF.out; have ho2 := PBlk.c2 OF.out; have ho3 := PBlk.c3 OF.out; have hof0 := PBlk.fz OF.out 0; have hof1 := PBlk.fz OF.out 1; have hof2 := PBlk.fz OF.out 2; have hof3 := PBlk.fz OF.out 3))
           refine bodyPost_ret (results_ctt rfl _ _ g2 29 #[.int .i64 st, .int .i64 sz, .bool false, .bool true] (0, 0) _ rfl (((((PBlk.far BK.out (p := ⟨g9, 3, none⟩) HNC.out (.bool true)).s0 st).s1 sz).s2 false).s3 true) Tryd.underlying29 rfl (by kernel_rfl)) rfl ?_
           exact ⟨rfl, (((((HB.out.setCell (p := ⟨g9, 3, none⟩) HGE.out (.bool true))).setCell (p := ⟨g2, 0, none⟩) (by rw [HG2.out]; exact Nat.le_refl _) _).setCell (p := ⟨g2, 1, none⟩) (by rw [HG2.out]; exact Nat.le_refl _) _).setCell (p := ⟨g2, 2, none⟩) (by rw [HG2.out]; exact Nat.le_refl _) _).setCell (p := ⟨g2, 3, none⟩) (by rw [HG2.out]; exact Nat.le_refl _) _⟩
    ·rw [if_neg c7] at h
     exact absurd h (by simp)
 ·rw [if_neg ce] at h
  have ye : (e != 0) = true := bne_iff_ne.mpr ce
  have ye2 : (e == 0) = false := beq_eq_false_iff_ne.mpr ce
  cases k with
  | zero => exact absurd h (by simp [odometerref06_Parse.j0])
  | succ k0 =>
   simp only [odometerref06_Parse.j0] at h
   rw [if_pos trivial] at h
   clear ce
   simp only [Option.some.injEq, Prod.mk.injEq] at h
   obtain ⟨rfl, rfl, rfl, rfl, rfl, rfl⟩ := h
   go_wp2
   refine bodyPost_ret (results_ctt rfl _ _ g2 29 #[.int .i64 0, .int .i64 0, .bool false, .bool false] (0, 0) _ rfl ((((PBlk.s0 BK.out 0).s1 0).s2 false).s3 false) Tryd.underlying29 rfl (by kernel_rfl)) rfl ?_
   exact ⟨rfl, ((((HB.out).setCell (p := ⟨g2, 0, none⟩) (by rw [HG2.out]; exact Nat.le_refl _) _).setCell (p := ⟨g2, 1, none⟩) (by rw [HG2.out]; exact Nat.le_refl _) _).setCell (p := ⟨g2, 2, none⟩) (by rw [HG2.out]; exact Nat.le_refl _) _).setCell (p := ⟨g2, 3, none⟩) (by rw [HG2.out]; exact Nat.le_refl _) _⟩
end Go.Proofs.YtfpcoanlkfgagaaDoor.PA
