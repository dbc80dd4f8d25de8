/- head.Parse: plain function and walk, by hand. -/
import Derived.Test.YtfpcoanlkfgagaaGreatDoorRf
import Derived.Test.YtfpcoanlkfgagaaGreatDoorPAx1
import Derived.Test.YtfpcoanlkfgagaaGreatDoorPAx2
import Derived.Test.YtfpcoanlkfgagaaGreatDoorPAx3
namespace Go.Proofs.YtfpcoanlkfgagaaGreatDoor.PA
open Go.RowKit Go.Proofs.YtfpcoanlkfgagaaGreatDoorW.PrintWords Go.Proofs.YtfpcoanlkfgagaaGreatDoorW.PrintLast Go.Proofs.YtfpcoanlkfgagaaGreatDoor.Ext Go.Proofs.YtfpcoanlkfgagaaGreatDoorW.PrintMore
attribute [local go_sem] max2_int min2_int max_two min_two
set_option linter.unusedVariables false
set_option linter.unusedSimpArgs false

/-- The block of an answer under way. -/
def PBlk (w : World) (g : Nat) (a b : Int) (c d : Bool) : Prop := w.heap[g]? = some (.cells #[.int .i64 a, .int .i64 b, .bool c, .bool d] 35 (0, 0))
section
variable {w : World} {g : Nat} {a b : Int} {c d : Bool}
theorem PBlk.lt (h : PBlk w g a b c d) : g < w.heap.size := blk_lt h
theorem PBlk.c0 (h : PBlk w g a b c d) : w.cell? ⟨g, 0, none⟩ = some (.int .i64 a) := (blk_cell h 0).trans rfl
theorem PBlk.c1 (h : PBlk w g a b c d) : w.cell? ⟨g, 1, none⟩ = some (.int .i64 b) := (blk_cell h 1).trans rfl
theorem PBlk.c2 (h : PBlk w g a b c d) : w.cell? ⟨g, 2, none⟩ = some (.bool c) := (blk_cell h 2).trans rfl
theorem PBlk.c3 (h : PBlk w g a b c d) : w.cell? ⟨g, 3, none⟩ = some (.bool d) := (blk_cell h 3).trans rfl
theorem PBlk.fz (h : PBlk w g a b c d) (i : Nat) : w.frozen? ⟨g, i, none⟩ = false := blk_frozen h i
theorem PBlk.s0 (h : PBlk w g a b c d) (x : Int) : PBlk (w.setCell ⟨g, 0, none⟩ (.int .i64 x)) g x b c d := blk_put h 0 _ rfl
theorem PBlk.s1 (h : PBlk w g a b c d) (x : Int) : PBlk (w.setCell ⟨g, 1, none⟩ (.int .i64 x)) g a x c d := blk_put h 1 _ rfl
theorem PBlk.s2 (h : PBlk w g a b c d) (x : Bool) : PBlk (w.setCell ⟨g, 2, none⟩ (.bool x)) g a b x d := blk_put h 2 _ rfl
theorem PBlk.s3 (h : PBlk w g a b c d) (x : Bool) : PBlk (w.setCell ⟨g, 3, none⟩ (.bool x)) g a b c x := blk_put h 3 _ rfl
theorem PBlk.far (h : PBlk w g a b c d) {p : Addr} (hne : g ≠ p.block) (u : Value) : PBlk (w.setCell p u) g a b c d := (Below.heap_setCell w p u g hne).trans h
theorem PBlk.alloc (h : PBlk w g a b c d) (o : Obj) : PBlk (w.alloc o) g a b c d := (Below.heap_alloc w o g h.lt).trans h
theorem PBlk.keep (h : PBlk w g a b c d) {W : World} {g' : Nat} (hk : KeepBut w W g' none) (hne : g ≠ g') : PBlk W g a b c d := hk.blk h hne (by simp)
end
abbrev tenc : ByteArray := ⟨#[116, 114, 97, 110, 115, 102, 101, 114, 45, 101, 110, 99, 111, 100, 105, 110, 103]⟩

abbrev clos : ByteArray := ⟨#[99, 108, 111, 115, 101]⟩
abbrev kali : ByteArray := ⟨#[107, 101, 101, 112, 45, 97, 108, 105, 118, 101]⟩
def head_Parse.g (k : Nat) (st : Int) (old : Bool) (fs : List S86) (sz n : Int) (ch : Bool) : Option (Int × Int × Bool × Bool × Int × Int) :=
 (head_head_says.f k st old fs sz clos).bind fun t => (if t.1 = true then some (st, n, ch, true, t.2.2.2, 0) else if n < 0 ∧ ch = false then some (st, n, ch, true, t.2.2.2, 0) else if t.2.2.1 = true then (head_head_says.f k t.2.1 t.2.2.1 fs t.2.2.2 kali).bind fun u => some (st, n, ch, !u.1, u.2.2.2, 0) else some (st, n, ch, false, t.2.2.2, 0))
def head_Parse.f (k : Nat) (l0 : List Int) : Option (Int × Int × Bool × Bool × Int × Int) :=
 (head_read.f k l0).bind fun t => (if t.2.2.2.2.2 = 0 then (if t.2.2.2.2.1 = true then (head_head_length.f k t.1 t.2.1 t.2.2.1 t.2.2.2.1).bind fun u => (head_head_values.f k u.2.2.1 u.2.2.2.1 t.2.2.1 u.2.2.2.2 tenc).bind fun c => (if u.2.1 = 0 then (if u.1 ≥ 0 ∧ 0 < c.1.length then some (0, 0, false, false, 0, 11) else if 1 < c.1.length then some (0, 0, false, false, 0, 12) else if c.1.length = 1 then (head_small.f (rdOf ByteArray.empty c.1 0)).bind fun s => (if s.toList = ([99, 104, 117, 110, 107, 101, 100] : List UInt8) then (if c.2.2.1 = true then some (0, 0, false, false, 0, 12) else head_Parse.g k c.2.1 c.2.2.1 t.2.2.1 c.2.2.2 u.1 true) else some (0, 0, false, false, 0, 12)) else head_Parse.g k c.2.1 c.2.2.1 t.2.2.1 c.2.2.2 u.1 false) else some (0, 0, false, false, 0, 11)) else some (0, 0, false, false, 0, t.2.2.2.2.2)) else some (0, 0, false, false, 0, t.2.2.2.2.2))

set_option maxHeartbeats 40000000 in
set_option maxRecDepth 100000 in
theorem head_Parse.calls (k : Nat) (A0 : Option Addr) (c0 : Nat) (l0 : List Int) (r1 r2 : Int) (r3 r4 : Bool) (r5 r6 : Int) (w : World) (hr0 : Kd.C (Kd.int .u8) w A0 l0.length l0) (hc0 : l0.length ≤ c0) (hG : Glob w) (h : head_Parse.f k l0 = some (r1, r2, r3, r4, r5, r6)) :
  Calls Tryz.prog 16 #[.slice A0 l0.length c0] w fun e w' => e = .returned (.tuple #[.agg #[.int .i64 r1, .int .i64 r2, .bool r3, .bool r4], .int .i64 r5, .int .i64 r6]) ∧ Below w.heap.size w w' := by
 have HR0 := Aside0.mk hr0
 have HC0 := Aside0.mk hc0
 have HG := Aside0.mk hG
 clear hr0 hc0 hG
 unfold head_Parse.f at h
 replace h := Option.bind_eq_some_iff.mp h
 obtain ⟨⟨st, old, fs, sz, is, e⟩, hr, h⟩ := h
 dsimp only at h
 have HRD := Aside0.mk hr
 clear hr
 go_enter Tryz.func16, Tryz.ntmps16
 go_upto_region 2 with (first | (go_at_call 27; refine (head_read.calls k A0 c0 l0 st old fs sz is e _ (Kd.C_below HR0.out HBA.out) HC0.out (Glob.below HG.out HBA.out) HRD.out).mono ?_; rintro x wR ⟨v0, rfl, hR, hb⟩; obtain ⟨Av, cv, rfl⟩ := Kd.R_slice hR; have HRf := Aside0.mk hR; have BKR := Aside0.mk (show PBlk wR g2 0 0 false false from (hb.block g2 BK2.out.lt).trans BK2.out); have HBR := Aside0.mk (below_step HBA.out hb); have hlt2 : g2 < wR.heap.size := BKR.out.lt; have hne1 : g2 ≠ wR.heap.size := Nat.ne_of_lt hlt2; have hne2 : wR.heap.size ≠ g2 := fun h => hne1 h.symm; have hp0 := PBlk.c0 BKR.out; have hp1 := PBlk.c1 BKR.out; have hp2 := PBlk.c2 BKR.out; have hp3 := PBlk.c3 BKR.out; have hpf0 := PBlk.fz BKR.out 0; have hpf1 := PBlk.fz BKR.out 1; have hpf2 := PBlk.fz BKR.out 2; have hpf3 := PBlk.fz BKR.out 3; clear hR hb) | ((with_reducible refine gate_dst (N := 2) rfl ?_); refine box_event ?hg (N := 2) ?hd (cs := #[.int .i64 0, .int .i64 0, .bool false, .bool false]) (t := 35) ?hr ?_; (case hd => rfl); (case hg => rfl); (case hr => first | (go_simp; done) | (go_simp; rfl)); intro g2 hg2 wA hbox hb; have BK2 := Aside0.mk (show PBlk wA g2 0 0 false false from hbox); have HBA := Aside0.mk hb; have HG2 := Aside0.mk hg2; clear hbox hb hg2))
 clear HRD
 by_cases ce : e = 0
 ·rw [if_pos ce] at h
  have ye : (e != 0) = false := bne_eq_false_iff_eq.mpr ce
  have CE := Aside0.mk ce
  clear ce
  cases is with
  | false =>
   rw [if_neg (by decide)] at h
   simp only [Option.some.injEq, Prod.mk.injEq] at h
   obtain ⟨rfl, rfl, rfl, rfl, rfl, rfl⟩ := h
   go_wp2
   refine bodyPost_ret (results_ctt rfl _ _ g2 35 #[.int .i64 0, .int .i64 0, .bool false, .bool false] (0, 0) _ rfl (((((PBlk.s0 BKR.out 0).s1 0).s2 false).s3 false).alloc _) Tryz.underlying35 rfl (by kernel_rfl)) rfl ?_
   exact ⟨rfl, below_alloc (((((HBR.out).setCell (p := ⟨g2, 0, none⟩) (by rw [HG2.out]; exact Nat.le_refl _) _).setCell (p := ⟨g2, 1, none⟩) (by rw [HG2.out]; exact Nat.le_refl _) _).setCell (p := ⟨g2, 2, none⟩) (by rw [HG2.out]; exact Nat.le_refl _) _).setCell (p := ⟨g2, 3, none⟩) (by rw [HG2.out]; exact Nat.le_refl _) _) _⟩
  | true =>
   rw [if_pos rfl] at h
   replace h := Option.bind_eq_some_iff.mp h
   obtain ⟨⟨n, e2, st1, old1, sz1⟩, hr, h⟩ := h
   have HLF := Aside0.mk hr
   dsimp only at h
   clear hr
   replace h := Option.bind_eq_some_iff.mp h
   obtain ⟨⟨cd, st2, old2, sz2⟩, hr, h⟩ := h
   have HVF := Aside0.mk hr
   dsimp only at h
   clear hr
   go_upto_region 6 with (first | (go_at_call 29; refine (head_head_values.calls k wR.heap.size st1 old1 fs sz1 tenc cd st2 old2 sz2 wR _ HID.out HBD.out HVF.out).mono ?_; rintro x wE ⟨v1, rfl, hR, hI, hB, hK⟩; obtain ⟨Ac, cc, rfl⟩ := Kd.R_slice hR; have HRC := Aside0.mk (Kd.R_reads' hR).2.2; have HIE := Aside0.mk hI; have HBE := Aside0.mk hB; have BKE := Aside0.mk (show PBlk wE g2 0 0 false false from (hB.block g2 BKR.out.lt).trans BKR.out); obtain ⟨A5, c5, hg5, _, _⟩ := hI; have hk0 := cellS61_0 hg5; have hk1 := cellS61_1 hg5; have hk3 := cellS61_3 hg5; clear hg5 hR hB hK; have hp0 := PBlk.c0 BKE.out; have hp1 := PBlk.c1 BKE.out; have hp2 := PBlk.c2 BKE.out; have hp3 := PBlk.c3 BKE.out; have hpf0 := PBlk.fz BKE.out 0; have hpf1 := PBlk.fz BKE.out 1; have hpf2 := PBlk.fz BKE.out 2; have hpf3 := PBlk.fz BKE.out 3) | (go_at_call 28; refine (head_head_length.calls k wR.heap.size st old fs sz n e2 st1 old1 sz1 wR _ ⟨Av, cv, blk_new wR _, Nat.le_refl _, (Kd.R_reads' HRf.out).2.2⟩ (below_alloc (Below.refl _ _) _) HLF.out).mono ?_; rintro x wD ⟨rfl, hI, hB, hK⟩; have HID := Aside0.mk hI; have HBD := Aside0.mk hB; clear hI hB hK; clear hp0 hp1 hp2 hp3 hpf0 hpf1 hpf2 hpf3))
   clear HLF HVF
   by_cases ce2 : e2 = 0
   ·rw [if_pos ce2] at h
    have ye2 : (e2 != 0) = false := bne_eq_false_iff_eq.mpr ce2
    clear ce2
    by_cases cnn : n ≥ 0 ∧ 0 < cd.length
    ·rw [if_pos cnn] at h
     have yn : decide (n ≥ 0) = true := decide_eq_true cnn.1
     have yc : decide ((cd.length : Int) > 0) = true := decide_eq_true (by omega)
     have yc2 : decide (0 < cd.length) = true := decide_eq_true cnn.2
     clear cnn
     simp only [Option.some.injEq, Prod.mk.injEq] at h
     obtain ⟨rfl, rfl, rfl, rfl, rfl, rfl⟩ := h
     go_wp2
     refine bodyPost_ret (results_ctt rfl _ _ g2 35 #[.int .i64 0, .int .i64 0, .bool false, .bool false] (0, 0) _ rfl ((((PBlk.s0 BKE.out 0).s1 0).s2 false).s3 false) Tryz.underlying35 rfl (by kernel_rfl)) rfl ?_
     exact ⟨rfl, (((((below_lower HBR.out HBE.out HBR.out.size)).setCell (p := ⟨g2, 0, none⟩) (by rw [HG2.out]; exact Nat.le_refl _) _).setCell (p := ⟨g2, 1, none⟩) (by rw [HG2.out]; exact Nat.le_refl _) _).setCell (p := ⟨g2, 2, none⟩) (by rw [HG2.out]; exact Nat.le_refl _) _).setCell (p := ⟨g2, 3, none⟩) (by rw [HG2.out]; exact Nat.le_refl _) _⟩
    ·rw [if_neg cnn] at h
     by_cases yn0 : n ≥ 0
     ·have yn : decide (n ≥ 0) = true := decide_eq_true yn0
      have hl0 : cd.length = 0 := by rcases Nat.eq_zero_or_pos cd.length with h | h; exact h; exact absurd ⟨yn0, h⟩ cnn
      rw [if_neg (by omega), if_neg (by omega)] at h
      obtain rfl : cd = [] := List.length_eq_zero_iff.mp hl0
      clear hl0 cnn
      go_upto_region 11 with (fail)
      unfold head_Parse.g at h
      replace h := Option.bind_eq_some_iff.mp h
      obtain ⟨⟨t1, st3, old3, sz3⟩, hr, h⟩ := h
      have HSY := Aside0.mk hr
      dsimp only at h
      clear hr
      have ylt : decide (n < 0) = false := decide_eq_false (by omega)
      cases t1 with
      | true =>
       rw [if_pos rfl] at h
       simp only [Option.some.injEq, Prod.mk.injEq] at h
       obtain ⟨rfl, rfl, rfl, rfl, rfl, rfl⟩ := h
       go_wp2_with (first | (go_at_call 31; refine (head_head_says.calls k wR.heap.size st2 old2 fs sz2 clos true st3 old3 sz3 wR _ (HIE.out.alloc _) (below_alloc HBE.out _) (Glob.below HG.out HBR.out) HSY.out).mono ?_; rintro x wF ⟨rfl, hI, hB, hK⟩; have hlt9 := HIE.out.lt; have hlt9b := BKE.out.lt; have hneA : wR.heap.size ≠ wE.heap.size := Nat.ne_of_lt hlt9; have hneB : wE.heap.size ≠ wR.heap.size := fun h => hneA h.symm; have hneC : g2 ≠ wE.heap.size := Nat.ne_of_lt hlt9b; have hneD : wE.heap.size ≠ g2 := fun h => hneC h.symm; have HNE := Aside0.mk hneB; have HNC := Aside0.mk hneC; have HND := Aside0.mk hneD; clear hlt9 hlt9b; have HIF := Aside0.mk hI; have HBF := Aside0.mk hB; have OF := Aside0.mk (PBlk.keep (show PBlk _ wE.heap.size st2 n false false from blk_new wE _) hK hneB); have BKF := Aside0.mk (PBlk.keep (BKE.out.alloc _) hK hne1); obtain ⟨A8, c8, hg8, _, _⟩ := hI; have hj1 := cellS61_1 hg8; have hj3 := cellS61_3 hg8; clear hg8 hB hK hp0 hp1 hp2 hp3 hpf0 hpf1 hpf2 hpf3 hk0 hk1 hk3; have hr0 := PBlk.c0 OF.out; have hr1 := PBlk.c1 OF.out; have hr2 := PBlk.c2 OF.out; have hr3 := PBlk.c3 OF.out; have hrf0 := PBlk.fz OF.out 0; have hrf1 := PBlk.fz OF.out 1; have hrf2 := PBlk.fz OF.out 2; have hrf3 := PBlk.fz OF.out 3; have hs0 := PBlk.c0 BKF.out; have hs1 := PBlk.c1 BKF.out; have hs2 := PBlk.c2 BKF.out; have hs3 := PBlk.c3 BKF.out; have hsf0 := PBlk.fz BKF.out 0; have hsf1 := PBlk.fz BKF.out 1; have hsf2 := PBlk.fz BKF.out 2; have hsf3 := PBlk.fz BKF.out 3))
       have OX := Aside0.mk (OF.out.s3 true)
       have BKX := Aside0.mk (BKF.out.far (p := ⟨wE.heap.size, 3, none⟩) HNC.out (.bool true))
       have HIX := Aside0.mk (HIF.out.far (p := ⟨wE.heap.size, 3, none⟩) (fun h => HNE.out h.symm) (.bool true))
       have HBX := Aside0.mk (HBF.out.setCell (p := ⟨wE.heap.size, 3, none⟩) (Nat.le_of_lt HIE.out.lt) (.bool true))
       clear hr0 hr1 hr2 hr3 hrf0 hrf1 hrf2 hrf3 hs0 hs1 hs2 hs3 hsf0 hsf1 hsf2 hsf3 hj3
       clear hj1
       generalize World.setCell wF ⟨wE.heap.size, 3, none⟩ (.bool true) = w9 at OX BKX HIX HBX ⊢
       obtain ⟨A8, c8, hg8, _, _⟩ := HIX.out
       have hj3 : w9.drew.cell? ⟨wR.heap.size, 3, none⟩ = _ := cellS61_3 hg8
       have hj3b : w9.cell? ⟨wR.heap.size, 3, none⟩ = _ := cellS61_3 hg8
       clear hg8
       have hr0b : w9.cell? ⟨wE.heap.size, 0, none⟩ = _ := OX.out.c0
       have hs0b : w9.frozen? ⟨g2, 0, none⟩ = _ := BKX.out.fz 0
       have hsc0b : w9.cell? ⟨g2, 0, none⟩ = _ := BKX.out.c0
       have hr0 : w9.drew.cell? ⟨wE.heap.size, 0, none⟩ = _ := OX.out.c0
       have hs0 : w9.drew.frozen? ⟨g2, 0, none⟩ = _ := BKX.out.fz 0
       have hsc0 : w9.drew.cell? ⟨g2, 0, none⟩ = _ := BKX.out.c0
       have hr1b : w9.cell? ⟨wE.heap.size, 1, none⟩ = _ := OX.out.c1
       have hs1b : w9.frozen? ⟨g2, 1, none⟩ = _ := BKX.out.fz 1
       have hsc1b : w9.cell? ⟨g2, 1, none⟩ = _ := BKX.out.c1
       have hr1 : w9.drew.cell? ⟨wE.heap.size, 1, none⟩ = _ := OX.out.c1
       have hs1 : w9.drew.frozen? ⟨g2, 1, none⟩ = _ := BKX.out.fz 1
       have hsc1 : w9.drew.cell? ⟨g2, 1, none⟩ = _ := BKX.out.c1
       have hr2b : w9.cell? ⟨wE.heap.size, 2, none⟩ = _ := OX.out.c2
       have hs2b : w9.frozen? ⟨g2, 2, none⟩ = _ := BKX.out.fz 2
       have hsc2b : w9.cell? ⟨g2, 2, none⟩ = _ := BKX.out.c2
       have hr2 : w9.drew.cell? ⟨wE.heap.size, 2, none⟩ = _ := OX.out.c2
       have hs2 : w9.drew.frozen? ⟨g2, 2, none⟩ = _ := BKX.out.fz 2
       have hsc2 : w9.drew.cell? ⟨g2, 2, none⟩ = _ := BKX.out.c2
       have hr3b : w9.cell? ⟨wE.heap.size, 3, none⟩ = _ := OX.out.c3
       have hs3b : w9.frozen? ⟨g2, 3, none⟩ = _ := BKX.out.fz 3
       have hsc3b : w9.cell? ⟨g2, 3, none⟩ = _ := BKX.out.c3
       have hr3 : w9.drew.cell? ⟨wE.heap.size, 3, none⟩ = _ := OX.out.c3
       have hs3 : w9.drew.frozen? ⟨g2, 3, none⟩ = _ := BKX.out.fz 3
       have hsc3 : w9.drew.cell? ⟨g2, 3, none⟩ = _ := BKX.out.c3
       go_region
       go_wp2
       refine bodyPost_ret (results_ctt rfl _ _ g2 35 #[.int .i64 st2, .int .i64 n, .bool false, .bool true] (0, 0) _ rfl (show PBlk (World.drew _) g2 st2 n false true from (((BKX.out.s0 st2).s1 n).s2 false).s3 true) Tryz.underlying35 rfl (by kernel_rfl)) rfl ?_
       exact ⟨rfl, below_drew ((((((below_lower HBR.out HBX.out HBR.out.size)).setCell (p := ⟨g2, 0, none⟩) (by rw [HG2.out]; exact Nat.le_refl _) _).setCell (p := ⟨g2, 1, none⟩) (by rw [HG2.out]; exact Nat.le_refl _) _).setCell (p := ⟨g2, 2, none⟩) (by rw [HG2.out]; exact Nat.le_refl _) _).setCell (p := ⟨g2, 3, none⟩) (by rw [HG2.out]; exact Nat.le_refl _) _)⟩
      | false =>
       rw [if_neg (by decide)] at h
       rw [if_neg (by rintro ⟨hx, hy⟩; first | omega | cases hy)] at h
       cases old3 with
       | true =>
        rw [if_pos rfl] at h
        replace h := Option.bind_eq_some_iff.mp h
        obtain ⟨⟨u1, st4, old4, sz4⟩, hr, h⟩ := h
        have HSZ := Aside0.mk hr
        dsimp only at h
        clear hr
        cases u1 with
        | true =>
         simp only [Option.some.injEq, Prod.mk.injEq] at h
         obtain ⟨rfl, rfl, rfl, rfl, rfl, rfl⟩ := h
         go_wp2_with (first | (go_at_call 31; refine (head_head_says.calls k wR.heap.size st3 true fs sz3 kali true st4 old4 sz4 wR _ HIF.out HBF.out (Glob.below HG.out HBR.out) HSZ.out).mono ?_; rintro x wH ⟨rfl, hI, hB, hK⟩; have HIH := Aside0.mk hI; have HBH := Aside0.mk hB; have OH := Aside0.mk (OF.out.keep hK HNE.out); have BKH := Aside0.mk (BKF.out.keep hK hne1); obtain ⟨A8, c8, hg8, _, _⟩ := hI; clear hj1 hj3; have hj3 := cellS61_3 hg8; clear hg8 hB hK hr0 hr1 hr2 hr3 hrf0 hrf1 hrf2 hrf3 hs0 hs1 hs2 hs3 hsf0 hsf1 hsf2 hsf3; have hr0 := PBlk.c0 OH.out; have hr1 := PBlk.c1 OH.out; have hr2 := PBlk.c2 OH.out; have hr3 := PBlk.c3 OH.out; have hrf0 := PBlk.fz OH.out 0; have hrf1 := PBlk.fz OH.out 1; have hrf2 := PBlk.fz OH.out 2; have hrf3 := PBlk.fz OH.out 3; have hs0 := PBlk.c0 BKH.out; have hs1 := PBlk.c1 BKH.out; have hs2 := PBlk.c2 BKH.out; have hs3 := PBlk.c3 BKH.out; have hsf0 := PBlk.fz BKH.out 0; have hsf1 := PBlk.fz BKH.out 1; have hsf2 := PBlk.fz BKH.out 2; have hsf3 := PBlk.fz BKH.out 3) | (go_at_call 31; refine (head_head_says.calls k wR.heap.size st2 old2 fs sz2 clos false st3 true sz3 wR _ (HIE.out.alloc _) (below_alloc HBE.out _) (Glob.below HG.out HBR.out) HSY.out).mono ?_; rintro x wF ⟨rfl, hI, hB, hK⟩; have hlt9 := HIE.out.lt; have hlt9b := BKE.out.lt; have hneA : wR.heap.size ≠ wE.heap.size := Nat.ne_of_lt hlt9; have hneB : wE.heap.size ≠ wR.heap.size := fun h => hneA h.symm; have hneC : g2 ≠ wE.heap.size := Nat.ne_of_lt hlt9b; have hneD : wE.heap.size ≠ g2 := fun h => hneC h.symm; have HNE := Aside0.mk hneB; have HNC := Aside0.mk hneC; have HND := Aside0.mk hneD; clear hlt9 hlt9b; have HIF := Aside0.mk hI; have HBF := Aside0.mk hB; have OF := Aside0.mk (PBlk.keep (show PBlk _ wE.heap.size st2 n false false from blk_new wE _) hK hneB); have BKF := Aside0.mk (PBlk.keep (BKE.out.alloc _) hK hne1); obtain ⟨A8, c8, hg8, _, _⟩ := hI; have hj1 := cellS61_1 hg8; have hj3 := cellS61_3 hg8; clear hg8 hB hK hp0 hp1 hp2 hp3 hpf0 hpf1 hpf2 hpf3 hk0 hk1 hk3; have hr0 := PBlk.c0 OF.out; have hr1 := PBlk.c1 OF.out; have hr2 := PBlk.c2 OF.out; have hr3 := PBlk.c3 OF.out; have hrf0 := PBlk.fz OF.out 0; have hrf1 := PBlk.fz OF.out 1; have hrf2 := PBlk.fz OF.out 2; have hrf3 := PBlk.fz OF.out 3; have hs0 := PBlk.c0 BKF.out; have hs1 := PBlk.c1 BKF.out; have hs2 := PBlk.c2 BKF.out; have hs3 := PBlk.c3 BKF.out; have hsf0 := PBlk.fz BKF.out 0; have hsf1 := PBlk.fz BKF.out 1; have hsf2 := PBlk.fz BKF.out 2; have hsf3 := PBlk.fz BKF.out 3))
         have OX := Aside0.mk (OH.out.s3 false)
         have BKX := Aside0.mk (BKH.out.far (p := ⟨wE.heap.size, 3, none⟩) HNC.out (.bool false))
         have HIX := Aside0.mk (HIH.out.far (p := ⟨wE.heap.size, 3, none⟩) (fun h => HNE.out h.symm) (.bool false))
         have HBX := Aside0.mk (HBH.out.setCell (p := ⟨wE.heap.size, 3, none⟩) (Nat.le_of_lt HIE.out.lt) (.bool false))
         clear hr0 hr1 hr2 hr3 hrf0 hrf1 hrf2 hrf3 hs0 hs1 hs2 hs3 hsf0 hsf1 hsf2 hsf3 hj3
         generalize World.setCell wH ⟨wE.heap.size, 3, none⟩ (.bool false) = w9 at OX BKX HIX HBX ⊢
         obtain ⟨A8, c8, hg8, _, _⟩ := HIX.out
         have hj3 : w9.drew.cell? ⟨wR.heap.size, 3, none⟩ = _ := cellS61_3 hg8
         have hj3b : w9.cell? ⟨wR.heap.size, 3, none⟩ = _ := cellS61_3 hg8
         clear hg8
         have hr0b : w9.cell? ⟨wE.heap.size, 0, none⟩ = _ := OX.out.c0
         have hs0b : w9.frozen? ⟨g2, 0, none⟩ = _ := BKX.out.fz 0
         have hsc0b : w9.cell? ⟨g2, 0, none⟩ = _ := BKX.out.c0
         have hr0 : w9.drew.cell? ⟨wE.heap.size, 0, none⟩ = _ := OX.out.c0
         have hs0 : w9.drew.frozen? ⟨g2, 0, none⟩ = _ := BKX.out.fz 0
         have hsc0 : w9.drew.cell? ⟨g2, 0, none⟩ = _ := BKX.out.c0
         have hr1b : w9.cell? ⟨wE.heap.size, 1, none⟩ = _ := OX.out.c1
         have hs1b : w9.frozen? ⟨g2, 1, none⟩ = _ := BKX.out.fz 1
         have hsc1b : w9.cell? ⟨g2, 1, none⟩ = _ := BKX.out.c1
         have hr1 : w9.drew.cell? ⟨wE.heap.size, 1, none⟩ = _ := OX.out.c1
         have hs1 : w9.drew.frozen? ⟨g2, 1, none⟩ = _ := BKX.out.fz 1
         have hsc1 : w9.drew.cell? ⟨g2, 1, none⟩ = _ := BKX.out.c1
         have hr2b : w9.cell? ⟨wE.heap.size, 2, none⟩ = _ := OX.out.c2
         have hs2b : w9.frozen? ⟨g2, 2, none⟩ = _ := BKX.out.fz 2
         have hsc2b : w9.cell? ⟨g2, 2, none⟩ = _ := BKX.out.c2
         have hr2 : w9.drew.cell? ⟨wE.heap.size, 2, none⟩ = _ := OX.out.c2
         have hs2 : w9.drew.frozen? ⟨g2, 2, none⟩ = _ := BKX.out.fz 2
         have hsc2 : w9.drew.cell? ⟨g2, 2, none⟩ = _ := BKX.out.c2
         have hr3b : w9.cell? ⟨wE.heap.size, 3, none⟩ = _ := OX.out.c3
         have hs3b : w9.frozen? ⟨g2, 3, none⟩ = _ := BKX.out.fz 3
         have hsc3b : w9.cell? ⟨g2, 3, none⟩ = _ := BKX.out.c3
         have hr3 : w9.drew.cell? ⟨wE.heap.size, 3, none⟩ = _ := OX.out.c3
         have hs3 : w9.drew.frozen? ⟨g2, 3, none⟩ = _ := BKX.out.fz 3
         have hsc3 : w9.drew.cell? ⟨g2, 3, none⟩ = _ := BKX.out.c3
         go_region
         go_wp2
         refine bodyPost_ret (results_ctt rfl _ _ g2 35 #[.int .i64 st2, .int .i64 n, .bool false, .bool false] (0, 0) _ rfl (show PBlk (World.drew _) g2 st2 n false false from (((BKX.out.s0 st2).s1 n).s2 false).s3 false) Tryz.underlying35 rfl (by kernel_rfl)) rfl ?_
         exact ⟨rfl, below_drew ((((((below_lower HBR.out HBX.out HBR.out.size)).setCell (p := ⟨g2, 0, none⟩) (by rw [HG2.out]; exact Nat.le_refl _) _).setCell (p := ⟨g2, 1, none⟩) (by rw [HG2.out]; exact Nat.le_refl _) _).setCell (p := ⟨g2, 2, none⟩) (by rw [HG2.out]; exact Nat.le_refl _) _).setCell (p := ⟨g2, 3, none⟩) (by rw [HG2.out]; exact Nat.le_refl _) _)⟩
        | false =>
         simp only [Option.some.injEq, Prod.mk.injEq] at h
         obtain ⟨rfl, rfl, rfl, rfl, rfl, rfl⟩ := h
         go_wp2_with (first | (go_at_call 31; refine (head_head_says.calls k wR.heap.size st3 true fs sz3 kali false st4 old4 sz4 wR _ HIF.out HBF.out (Glob.below HG.out HBR.out) HSZ.out).mono ?_; rintro x wH ⟨rfl, hI, hB, hK⟩; have HIH := Aside0.mk hI; have HBH := Aside0.mk hB; have OH := Aside0.mk (OF.out.keep hK HNE.out); have BKH := Aside0.mk (BKF.out.keep hK hne1); obtain ⟨A8, c8, hg8, _, _⟩ := hI; clear hj1 hj3; have hj3 := cellS61_3 hg8; clear hg8 hB hK hr0 hr1 hr2 hr3 hrf0 hrf1 hrf2 hrf3 hs0 hs1 hs2 hs3 hsf0 hsf1 hsf2 hsf3; have hr0 := PBlk.c0 OH.out; have hr1 := PBlk.c1 OH.out; have hr2 := PBlk.c2 OH.out; have hr3 := PBlk.c3 OH.out; have hrf0 := PBlk.fz OH.out 0; have hrf1 := PBlk.fz OH.out 1; have hrf2 := PBlk.fz OH.out 2; have hrf3 := PBlk.fz OH.out 3; have hs0 := PBlk.c0 BKH.out; have hs1 := PBlk.c1 BKH.out; have hs2 := PBlk.c2 BKH.out; have hs3 := PBlk.c3 BKH.out; have hsf0 := PBlk.fz BKH.out 0; have hsf1 := PBlk.fz BKH.out 1; have hsf2 := PBlk.fz BKH.out 2; have hsf3 := PBlk.fz BKH.out 3) | (go_at_call 31; refine (head_head_says.calls k wR.heap.size st2 old2 fs sz2 clos false st3 true sz3 wR _ (HIE.out.alloc _) (below_alloc HBE.out _) (Glob.below HG.out HBR.out) HSY.out).mono ?_; rintro x wF ⟨rfl, hI, hB, hK⟩; have hlt9 := HIE.out.lt; have hlt9b := BKE.out.lt; have hneA : wR.heap.size ≠ wE.heap.size := Nat.ne_of_lt hlt9; have hneB : wE.heap.size ≠ wR.heap.size := fun h => hneA h.symm; have hneC : g2 ≠ wE.heap.size := Nat.ne_of_lt hlt9b; have hneD : wE.heap.size ≠ g2 := fun h => hneC h.symm; have HNE := Aside0.mk hneB; have HNC := Aside0.mk hneC; have HND := Aside0.mk hneD; clear hlt9 hlt9b; have HIF := Aside0.mk hI; have HBF := Aside0.mk hB; have OF := Aside0.mk (PBlk.keep (show PBlk _ wE.heap.size st2 n false false from blk_new wE _) hK hneB); have BKF := Aside0.mk (PBlk.keep (BKE.out.alloc _) hK hne1); obtain ⟨A8, c8, hg8, _, _⟩ := hI; have hj1 := cellS61_1 hg8; have hj3 := cellS61_3 hg8; clear hg8 hB hK hp0 hp1 hp2 hp3 hpf0 hpf1 hpf2 hpf3 hk0 hk1 hk3; have hr0 := PBlk.c0 OF.out; have hr1 := PBlk.c1 OF.out; have hr2 := PBlk.c2 OF.out; have hr3 := PBlk.c3 OF.out; have hrf0 := PBlk.fz OF.out 0; have hrf1 := PBlk.fz OF.out 1; have hrf2 := PBlk.fz OF.out 2; have hrf3 := PBlk.fz OF.out 3; have hs0 := PBlk.c0 BKF.out; have hs1 := PBlk.c1 BKF.out; have hs2 := PBlk.c2 BKF.out; have hs3 := PBlk.c3 BKF.out; have hsf0 := PBlk.fz BKF.out 0; have hsf1 := PBlk.fz BKF.out 1; have hsf2 := PBlk.fz BKF.out 2; have hsf3 := PBlk.fz BKF.out 3))
         have OX := Aside0.mk (OH.out.s3 true)
         have BKX := Aside0.mk (BKH.out.far (p := ⟨wE.heap.size, 3, none⟩) HNC.out (.bool true))
         have HIX := Aside0.mk (HIH.out.far (p := ⟨wE.heap.size, 3, none⟩) (fun h => HNE.out h.symm) (.bool true))
         have HBX := Aside0.mk (HBH.out.setCell (p := ⟨wE.heap.size, 3, none⟩) (Nat.le_of_lt HIE.out.lt) (.bool true))
         clear hr0 hr1 hr2 hr3 hrf0 hrf1 hrf2 hrf3 hs0 hs1 hs2 hs3 hsf0 hsf1 hsf2 hsf3 hj3
         generalize World.setCell wH ⟨wE.heap.size, 3, none⟩ (.bool true) = w9 at OX BKX HIX HBX ⊢
         obtain ⟨A8, c8, hg8, _, _⟩ := HIX.out
         have hj3 : w9.drew.cell? ⟨wR.heap.size, 3, none⟩ = _ := cellS61_3 hg8
         have hj3b : w9.cell? ⟨wR.heap.size, 3, none⟩ = _ := cellS61_3 hg8
         clear hg8
         have hr0b : w9.cell? ⟨wE.heap.size, 0, none⟩ = _ := OX.out.c0
         have hs0b : w9.frozen? ⟨g2, 0, none⟩ = _ := BKX.out.fz 0
         have hsc0b : w9.cell? ⟨g2, 0, none⟩ = _ := BKX.out.c0
         have hr0 : w9.drew.cell? ⟨wE.heap.size, 0, none⟩ = _ := OX.out.c0
         have hs0 : w9.drew.frozen? ⟨g2, 0, none⟩ = _ := BKX.out.fz 0
         have hsc0 : w9.drew.cell? ⟨g2, 0, none⟩ = _ := BKX.out.c0
         have hr1b : w9.cell? ⟨wE.heap.size, 1, none⟩ = _ := OX.out.c1
         have hs1b : w9.frozen? ⟨g2, 1, none⟩ = _ := BKX.out.fz 1
         have hsc1b : w9.cell? ⟨g2, 1, none⟩ = _ := BKX.out.c1
         have hr1 : w9.drew.cell? ⟨wE.heap.size, 1, none⟩ = _ := OX.out.c1
         have hs1 : w9.drew.frozen? ⟨g2, 1, none⟩ = _ := BKX.out.fz 1
         have hsc1 : w9.drew.cell? ⟨g2, 1, none⟩ = _ := BKX.out.c1
         have hr2b : w9.cell? ⟨wE.heap.size, 2, none⟩ = _ := OX.out.c2
         have hs2b : w9.frozen? ⟨g2, 2, none⟩ = _ := BKX.out.fz 2
         have hsc2b : w9.cell? ⟨g2, 2, none⟩ = _ := BKX.out.c2
         have hr2 : w9.drew.cell? ⟨wE.heap.size, 2, none⟩ = _ := OX.out.c2
         have hs2 : w9.drew.frozen? ⟨g2, 2, none⟩ = _ := BKX.out.fz 2
         have hsc2 : w9.drew.cell? ⟨g2, 2, none⟩ = _ := BKX.out.c2
         have hr3b : w9.cell? ⟨wE.heap.size, 3, none⟩ = _ := OX.out.c3
         have hs3b : w9.frozen? ⟨g2, 3, none⟩ = _ := BKX.out.fz 3
         have hsc3b : w9.cell? ⟨g2, 3, none⟩ = _ := BKX.out.c3
         have hr3 : w9.drew.cell? ⟨wE.heap.size, 3, none⟩ = _ := OX.out.c3
         have hs3 : w9.drew.frozen? ⟨g2, 3, none⟩ = _ := BKX.out.fz 3
         have hsc3 : w9.drew.cell? ⟨g2, 3, none⟩ = _ := BKX.out.c3
         go_region
         go_wp2
         refine bodyPost_ret (results_ctt rfl _ _ g2 35 #[.int .i64 st2, .int .i64 n, .bool false, .bool true] (0, 0) _ rfl (show PBlk (World.drew _) g2 st2 n false true from (((BKX.out.s0 st2).s1 n).s2 false).s3 true) Tryz.underlying35 rfl (by kernel_rfl)) rfl ?_
         exact ⟨rfl, below_drew ((((((below_lower HBR.out HBX.out HBR.out.size)).setCell (p := ⟨g2, 0, none⟩) (by rw [HG2.out]; exact Nat.le_refl _) _).setCell (p := ⟨g2, 1, none⟩) (by rw [HG2.out]; exact Nat.le_refl _) _).setCell (p := ⟨g2, 2, none⟩) (by rw [HG2.out]; exact Nat.le_refl _) _).setCell (p := ⟨g2, 3, none⟩) (by rw [HG2.out]; exact Nat.le_refl _) _)⟩
       | false =>
        rw [if_neg (by decide)] at h
        simp only [Option.some.injEq, Prod.mk.injEq] at h
        obtain ⟨rfl, rfl, rfl, rfl, rfl, rfl⟩ := h
        go_wp2_with (first | (go_at_call 31; refine (head_head_says.calls k wR.heap.size st2 old2 fs sz2 clos false st3 false sz3 wR _ (HIE.out.alloc _) (below_alloc HBE.out _) (Glob.below HG.out HBR.out) HSY.out).mono ?_; rintro x wF ⟨rfl, hI, hB, hK⟩; have hlt9 := HIE.out.lt; have hlt9b := BKE.out.lt; have hneA : wR.heap.size ≠ wE.heap.size := Nat.ne_of_lt hlt9; have hneB : wE.heap.size ≠ wR.heap.size := fun h => hneA h.symm; have hneC : g2 ≠ wE.heap.size := Nat.ne_of_lt hlt9b; have hneD : wE.heap.size ≠ g2 := fun h => hneC h.symm; have HNE := Aside0.mk hneB; have HNC := Aside0.mk hneC; have HND := Aside0.mk hneD; clear hlt9 hlt9b; have HIF := Aside0.mk hI; have HBF := Aside0.mk hB; have OF := Aside0.mk (PBlk.keep (show PBlk _ wE.heap.size st2 n false false from blk_new wE _) hK hneB); have BKF := Aside0.mk (PBlk.keep (BKE.out.alloc _) hK hne1); obtain ⟨A8, c8, hg8, _, _⟩ := hI; have hj1 := cellS61_1 hg8; have hj3 := cellS61_3 hg8; clear hg8 hB hK hp0 hp1 hp2 hp3 hpf0 hpf1 hpf2 hpf3 hk0 hk1 hk3; have hr0 := PBlk.c0 OF.out; have hr1 := PBlk.c1 OF.out; have hr2 := PBlk.c2 OF.out; have hr3 := PBlk.c3 OF.out; have hrf0 := PBlk.fz OF.out 0; have hrf1 := PBlk.fz OF.out 1; have hrf2 := PBlk.fz OF.out 2; have hrf3 := PBlk.fz OF.out 3; have hs0 := PBlk.c0 BKF.out; have hs1 := PBlk.c1 BKF.out; have hs2 := PBlk.c2 BKF.out; have hs3 := PBlk.c3 BKF.out; have hsf0 := PBlk.fz BKF.out 0; have hsf1 := PBlk.fz BKF.out 1; have hsf2 := PBlk.fz BKF.out 2; have hsf3 := PBlk.fz BKF.out 3))
        have OX := Aside0.mk (OF.out.s3 false)
        have BKX := Aside0.mk (BKF.out.far (p := ⟨wE.heap.size, 3, none⟩) HNC.out (.bool false))
        have HIX := Aside0.mk (HIF.out.far (p := ⟨wE.heap.size, 3, none⟩) (fun h => HNE.out h.symm) (.bool false))
        have HBX := Aside0.mk (HBF.out.setCell (p := ⟨wE.heap.size, 3, none⟩) (Nat.le_of_lt HIE.out.lt) (.bool false))
        clear hr0 hr1 hr2 hr3 hrf0 hrf1 hrf2 hrf3 hs0 hs1 hs2 hs3 hsf0 hsf1 hsf2 hsf3 hj3
        clear hj1
        generalize World.setCell wF ⟨wE.heap.size, 3, none⟩ (.bool false) = w9 at OX BKX HIX HBX ⊢
        obtain ⟨A8, c8, hg8, _, _⟩ := HIX.out
        have hj3 : w9.drew.cell? ⟨wR.heap.size, 3, none⟩ = _ := cellS61_3 hg8
        have hj3b : w9.cell? ⟨wR.heap.size, 3, none⟩ = _ := cellS61_3 hg8
        clear hg8
        have hr0b : w9.cell? ⟨wE.heap.size, 0, none⟩ = _ := OX.out.c0
        have hs0b : w9.frozen? ⟨g2, 0, none⟩ = _ := BKX.out.fz 0
        have hsc0b : w9.cell? ⟨g2, 0, none⟩ = _ := BKX.out.c0
        have hr0 : w9.drew.cell? ⟨wE.heap.size, 0, none⟩ = _ := OX.out.c0
        have hs0 : w9.drew.frozen? ⟨g2, 0, none⟩ = _ := BKX.out.fz 0
        have hsc0 : w9.drew.cell? ⟨g2, 0, none⟩ = _ := BKX.out.c0
        have hr1b : w9.cell? ⟨wE.heap.size, 1, none⟩ = _ := OX.out.c1
        have hs1b : w9.frozen? ⟨g2, 1, none⟩ = _ := BKX.out.fz 1
        have hsc1b : w9.cell? ⟨g2, 1, none⟩ = _ := BKX.out.c1
        have hr1 : w9.drew.cell? ⟨wE.heap.size, 1, none⟩ = _ := OX.out.c1
        have hs1 : w9.drew.frozen? ⟨g2, 1, none⟩ = _ := BKX.out.fz 1
        have hsc1 : w9.drew.cell? ⟨g2, 1, none⟩ = _ := BKX.out.c1
        have hr2b : w9.cell? ⟨wE.heap.size, 2, none⟩ = _ := OX.out.c2
        have hs2b : w9.frozen? ⟨g2, 2, none⟩ = _ := BKX.out.fz 2
        have hsc2b : w9.cell? ⟨g2, 2, none⟩ = _ := BKX.out.c2
        have hr2 : w9.drew.cell? ⟨wE.heap.size, 2, none⟩ = _ := OX.out.c2
        have hs2 : w9.drew.frozen? ⟨g2, 2, none⟩ = _ := BKX.out.fz 2
        have hsc2 : w9.drew.cell? ⟨g2, 2, none⟩ = _ := BKX.out.c2
        have hr3b : w9.cell? ⟨wE.heap.size, 3, none⟩ = _ := OX.out.c3
        have hs3b : w9.frozen? ⟨g2, 3, none⟩ = _ := BKX.out.fz 3
        have hsc3b : w9.cell? ⟨g2, 3, none⟩ = _ := BKX.out.c3
        have hr3 : w9.drew.cell? ⟨wE.heap.size, 3, none⟩ = _ := OX.out.c3
        have hs3 : w9.drew.frozen? ⟨g2, 3, none⟩ = _ := BKX.out.fz 3
        have hsc3 : w9.drew.cell? ⟨g2, 3, none⟩ = _ := BKX.out.c3
        go_region
        go_wp2
        refine bodyPost_ret (results_ctt rfl _ _ g2 35 #[.int .i64 st2, .int .i64 n, .bool false, .bool false] (0, 0) _ rfl (show PBlk (World.drew _) g2 st2 n false false from (((BKX.out.s0 st2).s1 n).s2 false).s3 false) Tryz.underlying35 rfl (by kernel_rfl)) rfl ?_
        exact ⟨rfl, below_drew ((((((below_lower HBR.out HBX.out HBR.out.size)).setCell (p := ⟨g2, 0, none⟩) (by rw [HG2.out]; exact Nat.le_refl _) _).setCell (p := ⟨g2, 1, none⟩) (by rw [HG2.out]; exact Nat.le_refl _) _).setCell (p := ⟨g2, 2, none⟩) (by rw [HG2.out]; exact Nat.le_refl _) _).setCell (p := ⟨g2, 3, none⟩) (by rw [HG2.out]; exact Nat.le_refl _) _)⟩
     ·have yn : decide (n ≥ 0) = false := decide_eq_false yn0
      clear cnn
      by_cases l1 : 1 < cd.length
      ·rw [if_pos l1] at h
       have yl : decide ((cd.length : Int) > 1) = true := decide_eq_true (by omega)
       have yl2 : decide (1 < cd.length) = true := decide_eq_true l1
       clear l1
       simp only [Option.some.injEq, Prod.mk.injEq] at h
       obtain ⟨rfl, rfl, rfl, rfl, rfl, rfl⟩ := h
       go_wp2
       refine bodyPost_ret (results_ctt rfl _ _ g2 35 #[.int .i64 0, .int .i64 0, .bool false, .bool false] (0, 0) _ rfl ((((PBlk.s0 BKE.out 0).s1 0).s2 false).s3 false) Tryz.underlying35 rfl (by kernel_rfl)) rfl ?_
       exact ⟨rfl, (((((below_lower HBR.out HBE.out HBR.out.size)).setCell (p := ⟨g2, 0, none⟩) (by rw [HG2.out]; exact Nat.le_refl _) _).setCell (p := ⟨g2, 1, none⟩) (by rw [HG2.out]; exact Nat.le_refl _) _).setCell (p := ⟨g2, 2, none⟩) (by rw [HG2.out]; exact Nat.le_refl _) _).setCell (p := ⟨g2, 3, none⟩) (by rw [HG2.out]; exact Nat.le_refl _) _⟩
      ·rw [if_neg l1] at h
       have yl : decide ((cd.length : Int) > 1) = false := decide_eq_false (by omega)
       have yl2 : decide (1 < cd.length) = false := decide_eq_false l1
       by_cases l2 : cd.length = 1
       ·rw [if_pos l2] at h
        have yq : ((cd.length : Int) == 1) = true := beq_iff_eq.mpr (by omega)
        have yq2 : (cd.length == 1) = true := beq_iff_eq.mpr l2
        have HL1 := Aside0.mk l2
        have q0 : (0 < cd.length) = True := eq_true (by omega)
        have q0i : ((0 : Int) < (cd.length : Int)) = True := eq_true (by omega)
        clear l1 l2
        obtain ⟨ad, ea, hx0⟩ := Kd.at_string HRC.out 0 (by decide) (by have := HL1.out; omega)
        subst ea
        have hx1 : wE.cell? ad = some (.string (rdOf ByteArray.empty cd 0)) := hx0
        clear hx0
        replace h := Option.bind_eq_some_iff.mp h
        obtain ⟨s, hr, h⟩ := h
        have HSM := Aside0.mk hr
        clear hr
        by_cases cs : s.toList = ([99, 104, 117, 110, 107, 101, 100] : List UInt8)
        ·rw [if_pos cs] at h
         have ys : (s.toList != ([99, 104, 117, 110, 107, 101, 100] : List UInt8)) = false := bne_eq_false_iff_eq.mpr cs
         have ys2 : (s.toList == ([99, 104, 117, 110, 107, 101, 100] : List UInt8)) = true := beq_iff_eq.mpr cs
         clear cs
         cases old2 with
         | true =>
          rw [if_pos rfl] at h
          simp only [Option.some.injEq, Prod.mk.injEq] at h
          obtain ⟨rfl, rfl, rfl, rfl, rfl, rfl⟩ := h
          go_wp2_with (first | (go_at_call 30; refine (head_small.calls (rdOf ByteArray.empty cd 0) s _ HSM.out).mono ?_; rintro x wS ⟨rfl, hb⟩; have HIS := Aside0.mk (HIE.out.below hb); have HBS := Aside0.mk (below_lower HBE.out hb HBE.out.size); have BKS := Aside0.mk (show PBlk wS g2 0 0 false false from (hb.block g2 BKE.out.lt).trans BKE.out); clear hp0 hp1 hp2 hp3 hpf0 hpf1 hpf2 hpf3 hk0 hk1 hk3; obtain ⟨A6, c6, hg6, _, _⟩ := HIS.out; have hk0 := cellS61_0 hg6; have hk1 := cellS61_1 hg6; have hk3 := cellS61_3 hg6; clear hg6 hb; have hp0 := PBlk.c0 BKS.out; have hp1 := PBlk.c1 BKS.out; have hp2 := PBlk.c2 BKS.out; have hp3 := PBlk.c3 BKS.out; have hpf0 := PBlk.fz BKS.out 0; have hpf1 := PBlk.fz BKS.out 1; have hpf2 := PBlk.fz BKS.out 2; have hpf3 := PBlk.fz BKS.out 3))
          refine bodyPost_ret (results_ctt rfl _ _ g2 35 #[.int .i64 0, .int .i64 0, .bool false, .bool false] (0, 0) _ rfl ((((PBlk.s0 BKS.out 0).s1 0).s2 false).s3 false) Tryz.underlying35 rfl (by kernel_rfl)) rfl ?_
          exact ⟨rfl, (((((below_lower HBR.out HBS.out HBR.out.size)).setCell (p := ⟨g2, 0, none⟩) (by rw [HG2.out]; exact Nat.le_refl _) _).setCell (p := ⟨g2, 1, none⟩) (by rw [HG2.out]; exact Nat.le_refl _) _).setCell (p := ⟨g2, 2, none⟩) (by rw [HG2.out]; exact Nat.le_refl _) _).setCell (p := ⟨g2, 3, none⟩) (by rw [HG2.out]; exact Nat.le_refl _) _⟩
         | false =>
          rw [if_neg (by decide)] at h
          go_upto_region 11 with (first | (go_at_call 30; refine (head_small.calls (rdOf ByteArray.empty cd 0) s _ HSM.out).mono ?_; rintro x wS ⟨rfl, hb⟩; have HIS := Aside0.mk (HIE.out.below hb); have HBS := Aside0.mk (below_lower HBE.out hb HBE.out.size); have BKS := Aside0.mk (show PBlk wS g2 0 0 false false from (hb.block g2 BKE.out.lt).trans BKE.out); clear hp0 hp1 hp2 hp3 hpf0 hpf1 hpf2 hpf3 hk0 hk1 hk3; obtain ⟨A6, c6, hg6, _, _⟩ := HIS.out; have hk0 := cellS61_0 hg6; have hk1 := cellS61_1 hg6; have hk3 := cellS61_3 hg6; clear hg6 hb; have hp0 := PBlk.c0 BKS.out; have hp1 := PBlk.c1 BKS.out; have hp2 := PBlk.c2 BKS.out; have hp3 := PBlk.c3 BKS.out; have hpf0 := PBlk.fz BKS.out 0; have hpf1 := PBlk.fz BKS.out 1; have hpf2 := PBlk.fz BKS.out 2; have hpf3 := PBlk.fz BKS.out 3))
          unfold head_Parse.g at h
          replace h := Option.bind_eq_some_iff.mp h
          obtain ⟨⟨t1, st3, old3, sz3⟩, hr, h⟩ := h
          have HSY := Aside0.mk hr
          dsimp only at h
          clear hr
          have ylt : decide (n < 0) = true := decide_eq_true (by omega)
          cases t1 with
          | true =>
           rw [if_pos rfl] at h
           simp only [Option.some.injEq, Prod.mk.injEq] at h
           obtain ⟨rfl, rfl, rfl, rfl, rfl, rfl⟩ := h
           go_wp2_with (first | (go_at_call 31; refine (head_head_says.calls k wR.heap.size st2 false fs sz2 clos true st3 old3 sz3 wR _ (HIS.out.alloc _) (below_alloc HBS.out _) (Glob.below HG.out HBR.out) HSY.out).mono ?_; rintro x wF ⟨rfl, hI, hB, hK⟩; have hlt9 := HIS.out.lt; have hlt9b := BKS.out.lt; have hneA : wR.heap.size ≠ wS.heap.size := Nat.ne_of_lt hlt9; have hneB : wS.heap.size ≠ wR.heap.size := fun h => hneA h.symm; have hneC : g2 ≠ wS.heap.size := Nat.ne_of_lt hlt9b; have hneD : wS.heap.size ≠ g2 := fun h => hneC h.symm; have HNE := Aside0.mk hneB; have HNC := Aside0.mk hneC; have HND := Aside0.mk hneD; clear hlt9 hlt9b; have HIF := Aside0.mk hI; have HBF := Aside0.mk hB; have OF := Aside0.mk (PBlk.keep (show PBlk _ wS.heap.size st2 n true false from blk_new wS _) hK hneB); have BKF := Aside0.mk (PBlk.keep (BKS.out.alloc _) hK hne1); obtain ⟨A8, c8, hg8, _, _⟩ := hI; have hj1 := cellS61_1 hg8; have hj3 := cellS61_3 hg8; clear hg8 hB hK hp0 hp1 hp2 hp3 hpf0 hpf1 hpf2 hpf3 hk0 hk1 hk3; have hr0 := PBlk.c0 OF.out; have hr1 := PBlk.c1 OF.out; have hr2 := PBlk.c2 OF.out; have hr3 := PBlk.c3 OF.out; have hrf0 := PBlk.fz OF.out 0; have hrf1 := PBlk.fz OF.out 1; have hrf2 := PBlk.fz OF.out 2; have hrf3 := PBlk.fz OF.out 3; have hs0 := PBlk.c0 BKF.out; have hs1 := PBlk.c1 BKF.out; have hs2 := PBlk.c2 BKF.out; have hs3 := PBlk.c3 BKF.out; have hsf0 := PBlk.fz BKF.out 0; have hsf1 := PBlk.fz BKF.out 1; have hsf2 := PBlk.fz BKF.out 2; have hsf3 := PBlk.fz BKF.out 3))
           have OX := Aside0.mk (OF.out.s3 true)
           have BKX := Aside0.mk (BKF.out.far (p := ⟨wS.heap.size, 3, none⟩) HNC.out (.bool true))
           have HIX := Aside0.mk (HIF.out.far (p := ⟨wS.heap.size, 3, none⟩) (fun h => HNE.out h.symm) (.bool true))
           have HBX := Aside0.mk (HBF.out.setCell (p := ⟨wS.heap.size, 3, none⟩) (Nat.le_of_lt HIS.out.lt) (.bool true))
           clear hr0 hr1 hr2 hr3 hrf0 hrf1 hrf2 hrf3 hs0 hs1 hs2 hs3 hsf0 hsf1 hsf2 hsf3 hj3
           clear hj1
           generalize World.setCell wF ⟨wS.heap.size, 3, none⟩ (.bool true) = w9 at OX BKX HIX HBX ⊢
           obtain ⟨A8, c8, hg8, _, _⟩ := HIX.out
           have hj3 : w9.drew.cell? ⟨wR.heap.size, 3, none⟩ = _ := cellS61_3 hg8
           have hj3b : w9.cell? ⟨wR.heap.size, 3, none⟩ = _ := cellS61_3 hg8
           clear hg8
           have hr0b : w9.cell? ⟨wS.heap.size, 0, none⟩ = _ := OX.out.c0
           have hs0b : w9.frozen? ⟨g2, 0, none⟩ = _ := BKX.out.fz 0
           have hsc0b : w9.cell? ⟨g2, 0, none⟩ = _ := BKX.out.c0
           have hr0 : w9.drew.cell? ⟨wS.heap.size, 0, none⟩ = _ := OX.out.c0
           have hs0 : w9.drew.frozen? ⟨g2, 0, none⟩ = _ := BKX.out.fz 0
           have hsc0 : w9.drew.cell? ⟨g2, 0, none⟩ = _ := BKX.out.c0
           have hr1b : w9.cell? ⟨wS.heap.size, 1, none⟩ = _ := OX.out.c1
           have hs1b : w9.frozen? ⟨g2, 1, none⟩ = _ := BKX.out.fz 1
           have hsc1b : w9.cell? ⟨g2, 1, none⟩ = _ := BKX.out.c1
           have hr1 : w9.drew.cell? ⟨wS.heap.size, 1, none⟩ = _ := OX.out.c1
           have hs1 : w9.drew.frozen? ⟨g2, 1, none⟩ = _ := BKX.out.fz 1
           have hsc1 : w9.drew.cell? ⟨g2, 1, none⟩ = _ := BKX.out.c1
           have hr2b : w9.cell? ⟨wS.heap.size, 2, none⟩ = _ := OX.out.c2
           have hs2b : w9.frozen? ⟨g2, 2, none⟩ = _ := BKX.out.fz 2
           have hsc2b : w9.cell? ⟨g2, 2, none⟩ = _ := BKX.out.c2
           have hr2 : w9.drew.cell? ⟨wS.heap.size, 2, none⟩ = _ := OX.out.c2
           have hs2 : w9.drew.frozen? ⟨g2, 2, none⟩ = _ := BKX.out.fz 2
           have hsc2 : w9.drew.cell? ⟨g2, 2, none⟩ = _ := BKX.out.c2
           have hr3b : w9.cell? ⟨wS.heap.size, 3, none⟩ = _ := OX.out.c3
           have hs3b : w9.frozen? ⟨g2, 3, none⟩ = _ := BKX.out.fz 3
           have hsc3b : w9.cell? ⟨g2, 3, none⟩ = _ := BKX.out.c3
           have hr3 : w9.drew.cell? ⟨wS.heap.size, 3, none⟩ = _ := OX.out.c3
           have hs3 : w9.drew.frozen? ⟨g2, 3, none⟩ = _ := BKX.out.fz 3
           have hsc3 : w9.drew.cell? ⟨g2, 3, none⟩ = _ := BKX.out.c3
           go_region
           go_wp2
           refine bodyPost_ret (results_ctt rfl _ _ g2 35 #[.int .i64 st2, .int .i64 n, .bool true, .bool true] (0, 0) _ rfl (show PBlk (World.drew _) g2 st2 n true true from (((BKX.out.s0 st2).s1 n).s2 true).s3 true) Tryz.underlying35 rfl (by kernel_rfl)) rfl ?_
           exact ⟨rfl, below_drew ((((((below_lower HBR.out HBX.out HBR.out.size)).setCell (p := ⟨g2, 0, none⟩) (by rw [HG2.out]; exact Nat.le_refl _) _).setCell (p := ⟨g2, 1, none⟩) (by rw [HG2.out]; exact Nat.le_refl _) _).setCell (p := ⟨g2, 2, none⟩) (by rw [HG2.out]; exact Nat.le_refl _) _).setCell (p := ⟨g2, 3, none⟩) (by rw [HG2.out]; exact Nat.le_refl _) _)⟩
          | false =>
           rw [if_neg (by decide)] at h
           rw [if_neg (by rintro ⟨hx, hy⟩; first | omega | cases hy)] at h
           cases old3 with
           | true =>
            rw [if_pos rfl] at h
            replace h := Option.bind_eq_some_iff.mp h
            obtain ⟨⟨u1, st4, old4, sz4⟩, hr, h⟩ := h
            have HSZ := Aside0.mk hr
            dsimp only at h
            clear hr
            cases u1 with
            | true =>
             simp only [Option.some.injEq, Prod.mk.injEq] at h
             obtain ⟨rfl, rfl, rfl, rfl, rfl, rfl⟩ := h
             go_wp2_with (first | (go_at_call 31; refine (head_head_says.calls k wR.heap.size st3 true fs sz3 kali true st4 old4 sz4 wR _ HIF.out HBF.out (Glob.below HG.out HBR.out) HSZ.out).mono ?_; rintro x wH ⟨rfl, hI, hB, hK⟩; have HIH := Aside0.mk hI; have HBH := Aside0.mk hB; have OH := Aside0.mk (OF.out.keep hK HNE.out); have BKH := Aside0.mk (BKF.out.keep hK hne1); obtain ⟨A8, c8, hg8, _, _⟩ := hI; clear hj1 hj3; have hj3 := cellS61_3 hg8; clear hg8 hB hK hr0 hr1 hr2 hr3 hrf0 hrf1 hrf2 hrf3 hs0 hs1 hs2 hs3 hsf0 hsf1 hsf2 hsf3; have hr0 := PBlk.c0 OH.out; have hr1 := PBlk.c1 OH.out; have hr2 := PBlk.c2 OH.out; have hr3 := PBlk.c3 OH.out; have hrf0 := PBlk.fz OH.out 0; have hrf1 := PBlk.fz OH.out 1; have hrf2 := PBlk.fz OH.out 2; have hrf3 := PBlk.fz OH.out 3; have hs0 := PBlk.c0 BKH.out; have hs1 := PBlk.c1 BKH.out; have hs2 := PBlk.c2 BKH.out; have hs3 := PBlk.c3 BKH.out; have hsf0 := PBlk.fz BKH.out 0; have hsf1 := PBlk.fz BKH.out 1; have hsf2 := PBlk.fz BKH.out 2; have hsf3 := PBlk.fz BKH.out 3) | (go_at_call 31; refine (head_head_says.calls k wR.heap.size st2 false fs sz2 clos false st3 true sz3 wR _ (HIS.out.alloc _) (below_alloc HBS.out _) (Glob.below HG.out HBR.out) HSY.out).mono ?_; rintro x wF ⟨rfl, hI, hB, hK⟩; have hlt9 := HIS.out.lt; have hlt9b := BKS.out.lt; have hneA : wR.heap.size ≠ wS.heap.size := Nat.ne_of_lt hlt9; have hneB : wS.heap.size ≠ wR.heap.size := fun h => hneA h.symm; have hneC : g2 ≠ wS.heap.size := Nat.ne_of_lt hlt9b; have hneD : wS.heap.size ≠ g2 := fun h => hneC h.symm; have HNE := Aside0.mk hneB; have HNC := Aside0.mk hneC; have HND := Aside0.mk hneD; clear hlt9 hlt9b; have HIF := Aside0.mk hI; have HBF := Aside0.mk hB; have OF := Aside0.mk (PBlk.keep (show PBlk _ wS.heap.size st2 n true false from blk_new wS _) hK hneB); have BKF := Aside0.mk (PBlk.keep (BKS.out.alloc _) hK hne1); obtain ⟨A8, c8, hg8, _, _⟩ := hI; have hj1 := cellS61_1 hg8; have hj3 := cellS61_3 hg8; clear hg8 hB hK hp0 hp1 hp2 hp3 hpf0 hpf1 hpf2 hpf3 hk0 hk1 hk3; have hr0 := PBlk.c0 OF.out; have hr1 := PBlk.c1 OF.out; have hr2 := PBlk.c2 OF.out; have hr3 := PBlk.c3 OF.out; have hrf0 := PBlk.fz OF.out 0; have hrf1 := PBlk.fz OF.out 1; have hrf2 := PBlk.fz OF.out 2; have hrf3 := PBlk.fz OF.out 3; have hs0 := PBlk.c0 BKF.out; have hs1 := PBlk.c1 BKF.out; have hs2 := PBlk.c2 BKF.out; have hs3 := PBlk.c3 BKF.out; have hsf0 := PBlk.fz BKF.out 0; have hsf1 := PBlk.fz BKF.out 1; have hsf2 := PBlk.fz BKF.out 2; have hsf3 := PBlk.fz BKF.out 3))
             have OX := Aside0.mk (OH.out.s3 false)
             have BKX := Aside0.mk (BKH.out.far (p := ⟨wS.heap.size, 3, none⟩) HNC.out (.bool false))
             have HIX := Aside0.mk (HIH.out.far (p := ⟨wS.heap.size, 3, none⟩) (fun h => HNE.out h.symm) (.bool false))
             have HBX := Aside0.mk (HBH.out.setCell (p := ⟨wS.heap.size, 3, none⟩) (Nat.le_of_lt HIS.out.lt) (.bool false))
             clear hr0 hr1 hr2 hr3 hrf0 hrf1 hrf2 hrf3 hs0 hs1 hs2 hs3 hsf0 hsf1 hsf2 hsf3 hj3
             generalize World.setCell wH ⟨wS.heap.size, 3, none⟩ (.bool false) = w9 at OX BKX HIX HBX ⊢
             obtain ⟨A8, c8, hg8, _, _⟩ := HIX.out
             have hj3 : w9.drew.cell? ⟨wR.heap.size, 3, none⟩ = _ := cellS61_3 hg8
             have hj3b : w9.cell? ⟨wR.heap.size, 3, none⟩ = _ := cellS61_3 hg8
             clear hg8
             have hr0b : w9.cell? ⟨wS.heap.size, 0, none⟩ = _ := OX.out.c0
             have hs0b : w9.frozen? ⟨g2, 0, none⟩ = _ := BKX.out.fz 0
             have hsc0b : w9.cell? ⟨g2, 0, none⟩ = _ := BKX.out.c0
             have hr0 : w9.drew.cell? ⟨wS.heap.size, 0, none⟩ = _ := OX.out.c0
             have hs0 : w9.drew.frozen? ⟨g2, 0, none⟩ = _ := BKX.out.fz 0
             have hsc0 : w9.drew.cell? ⟨g2, 0, none⟩ = _ := BKX.out.c0
             have hr1b : w9.cell? ⟨wS.heap.size, 1, none⟩ = _ := OX.out.c1
             have hs1b : w9.frozen? ⟨g2, 1, none⟩ = _ := BKX.out.fz 1
             have hsc1b : w9.cell? ⟨g2, 1, none⟩ = _ := BKX.out.c1
             have hr1 : w9.drew.cell? ⟨wS.heap.size, 1, none⟩ = _ := OX.out.c1
             have hs1 : w9.drew.frozen? ⟨g2, 1, none⟩ = _ := BKX.out.fz 1
             have hsc1 : w9.drew.cell? ⟨g2, 1, none⟩ = _ := BKX.out.c1
             have hr2b : w9.cell? ⟨wS.heap.size, 2, none⟩ = _ := OX.out.c2
             have hs2b : w9.frozen? ⟨g2, 2, none⟩ = _ := BKX.out.fz 2
             have hsc2b : w9.cell? ⟨g2, 2, none⟩ = _ := BKX.out.c2
             have hr2 : w9.drew.cell? ⟨wS.heap.size, 2, none⟩ = _ := OX.out.c2
             have hs2 : w9.drew.frozen? ⟨g2, 2, none⟩ = _ := BKX.out.fz 2
             have hsc2 : w9.drew.cell? ⟨g2, 2, none⟩ = _ := BKX.out.c2
             have hr3b : w9.cell? ⟨wS.heap.size, 3, none⟩ = _ := OX.out.c3
             have hs3b : w9.frozen? ⟨g2, 3, none⟩ = _ := BKX.out.fz 3
             have hsc3b : w9.cell? ⟨g2, 3, none⟩ = _ := BKX.out.c3
             have hr3 : w9.drew.cell? ⟨wS.heap.size, 3, none⟩ = _ := OX.out.c3
             have hs3 : w9.drew.frozen? ⟨g2, 3, none⟩ = _ := BKX.out.fz 3
             have hsc3 : w9.drew.cell? ⟨g2, 3, none⟩ = _ := BKX.out.c3
             go_region
             go_wp2
             refine bodyPost_ret (results_ctt rfl _ _ g2 35 #[.int .i64 st2, .int .i64 n, .bool true, .bool false] (0, 0) _ rfl (show PBlk (World.drew _) g2 st2 n true false from (((BKX.out.s0 st2).s1 n).s2 true).s3 false) Tryz.underlying35 rfl (by kernel_rfl)) rfl ?_
             exact ⟨rfl, below_drew ((((((below_lower HBR.out HBX.out HBR.out.size)).setCell (p := ⟨g2, 0, none⟩) (by rw [HG2.out]; exact Nat.le_refl _) _).setCell (p := ⟨g2, 1, none⟩) (by rw [HG2.out]; exact Nat.le_refl _) _).setCell (p := ⟨g2, 2, none⟩) (by rw [HG2.out]; exact Nat.le_refl _) _).setCell (p := ⟨g2, 3, none⟩) (by rw [HG2.out]; exact Nat.le_refl _) _)⟩
            | false =>
             simp only [Option.some.injEq, Prod.mk.injEq] at h
             obtain ⟨rfl, rfl, rfl, rfl, rfl, rfl⟩ := h
             go_wp2_with (first | (go_at_call 31; refine (head_head_says.calls k wR.heap.size st3 true fs sz3 kali false st4 old4 sz4 wR _ HIF.out HBF.out (Glob.below HG.out HBR.out) HSZ.out).mono ?_; rintro x wH ⟨rfl, hI, hB, hK⟩; have HIH := Aside0.mk hI; have HBH := Aside0.mk hB; have OH := Aside0.mk (OF.out.keep hK HNE.out); have BKH := Aside0.mk (BKF.out.keep hK hne1); obtain ⟨A8, c8, hg8, _, _⟩ := hI; clear hj1 hj3; have hj3 := cellS61_3 hg8; clear hg8 hB hK hr0 hr1 hr2 hr3 hrf0 hrf1 hrf2 hrf3 hs0 hs1 hs2 hs3 hsf0 hsf1 hsf2 hsf3; have hr0 := PBlk.c0 OH.out; have hr1 := PBlk.c1 OH.out; have hr2 := PBlk.c2 OH.out; have hr3 := PBlk.c3 OH.out; have hrf0 := PBlk.fz OH.out 0; have hrf1 := PBlk.fz OH.out 1; have hrf2 := PBlk.fz OH.out 2; have hrf3 := PBlk.fz OH.out 3; have hs0 := PBlk.c0 BKH.out; have hs1 := PBlk.c1 BKH.out; have hs2 := PBlk.c2 BKH.out; have hs3 := PBlk.c3 BKH.out; have hsf0 := PBlk.fz BKH.out 0; have hsf1 := PBlk.fz BKH.out 1; have hsf2 := PBlk.fz BKH.out 2; have hsf3 := PBlk.fz BKH.out 3) | (go_at_call 31; refine (head_head_says.calls k wR.heap.size st2 false fs sz2 clos false st3 true sz3 wR _ (HIS.out.alloc _) (below_alloc HBS.out _) (Glob.below HG.out HBR.out) HSY.out).mono ?_; rintro x wF ⟨rfl, hI, hB, hK⟩; have hlt9 := HIS.out.lt; have hlt9b := BKS.out.lt; have hneA : wR.heap.size ≠ wS.heap.size := Nat.ne_of_lt hlt9; have hneB : wS.heap.size ≠ wR.heap.size := fun h => hneA h.symm; have hneC : g2 ≠ wS.heap.size := Nat.ne_of_lt hlt9b; have hneD : wS.heap.size ≠ g2 := fun h => hneC h.symm; have HNE := Aside0.mk hneB; have HNC := Aside0.mk hneC; have HND := Aside0.mk hneD; clear hlt9 hlt9b; have HIF := Aside0.mk hI; have HBF := Aside0.mk hB; have OF := Aside0.mk (PBlk.keep (show PBlk _ wS.heap.size st2 n true false from blk_new wS _) hK hneB); have BKF := Aside0.mk (PBlk.keep (BKS.out.alloc _) hK hne1); obtain ⟨A8, c8, hg8, _, _⟩ := hI; have hj1 := cellS61_1 hg8; have hj3 := cellS61_3 hg8; clear hg8 hB hK hp0 hp1 hp2 hp3 hpf0 hpf1 hpf2 hpf3 hk0 hk1 hk3; have hr0 := PBlk.c0 OF.out; have hr1 := PBlk.c1 OF.out; have hr2 := PBlk.c2 OF.out; have hr3 := PBlk.c3 OF.out; have hrf0 := PBlk.fz OF.out 0; have hrf1 := PBlk.fz OF.out 1; have hrf2 := PBlk.fz OF.out 2; have hrf3 := PBlk.fz OF.out 3; have hs0 := PBlk.c0 BKF.out; have hs1 := PBlk.c1 BKF.out; have hs2 := PBlk.c2 BKF.out; have hs3 := PBlk.c3 BKF.out; have hsf0 := PBlk.fz BKF.out 0; have hsf1 := PBlk.fz BKF.out 1; have hsf2 := PBlk.fz BKF.out 2; have hsf3 := PBlk.fz BKF.out 3))
             have OX := Aside0.mk (OH.out.s3 true)
             have BKX := Aside0.mk (BKH.out.far (p := ⟨wS.heap.size, 3, none⟩) HNC.out (.bool true))
             have HIX := Aside0.mk (HIH.out.far (p := ⟨wS.heap.size, 3, none⟩) (fun h => HNE.out h.symm) (.bool true))
             have HBX := Aside0.mk (HBH.out.setCell (p := ⟨wS.heap.size, 3, none⟩) (Nat.le_of_lt HIS.out.lt) (.bool true))
             clear hr0 hr1 hr2 hr3 hrf0 hrf1 hrf2 hrf3 hs0 hs1 hs2 hs3 hsf0 hsf1 hsf2 hsf3 hj3
             generalize World.setCell wH ⟨wS.heap.size, 3, none⟩ (.bool true) = w9 at OX BKX HIX HBX ⊢
             obtain ⟨A8, c8, hg8, _, _⟩ := HIX.out
             have hj3 : w9.drew.cell? ⟨wR.heap.size, 3, none⟩ = _ := cellS61_3 hg8
             have hj3b : w9.cell? ⟨wR.heap.size, 3, none⟩ = _ := cellS61_3 hg8
             clear hg8
             have hr0b : w9.cell? ⟨wS.heap.size, 0, none⟩ = _ := OX.out.c0
             have hs0b : w9.frozen? ⟨g2, 0, none⟩ = _ := BKX.out.fz 0
             have hsc0b : w9.cell? ⟨g2, 0, none⟩ = _ := BKX.out.c0
             have hr0 : w9.drew.cell? ⟨wS.heap.size, 0, none⟩ = _ := OX.out.c0
             have hs0 : w9.drew.frozen? ⟨g2, 0, none⟩ = _ := BKX.out.fz 0
             have hsc0 : w9.drew.cell? ⟨g2, 0, none⟩ = _ := BKX.out.c0
             have hr1b : w9.cell? ⟨wS.heap.size, 1, none⟩ = _ := OX.out.c1
             have hs1b : w9.frozen? ⟨g2, 1, none⟩ = _ := BKX.out.fz 1
             have hsc1b : w9.cell? ⟨g2, 1, none⟩ = _ := BKX.out.c1
             have hr1 : w9.drew.cell? ⟨wS.heap.size, 1, none⟩ = _ := OX.out.c1
             have hs1 : w9.drew.frozen? ⟨g2, 1, none⟩ = _ := BKX.out.fz 1
             have hsc1 : w9.drew.cell? ⟨g2, 1, none⟩ = _ := BKX.out.c1
             have hr2b : w9.cell? ⟨wS.heap.size, 2, none⟩ = _ := OX.out.c2
             have hs2b : w9.frozen? ⟨g2, 2, none⟩ = _ := BKX.out.fz 2
             have hsc2b : w9.cell? ⟨g2, 2, none⟩ = _ := BKX.out.c2
             have hr2 : w9.drew.cell? ⟨wS.heap.size, 2, none⟩ = _ := OX.out.c2
             have hs2 : w9.drew.frozen? ⟨g2, 2, none⟩ = _ := BKX.out.fz 2
             have hsc2 : w9.drew.cell? ⟨g2, 2, none⟩ = _ := BKX.out.c2
             have hr3b : w9.cell? ⟨wS.heap.size, 3, none⟩ = _ := OX.out.c3
             have hs3b : w9.frozen? ⟨g2, 3, none⟩ = _ := BKX.out.fz 3
             have hsc3b : w9.cell? ⟨g2, 3, none⟩ = _ := BKX.out.c3
             have hr3 : w9.drew.cell? ⟨wS.heap.size, 3, none⟩ = _ := OX.out.c3
             have hs3 : w9.drew.frozen? ⟨g2, 3, none⟩ = _ := BKX.out.fz 3
             have hsc3 : w9.drew.cell? ⟨g2, 3, none⟩ = _ := BKX.out.c3
             go_region
             go_wp2
             refine bodyPost_ret (results_ctt rfl _ _ g2 35 #[.int .i64 st2, .int .i64 n, .bool true, .bool true] (0, 0) _ rfl (show PBlk (World.drew _) g2 st2 n true true from (((BKX.out.s0 st2).s1 n).s2 true).s3 true) Tryz.underlying35 rfl (by kernel_rfl)) rfl ?_
             exact ⟨rfl, below_drew ((((((below_lower HBR.out HBX.out HBR.out.size)).setCell (p := ⟨g2, 0, none⟩) (by rw [HG2.out]; exact Nat.le_refl _) _).setCell (p := ⟨g2, 1, none⟩) (by rw [HG2.out]; exact Nat.le_refl _) _).setCell (p := ⟨g2, 2, none⟩) (by rw [HG2.out]; exact Nat.le_refl _) _).setCell (p := ⟨g2, 3, none⟩) (by rw [HG2.out]; exact Nat.le_refl _) _)⟩
           | false =>
            rw [if_neg (by decide)] at h
            simp only [Option.some.injEq, Prod.mk.injEq] at h
            obtain ⟨rfl, rfl, rfl, rfl, rfl, rfl⟩ := h
            go_wp2_with (first | (go_at_call 31; refine (head_head_says.calls k wR.heap.size st2 false fs sz2 clos false st3 false sz3 wR _ (HIS.out.alloc _) (below_alloc HBS.out _) (Glob.below HG.out HBR.out) HSY.out).mono ?_; rintro x wF ⟨rfl, hI, hB, hK⟩; have hlt9 := HIS.out.lt; have hlt9b := BKS.out.lt; have hneA : wR.heap.size ≠ wS.heap.size := Nat.ne_of_lt hlt9; have hneB : wS.heap.size ≠ wR.heap.size := fun h => hneA h.symm; have hneC : g2 ≠ wS.heap.size := Nat.ne_of_lt hlt9b; have hneD : wS.heap.size ≠ g2 := fun h => hneC h.symm; have HNE := Aside0.mk hneB; have HNC := Aside0.mk hneC; have HND := Aside0.mk hneD; clear hlt9 hlt9b; have HIF := Aside0.mk hI; have HBF := Aside0.mk hB; have OF := Aside0.mk (PBlk.keep (show PBlk _ wS.heap.size st2 n true false from blk_new wS _) hK hneB); have BKF := Aside0.mk (PBlk.keep (BKS.out.alloc _) hK hne1); obtain ⟨A8, c8, hg8, _, _⟩ := hI; have hj1 := cellS61_1 hg8; have hj3 := cellS61_3 hg8; clear hg8 hB hK hp0 hp1 hp2 hp3 hpf0 hpf1 hpf2 hpf3 hk0 hk1 hk3; have hr0 := PBlk.c0 OF.out; have hr1 := PBlk.c1 OF.out; have hr2 := PBlk.c2 OF.out; have hr3 := PBlk.c3 OF.out; have hrf0 := PBlk.fz OF.out 0; have hrf1 := PBlk.fz OF.out 1; have hrf2 := PBlk.fz OF.out 2; have hrf3 := PBlk.fz OF.out 3; have hs0 := PBlk.c0 BKF.out; have hs1 := PBlk.c1 BKF.out; have hs2 := PBlk.c2 BKF.out; have hs3 := PBlk.c3 BKF.out; have hsf0 := PBlk.fz BKF.out 0; have hsf1 := PBlk.fz BKF.out 1; have hsf2 := PBlk.fz BKF.out 2; have hsf3 := PBlk.fz BKF.out 3))
            have OX := Aside0.mk (OF.out.s3 false)
            have BKX := Aside0.mk (BKF.out.far (p := ⟨wS.heap.size, 3, none⟩) HNC.out (.bool false))
            have HIX := Aside0.mk (HIF.out.far (p := ⟨wS.heap.size, 3, none⟩) (fun h => HNE.out h.symm) (.bool false))
            have HBX := Aside0.mk (HBF.out.setCell (p := ⟨wS.heap.size, 3, none⟩) (Nat.le_of_lt HIS.out.lt) (.bool false))
            clear hr0 hr1 hr2 hr3 hrf0 hrf1 hrf2 hrf3 hs0 hs1 hs2 hs3 hsf0 hsf1 hsf2 hsf3 hj3
            clear hj1
            generalize World.setCell wF ⟨wS.heap.size, 3, none⟩ (.bool false) = w9 at OX BKX HIX HBX ⊢
            obtain ⟨A8, c8, hg8, _, _⟩ := HIX.out
            have hj3 : w9.drew.cell? ⟨wR.heap.size, 3, none⟩ = _ := cellS61_3 hg8
            have hj3b : w9.cell? ⟨wR.heap.size, 3, none⟩ = _ := cellS61_3 hg8
            clear hg8
            have hr0b : w9.cell? ⟨wS.heap.size, 0, none⟩ = _ := OX.out.c0
            have hs0b : w9.frozen? ⟨g2, 0, none⟩ = _ := BKX.out.fz 0
            have hsc0b : w9.cell? ⟨g2, 0, none⟩ = _ := BKX.out.c0
            have hr0 : w9.drew.cell? ⟨wS.heap.size, 0, none⟩ = _ := OX.out.c0
            have hs0 : w9.drew.frozen? ⟨g2, 0, none⟩ = _ := BKX.out.fz 0
            have hsc0 : w9.drew.cell? ⟨g2, 0, none⟩ = _ := BKX.out.c0
            have hr1b : w9.cell? ⟨wS.heap.size, 1, none⟩ = _ := OX.out.c1
            have hs1b : w9.frozen? ⟨g2, 1, none⟩ = _ := BKX.out.fz 1
            have hsc1b : w9.cell? ⟨g2, 1, none⟩ = _ := BKX.out.c1
            have hr1 : w9.drew.cell? ⟨wS.heap.size, 1, none⟩ = _ := OX.out.c1
            have hs1 : w9.drew.frozen? ⟨g2, 1, none⟩ = _ := BKX.out.fz 1
            have hsc1 : w9.drew.cell? ⟨g2, 1, none⟩ = _ := BKX.out.c1
            have hr2b : w9.cell? ⟨wS.heap.size, 2, none⟩ = _ := OX.out.c2
            have hs2b : w9.frozen? ⟨g2, 2, none⟩ = _ := BKX.out.fz 2
            have hsc2b : w9.cell? ⟨g2, 2, none⟩ = _ := BKX.out.c2
            have hr2 : w9.drew.cell? ⟨wS.heap.size, 2, none⟩ = _ := OX.out.c2
            have hs2 : w9.drew.frozen? ⟨g2, 2, none⟩ = _ := BKX.out.fz 2
            have hsc2 : w9.drew.cell? ⟨g2, 2, none⟩ = _ := BKX.out.c2
            have hr3b : w9.cell? ⟨wS.heap.size, 3, none⟩ = _ := OX.out.c3
            have hs3b : w9.frozen? ⟨g2, 3, none⟩ = _ := BKX.out.fz 3
            have hsc3b : w9.cell? ⟨g2, 3, none⟩ = _ := BKX.out.c3
            have hr3 : w9.drew.cell? ⟨wS.heap.size, 3, none⟩ = _ := OX.out.c3
            have hs3 : w9.drew.frozen? ⟨g2, 3, none⟩ = _ := BKX.out.fz 3
            have hsc3 : w9.drew.cell? ⟨g2, 3, none⟩ = _ := BKX.out.c3
            go_region
            go_wp2
            refine bodyPost_ret (results_ctt rfl _ _ g2 35 #[.int .i64 st2, .int .i64 n, .bool true, .bool false] (0, 0) _ rfl (show PBlk (World.drew _) g2 st2 n true false from (((BKX.out.s0 st2).s1 n).s2 true).s3 false) Tryz.underlying35 rfl (by kernel_rfl)) rfl ?_
            exact ⟨rfl, below_drew ((((((below_lower HBR.out HBX.out HBR.out.size)).setCell (p := ⟨g2, 0, none⟩) (by rw [HG2.out]; exact Nat.le_refl _) _).setCell (p := ⟨g2, 1, none⟩) (by rw [HG2.out]; exact Nat.le_refl _) _).setCell (p := ⟨g2, 2, none⟩) (by rw [HG2.out]; exact Nat.le_refl _) _).setCell (p := ⟨g2, 3, none⟩) (by rw [HG2.out]; exact Nat.le_refl _) _)⟩
        ·rw [if_neg cs] at h
         have ys : (s.toList != ([99, 104, 117, 110, 107, 101, 100] : List UInt8)) = true := bne_iff_ne.mpr cs
         have ys2 : (s.toList == ([99, 104, 117, 110, 107, 101, 100] : List UInt8)) = false := beq_eq_false_iff_ne.mpr cs
         clear cs
         simp only [Option.some.injEq, Prod.mk.injEq] at h
         obtain ⟨rfl, rfl, rfl, rfl, rfl, rfl⟩ := h
         go_wp2_with (first | (go_at_call 30; refine (head_small.calls (rdOf ByteArray.empty cd 0) s _ HSM.out).mono ?_; rintro x wS ⟨rfl, hb⟩; have HIS := Aside0.mk (HIE.out.below hb); have HBS := Aside0.mk (below_lower HBE.out hb HBE.out.size); have BKS := Aside0.mk (show PBlk wS g2 0 0 false false from (hb.block g2 BKE.out.lt).trans BKE.out); clear hp0 hp1 hp2 hp3 hpf0 hpf1 hpf2 hpf3 hk0 hk1 hk3; obtain ⟨A6, c6, hg6, _, _⟩ := HIS.out; have hk0 := cellS61_0 hg6; have hk1 := cellS61_1 hg6; have hk3 := cellS61_3 hg6; clear hg6 hb; have hp0 := PBlk.c0 BKS.out; have hp1 := PBlk.c1 BKS.out; have hp2 := PBlk.c2 BKS.out; have hp3 := PBlk.c3 BKS.out; have hpf0 := PBlk.fz BKS.out 0; have hpf1 := PBlk.fz BKS.out 1; have hpf2 := PBlk.fz BKS.out 2; have hpf3 := PBlk.fz BKS.out 3))
         refine bodyPost_ret (results_ctt rfl _ _ g2 35 #[.int .i64 0, .int .i64 0, .bool false, .bool false] (0, 0) _ rfl ((((PBlk.s0 BKS.out 0).s1 0).s2 false).s3 false) Tryz.underlying35 rfl (by kernel_rfl)) rfl ?_
         exact ⟨rfl, (((((below_lower HBR.out HBS.out HBR.out.size)).setCell (p := ⟨g2, 0, none⟩) (by rw [HG2.out]; exact Nat.le_refl _) _).setCell (p := ⟨g2, 1, none⟩) (by rw [HG2.out]; exact Nat.le_refl _) _).setCell (p := ⟨g2, 2, none⟩) (by rw [HG2.out]; exact Nat.le_refl _) _).setCell (p := ⟨g2, 3, none⟩) (by rw [HG2.out]; exact Nat.le_refl _) _⟩
       ·rw [if_neg l2] at h
        have hl0 : cd.length = 0 := by omega
        clear yl yl2 l1 l2
        obtain rfl : cd = [] := List.length_eq_zero_iff.mp hl0
        clear hl0
        go_upto_region 11 with (fail)
        unfold head_Parse.g at h
        replace h := Option.bind_eq_some_iff.mp h
        obtain ⟨⟨t1, st3, old3, sz3⟩, hr, h⟩ := h
        have HSY := Aside0.mk hr
        dsimp only at h
        clear hr
        have ylt : decide (n < 0) = true := decide_eq_true (by omega)
        cases t1 with
        | true =>
         rw [if_pos rfl] at h
         simp only [Option.some.injEq, Prod.mk.injEq] at h
         obtain ⟨rfl, rfl, rfl, rfl, rfl, rfl⟩ := h
         go_wp2_with (first | (go_at_call 31; refine (head_head_says.calls k wR.heap.size st2 old2 fs sz2 clos true st3 old3 sz3 wR _ (HIE.out.alloc _) (below_alloc HBE.out _) (Glob.below HG.out HBR.out) HSY.out).mono ?_; rintro x wF ⟨rfl, hI, hB, hK⟩; have hlt9 := HIE.out.lt; have hlt9b := BKE.out.lt; have hneA : wR.heap.size ≠ wE.heap.size := Nat.ne_of_lt hlt9; have hneB : wE.heap.size ≠ wR.heap.size := fun h => hneA h.symm; have hneC : g2 ≠ wE.heap.size := Nat.ne_of_lt hlt9b; have hneD : wE.heap.size ≠ g2 := fun h => hneC h.symm; have HNE := Aside0.mk hneB; have HNC := Aside0.mk hneC; have HND := Aside0.mk hneD; clear hlt9 hlt9b; have HIF := Aside0.mk hI; have HBF := Aside0.mk hB; have OF := Aside0.mk (PBlk.keep (show PBlk _ wE.heap.size st2 n false false from blk_new wE _) hK hneB); have BKF := Aside0.mk (PBlk.keep (BKE.out.alloc _) hK hne1); obtain ⟨A8, c8, hg8, _, _⟩ := hI; have hj1 := cellS61_1 hg8; have hj3 := cellS61_3 hg8; clear hg8 hB hK hp0 hp1 hp2 hp3 hpf0 hpf1 hpf2 hpf3 hk0 hk1 hk3; have hr0 := PBlk.c0 OF.out; have hr1 := PBlk.c1 OF.out; have hr2 := PBlk.c2 OF.out; have hr3 := PBlk.c3 OF.out; have hrf0 := PBlk.fz OF.out 0; have hrf1 := PBlk.fz OF.out 1; have hrf2 := PBlk.fz OF.out 2; have hrf3 := PBlk.fz OF.out 3; have hs0 := PBlk.c0 BKF.out; have hs1 := PBlk.c1 BKF.out; have hs2 := PBlk.c2 BKF.out; have hs3 := PBlk.c3 BKF.out; have hsf0 := PBlk.fz BKF.out 0; have hsf1 := PBlk.fz BKF.out 1; have hsf2 := PBlk.fz BKF.out 2; have hsf3 := PBlk.fz BKF.out 3))
         have OX := Aside0.mk (OF.out.s3 true)
         have BKX := Aside0.mk (BKF.out.far (p := ⟨wE.heap.size, 3, none⟩) HNC.out (.bool true))
         have HIX := Aside0.mk (HIF.out.far (p := ⟨wE.heap.size, 3, none⟩) (fun h => HNE.out h.symm) (.bool true))
         have HBX := Aside0.mk (HBF.out.setCell (p := ⟨wE.heap.size, 3, none⟩) (Nat.le_of_lt HIE.out.lt) (.bool true))
         clear hr0 hr1 hr2 hr3 hrf0 hrf1 hrf2 hrf3 hs0 hs1 hs2 hs3 hsf0 hsf1 hsf2 hsf3 hj3
         clear hj1
         generalize World.setCell wF ⟨wE.heap.size, 3, none⟩ (.bool true) = w9 at OX BKX HIX HBX ⊢
         obtain ⟨A8, c8, hg8, _, _⟩ := HIX.out
         have hj3 : w9.drew.cell? ⟨wR.heap.size, 3, none⟩ = _ := cellS61_3 hg8
         have hj3b : w9.cell? ⟨wR.heap.size, 3, none⟩ = _ := cellS61_3 hg8
         clear hg8
         have hr0b : w9.cell? ⟨wE.heap.size, 0, none⟩ = _ := OX.out.c0
         have hs0b : w9.frozen? ⟨g2, 0, none⟩ = _ := BKX.out.fz 0
         have hsc0b : w9.cell? ⟨g2, 0, none⟩ = _ := BKX.out.c0
         have hr0 : w9.drew.cell? ⟨wE.heap.size, 0, none⟩ = _ := OX.out.c0
         have hs0 : w9.drew.frozen? ⟨g2, 0, none⟩ = _ := BKX.out.fz 0
         have hsc0 : w9.drew.cell? ⟨g2, 0, none⟩ = _ := BKX.out.c0
         have hr1b : w9.cell? ⟨wE.heap.size, 1, none⟩ = _ := OX.out.c1
         have hs1b : w9.frozen? ⟨g2, 1, none⟩ = _ := BKX.out.fz 1
         have hsc1b : w9.cell? ⟨g2, 1, none⟩ = _ := BKX.out.c1
         have hr1 : w9.drew.cell? ⟨wE.heap.size, 1, none⟩ = _ := OX.out.c1
         have hs1 : w9.drew.frozen? ⟨g2, 1, none⟩ = _ := BKX.out.fz 1
         have hsc1 : w9.drew.cell? ⟨g2, 1, none⟩ = _ := BKX.out.c1
         have hr2b : w9.cell? ⟨wE.heap.size, 2, none⟩ = _ := OX.out.c2
         have hs2b : w9.frozen? ⟨g2, 2, none⟩ = _ := BKX.out.fz 2
         have hsc2b : w9.cell? ⟨g2, 2, none⟩ = _ := BKX.out.c2
         have hr2 : w9.drew.cell? ⟨wE.heap.size, 2, none⟩ = _ := OX.out.c2
         have hs2 : w9.drew.frozen? ⟨g2, 2, none⟩ = _ := BKX.out.fz 2
         have hsc2 : w9.drew.cell? ⟨g2, 2, none⟩ = _ := BKX.out.c2
         have hr3b : w9.cell? ⟨wE.heap.size, 3, none⟩ = _ := OX.out.c3
         have hs3b : w9.frozen? ⟨g2, 3, none⟩ = _ := BKX.out.fz 3
         have hsc3b : w9.cell? ⟨g2, 3, none⟩ = _ := BKX.out.c3
         have hr3 : w9.drew.cell? ⟨wE.heap.size, 3, none⟩ = _ := OX.out.c3
         have hs3 : w9.drew.frozen? ⟨g2, 3, none⟩ = _ := BKX.out.fz 3
         have hsc3 : w9.drew.cell? ⟨g2, 3, none⟩ = _ := BKX.out.c3
         go_region
         go_wp2
         refine bodyPost_ret (results_ctt rfl _ _ g2 35 #[.int .i64 st2, .int .i64 n, .bool false, .bool true] (0, 0) _ rfl (show PBlk (World.drew _) g2 st2 n false true from (((BKX.out.s0 st2).s1 n).s2 false).s3 true) Tryz.underlying35 rfl (by kernel_rfl)) rfl ?_
         exact ⟨rfl, below_drew ((((((below_lower HBR.out HBX.out HBR.out.size)).setCell (p := ⟨g2, 0, none⟩) (by rw [HG2.out]; exact Nat.le_refl _) _).setCell (p := ⟨g2, 1, none⟩) (by rw [HG2.out]; exact Nat.le_refl _) _).setCell (p := ⟨g2, 2, none⟩) (by rw [HG2.out]; exact Nat.le_refl _) _).setCell (p := ⟨g2, 3, none⟩) (by rw [HG2.out]; exact Nat.le_refl _) _)⟩
        | false =>
         rw [if_neg (by decide)] at h
         rw [if_pos ⟨by omega, rfl⟩] at h
         simp only [Option.some.injEq, Prod.mk.injEq] at h
         obtain ⟨rfl, rfl, rfl, rfl, rfl, rfl⟩ := h
         go_wp2_with (first | (go_at_call 31; refine (head_head_says.calls k wR.heap.size st2 old2 fs sz2 clos false st3 old3 sz3 wR _ (HIE.out.alloc _) (below_alloc HBE.out _) (Glob.below HG.out HBR.out) HSY.out).mono ?_; rintro x wF ⟨rfl, hI, hB, hK⟩; have hlt9 := HIE.out.lt; have hlt9b := BKE.out.lt; have hneA : wR.heap.size ≠ wE.heap.size := Nat.ne_of_lt hlt9; have hneB : wE.heap.size ≠ wR.heap.size := fun h => hneA h.symm; have hneC : g2 ≠ wE.heap.size := Nat.ne_of_lt hlt9b; have hneD : wE.heap.size ≠ g2 := fun h => hneC h.symm; have HNE := Aside0.mk hneB; have HNC := Aside0.mk hneC; have HND := Aside0.mk hneD; clear hlt9 hlt9b; have HIF := Aside0.mk hI; have HBF := Aside0.mk hB; have OF := Aside0.mk (PBlk.keep (show PBlk _ wE.heap.size st2 n false false from blk_new wE _) hK hneB); have BKF := Aside0.mk (PBlk.keep (BKE.out.alloc _) hK hne1); obtain ⟨A8, c8, hg8, _, _⟩ := hI; have hj1 := cellS61_1 hg8; have hj3 := cellS61_3 hg8; clear hg8 hB hK hp0 hp1 hp2 hp3 hpf0 hpf1 hpf2 hpf3 hk0 hk1 hk3; have hr0 := PBlk.c0 OF.out; have hr1 := PBlk.c1 OF.out; have hr2 := PBlk.c2 OF.out; have hr3 := PBlk.c3 OF.out; have hrf0 := PBlk.fz OF.out 0; have hrf1 := PBlk.fz OF.out 1; have hrf2 := PBlk.fz OF.out 2; have hrf3 := PBlk.fz OF.out 3; have hs0 := PBlk.c0 BKF.out; have hs1 := PBlk.c1 BKF.out; have hs2 := PBlk.c2 BKF.out; have hs3 := PBlk.c3 BKF.out; have hsf0 := PBlk.fz BKF.out 0; have hsf1 := PBlk.fz BKF.out 1; have hsf2 := PBlk.fz BKF.out 2; have hsf3 := PBlk.fz BKF.out 3))
         have OX := Aside0.mk (OF.out.s3 true)
         have BKX := Aside0.mk (BKF.out.far (p := ⟨wE.heap.size, 3, none⟩) HNC.out (.bool true))
         have HIX := Aside0.mk (HIF.out.far (p := ⟨wE.heap.size, 3, none⟩) (fun h => HNE.out h.symm) (.bool true))
         have HBX := Aside0.mk (HBF.out.setCell (p := ⟨wE.heap.size, 3, none⟩) (Nat.le_of_lt HIE.out.lt) (.bool true))
         clear hr0 hr1 hr2 hr3 hrf0 hrf1 hrf2 hrf3 hs0 hs1 hs2 hs3 hsf0 hsf1 hsf2 hsf3 hj3
         clear hj1
         generalize World.setCell wF ⟨wE.heap.size, 3, none⟩ (.bool true) = w9 at OX BKX HIX HBX ⊢
         obtain ⟨A8, c8, hg8, _, _⟩ := HIX.out
         have hj3 : w9.drew.cell? ⟨wR.heap.size, 3, none⟩ = _ := cellS61_3 hg8
         have hj3b : w9.cell? ⟨wR.heap.size, 3, none⟩ = _ := cellS61_3 hg8
         clear hg8
         have hr0b : w9.cell? ⟨wE.heap.size, 0, none⟩ = _ := OX.out.c0
         have hs0b : w9.frozen? ⟨g2, 0, none⟩ = _ := BKX.out.fz 0
         have hsc0b : w9.cell? ⟨g2, 0, none⟩ = _ := BKX.out.c0
         have hr0 : w9.drew.cell? ⟨wE.heap.size, 0, none⟩ = _ := OX.out.c0
         have hs0 : w9.drew.frozen? ⟨g2, 0, none⟩ = _ := BKX.out.fz 0
         have hsc0 : w9.drew.cell? ⟨g2, 0, none⟩ = _ := BKX.out.c0
         have hr1b : w9.cell? ⟨wE.heap.size, 1, none⟩ = _ := OX.out.c1
         have hs1b : w9.frozen? ⟨g2, 1, none⟩ = _ := BKX.out.fz 1
         have hsc1b : w9.cell? ⟨g2, 1, none⟩ = _ := BKX.out.c1
         have hr1 : w9.drew.cell? ⟨wE.heap.size, 1, none⟩ = _ := OX.out.c1
         have hs1 : w9.drew.frozen? ⟨g2, 1, none⟩ = _ := BKX.out.fz 1
         have hsc1 : w9.drew.cell? ⟨g2, 1, none⟩ = _ := BKX.out.c1
         have hr2b : w9.cell? ⟨wE.heap.size, 2, none⟩ = _ := OX.out.c2
         have hs2b : w9.frozen? ⟨g2, 2, none⟩ = _ := BKX.out.fz 2
         have hsc2b : w9.cell? ⟨g2, 2, none⟩ = _ := BKX.out.c2
         have hr2 : w9.drew.cell? ⟨wE.heap.size, 2, none⟩ = _ := OX.out.c2
         have hs2 : w9.drew.frozen? ⟨g2, 2, none⟩ = _ := BKX.out.fz 2
         have hsc2 : w9.drew.cell? ⟨g2, 2, none⟩ = _ := BKX.out.c2
         have hr3b : w9.cell? ⟨wE.heap.size, 3, none⟩ = _ := OX.out.c3
         have hs3b : w9.frozen? ⟨g2, 3, none⟩ = _ := BKX.out.fz 3
         have hsc3b : w9.cell? ⟨g2, 3, none⟩ = _ := BKX.out.c3
         have hr3 : w9.drew.cell? ⟨wE.heap.size, 3, none⟩ = _ := OX.out.c3
         have hs3 : w9.drew.frozen? ⟨g2, 3, none⟩ = _ := BKX.out.fz 3
         have hsc3 : w9.drew.cell? ⟨g2, 3, none⟩ = _ := BKX.out.c3
         go_region
         go_wp2
         refine bodyPost_ret (results_ctt rfl _ _ g2 35 #[.int .i64 st2, .int .i64 n, .bool false, .bool true] (0, 0) _ rfl (show PBlk (World.drew _) g2 st2 n false true from (((BKX.out.s0 st2).s1 n).s2 false).s3 true) Tryz.underlying35 rfl (by kernel_rfl)) rfl ?_
         exact ⟨rfl, below_drew ((((((below_lower HBR.out HBX.out HBR.out.size)).setCell (p := ⟨g2, 0, none⟩) (by rw [HG2.out]; exact Nat.le_refl _) _).setCell (p := ⟨g2, 1, none⟩) (by rw [HG2.out]; exact Nat.le_refl _) _).setCell (p := ⟨g2, 2, none⟩) (by rw [HG2.out]; exact Nat.le_refl _) _).setCell (p := ⟨g2, 3, none⟩) (by rw [HG2.out]; exact Nat.le_refl _) _)⟩
   ·rw [if_neg ce2] at h
    have ye2 : (e2 != 0) = true := bne_iff_ne.mpr ce2
    clear ce2
    simp only [Option.some.injEq, Prod.mk.injEq] at h
    obtain ⟨rfl, rfl, rfl, rfl, rfl, rfl⟩ := h
    go_wp2
    refine bodyPost_ret (results_ctt rfl _ _ g2 35 #[.int .i64 0, .int .i64 0, .bool false, .bool false] (0, 0) _ rfl ((((PBlk.s0 BKE.out 0).s1 0).s2 false).s3 false) Tryz.underlying35 rfl (by kernel_rfl)) rfl ?_
    exact ⟨rfl, (((((below_lower HBR.out HBE.out HBR.out.size)).setCell (p := ⟨g2, 0, none⟩) (by rw [HG2.out]; exact Nat.le_refl _) _).setCell (p := ⟨g2, 1, none⟩) (by rw [HG2.out]; exact Nat.le_refl _) _).setCell (p := ⟨g2, 2, none⟩) (by rw [HG2.out]; exact Nat.le_refl _) _).setCell (p := ⟨g2, 3, none⟩) (by rw [HG2.out]; exact Nat.le_refl _) _⟩
 ·rw [if_neg ce] at h
  have ye : (e != 0) = true := bne_iff_ne.mpr ce
  simp only [Option.some.injEq, Prod.mk.injEq] at h
  obtain ⟨rfl, rfl, rfl, rfl, rfl, rfl⟩ := h
  go_wp2
  refine bodyPost_ret (results_ctt rfl _ _ g2 35 #[.int .i64 0, .int .i64 0, .bool false, .bool false] (0, 0) _ rfl (((((PBlk.s0 BKR.out 0).s1 0).s2 false).s3 false).alloc _) Tryz.underlying35 rfl (by kernel_rfl)) rfl ?_
  exact ⟨rfl, below_alloc (((((HBR.out).setCell (p := ⟨g2, 0, none⟩) (by rw [HG2.out]; exact Nat.le_refl _) _).setCell (p := ⟨g2, 1, none⟩) (by rw [HG2.out]; exact Nat.le_refl _) _).setCell (p := ⟨g2, 2, none⟩) (by rw [HG2.out]; exact Nat.le_refl _) _).setCell (p := ⟨g2, 3, none⟩) (by rw [HG2.out]; exact Nat.le_refl _) _) _⟩
end Go.Proofs.YtfpcoanlkfgagaaGreatDoor.PA
