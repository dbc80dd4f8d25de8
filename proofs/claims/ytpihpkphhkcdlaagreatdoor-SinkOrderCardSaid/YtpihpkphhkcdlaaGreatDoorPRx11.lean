/- Written by a program of this session (wip/tools/myprint.py) out of the translation: plain Lean functions and their walks. -/
import Derived.Test.YtpihpkphhkcdlaaGreatDoorPRx0
namespace Go.Proofs.YtpihpkphhkcdlaaGreatDoor.PR
open Go.RowKit Go.Proofs.YtpihpkphhkcdlaaGreatDoorW.PrintWords Go.Proofs.YtpihpkphhkcdlaaGreatDoorW.PrintLast Go.Proofs.YtpihpkphhkcdlaaGreatDoor.Ext Go.Proofs.YtpihpkphhkcdlaaGreatDoorW.PrintMore
attribute [local go_sem] max2_int min2_int max_two min_two max_three min_three max_four min_four   -- for this text's walks alone
set_option linter.unusedVariables false
set_option linter.unusedSimpArgs false

theorem geq_str (a b : ByteArray) (W : World) : (binOp .geq 9 (.string a) (.string b)).run Tryz.prog W = .ok (.bool (!(Op.bytesLess a.toList b.toList))) W := by kernel_rfl
/-! ### odometerref20_May: function 51 -/
mutual
def odometerref20_May.j0 : Nat → Int → Bool → Int → Int → List (S73) → Option (Bool)
  | 0, _, _, _, _, _ => none
  | k + 1, x3, x19, x237000, x237001, x237002 => if x19 = true then (some false) else (odometerref20_May.l0 k x3 0 x237000 x237001 x237002)
def odometerref20_May.l0 : Nat → Int → Int → Int → Int → List (S73) → Option (Bool)
  | 0, _, _, _, _, _ => none
  | k + 1, x3, x4, x237000, x237001, x237002 => if x4 < x3 then (if 0 ≤ x4 then (if x4 < (x237002.length : Int) then (if ((rd_T73 x237002 x4).f1) = x237001 then (if (((rd_T73 x237002 x4).f0).size : Int) > 65536 then (odometerref20_May.j2 k x3 x4 true x237000 x237001 x237002 ((rd_T73 x237002 x4).f0) ((rd_T73 x237002 x4).f1) ((rd_T73 x237002 x4).f2) ((rd_T73 x237002 x4).f3) ((rd_T73 x237002 x4).f4)) else (if ((rd_T73 x237002 x4).f2) < 0 then (odometerref20_May.j2 k x3 x4 true x237000 x237001 x237002 ((rd_T73 x237002 x4).f0) ((rd_T73 x237002 x4).f1) ((rd_T73 x237002 x4).f2) ((rd_T73 x237002 x4).f3) ((rd_T73 x237002 x4).f4)) else (odometerref20_May.j2 k x3 x4 (decide (((rd_T73 x237002 x4).f3) < 0)) x237000 x237001 x237002 ((rd_T73 x237002 x4).f0) ((rd_T73 x237002 x4).f1) ((rd_T73 x237002 x4).f2) ((rd_T73 x237002 x4).f3) ((rd_T73 x237002 x4).f4)))) else (odometerref20_May.j2 k x3 x4 true x237000 x237001 x237002 ((rd_T73 x237002 x4).f0) ((rd_T73 x237002 x4).f1) ((rd_T73 x237002 x4).f2) ((rd_T73 x237002 x4).f3) ((rd_T73 x237002 x4).f4))) else (none)) else (none)) else (some true)
def odometerref20_May.j2 : Nat → Int → Int → Bool → Int → Int → List (S73) → ByteArray → Int → Int → Int → Bool → Option (Bool)
  | 0, _, _, _, _, _, _, _, _, _, _, _ => none
  | k + 1, x3, x4, x50, x237000, x237001, x237002, x239000, x239001, x239002, x239003, x239004 => if x50 = true then (some false) else (if x239002 = 0 then (if x239004 = true then (if x4 > 0 then (if 0 ≤ (wrap64 (x4 - 1)) then (if (wrap64 (x4 - 1)) < (x237002.length : Int) then (if ((Op.bytesLess (((rd_T73 x237002 (wrap64 (x4 - 1))).f0).toList) x239000.toList) = true) then (odometerref20_May.l0 k x3 (wrap64 (x4 + 1)) x237000 x237001 x237002) else (some false)) else (none)) else (none)) else (odometerref20_May.l0 k x3 (wrap64 (x4 + 1)) x237000 x237001 x237002)) else (some false)) else (if x4 > 0 then (if 0 ≤ (wrap64 (x4 - 1)) then (if (wrap64 (x4 - 1)) < (x237002.length : Int) then (if ((Op.bytesLess (((rd_T73 x237002 (wrap64 (x4 - 1))).f0).toList) x239000.toList) = true) then (odometerref20_May.l0 k x3 (wrap64 (x4 + 1)) x237000 x237001 x237002) else (some false)) else (none)) else (none)) else (odometerref20_May.l0 k x3 (wrap64 (x4 + 1)) x237000 x237001 x237002)))
end
def odometerref20_May.f (k : Nat) (a0_0 : Int) (a0_1 : Int) (l0_2 : List (S73)) : Option (Bool) := if a0_0 = 0 then (odometerref20_May.j0 k (l0_2.length : Int) true a0_0 a0_1 l0_2) else (if (l0_2.length : Int) = 0 then (odometerref20_May.j0 k (l0_2.length : Int) true a0_0 a0_1 l0_2) else (odometerref20_May.j0 k (l0_2.length : Int) (decide ((l0_2.length : Int) > 4096)) a0_0 a0_1 l0_2))
theorem odometerref20_May.mono_l : ∀ k, (∀ y0 y1 y2 y3 y4, LeO (odometerref20_May.j0 k y0 y1 y2 y3 y4) (odometerref20_May.j0 (k + 1) y0 y1 y2 y3 y4)) ∧ (∀ y0 y1 y2 y3 y4, LeO (odometerref20_May.l0 k y0 y1 y2 y3 y4) (odometerref20_May.l0 (k + 1) y0 y1 y2 y3 y4)) ∧ (∀ y0 y1 y2 y3 y4 y5 y6 y7 y8 y9 y10, LeO (odometerref20_May.j2 k y0 y1 y2 y3 y4 y5 y6 y7 y8 y9 y10) (odometerref20_May.j2 (k + 1) y0 y1 y2 y3 y4 y5 y6 y7 y8 y9 y10))
  | 0 => ⟨fun _ _ _ _ _ r h => by simp [odometerref20_May.j0] at h, fun _ _ _ _ _ r h => by simp [odometerref20_May.l0] at h, fun _ _ _ _ _ _ _ _ _ _ _ r h => by simp [odometerref20_May.j2] at h⟩
  | k + 1 => by
    obtain ⟨ih0, ih1, ih2⟩ := odometerref20_May.mono_l k
    refine ⟨?_, ?_, ?_⟩
    · intro y0 y1 y2 y3 y4
      unfold odometerref20_May.j0
      repeat' first
      | (with_reducible exact ih0 _ _ _ _ _)
      | (with_reducible exact ih1 _ _ _ _ _)
      | (with_reducible exact ih2 _ _ _ _ _ _ _ _ _ _ _)
      | (with_reducible exact LeO.refl _)
      | (with_reducible exact LeO.none _)
      | (with_reducible refine LeO.ite ?_ ?_)
      | (with_reducible refine LeO.bind ?_ (fun _ => ?_))
      | exact ih0 _ _ _ _ _
      | exact ih1 _ _ _ _ _
      | exact ih2 _ _ _ _ _ _ _ _ _ _ _
      | exact LeO.none _
      | refine LeO.ite ?_ ?_
      | refine LeO.bind ?_ (fun _ => ?_)
    · intro y0 y1 y2 y3 y4
      unfold odometerref20_May.l0
      repeat' first
      | (with_reducible exact ih0 _ _ _ _ _)
      | (with_reducible exact ih1 _ _ _ _ _)
      | (with_reducible exact ih2 _ _ _ _ _ _ _ _ _ _ _)
      | (with_reducible exact LeO.refl _)
      | (with_reducible exact LeO.none _)
      | (with_reducible refine LeO.ite ?_ ?_)
      | (with_reducible refine LeO.bind ?_ (fun _ => ?_))
      | exact ih0 _ _ _ _ _
      | exact ih1 _ _ _ _ _
      | exact ih2 _ _ _ _ _ _ _ _ _ _ _
      | exact LeO.none _
      | refine LeO.ite ?_ ?_
      | refine LeO.bind ?_ (fun _ => ?_)
    · intro y0 y1 y2 y3 y4 y5 y6 y7 y8 y9 y10
      unfold odometerref20_May.j2
      repeat' first
      | (with_reducible exact ih0 _ _ _ _ _)
      | (with_reducible exact ih1 _ _ _ _ _)
      | (with_reducible exact ih2 _ _ _ _ _ _ _ _ _ _ _)
      | (with_reducible exact LeO.refl _)
      | (with_reducible exact LeO.none _)
      | (with_reducible refine LeO.ite ?_ ?_)
      | (with_reducible refine LeO.bind ?_ (fun _ => ?_))
      | exact ih0 _ _ _ _ _
      | exact ih1 _ _ _ _ _
      | exact ih2 _ _ _ _ _ _ _ _ _ _ _
      | exact LeO.none _
      | refine LeO.ite ?_ ?_
      | refine LeO.bind ?_ (fun _ => ?_)
theorem odometerref20_May.mono : ∀ a0 a1 a2 k, LeO (odometerref20_May.f k a0 a1 a2) (odometerref20_May.f (k + 1) a0 a1 a2) := by
  intro a0 a1 a2 k
  obtain ⟨ih0, ih1, ih2⟩ := odometerref20_May.mono_l k
  unfold odometerref20_May.f
  repeat' first
      | (with_reducible exact ih0 _ _ _ _ _)
      | (with_reducible exact ih1 _ _ _ _ _)
      | (with_reducible exact ih2 _ _ _ _ _ _ _ _ _ _ _)
      | (with_reducible exact LeO.refl _)
      | (with_reducible exact LeO.none _)
      | (with_reducible refine LeO.ite ?_ ?_)
      | (with_reducible refine LeO.bind ?_ (fun _ => ?_))
      | exact ih0 _ _ _ _ _
      | exact ih1 _ _ _ _ _
      | exact ih2 _ _ _ _ _ _ _ _ _ _ _
      | exact LeO.none _
      | refine LeO.ite ?_ ?_
      | refine LeO.bind ?_ (fun _ => ?_)
set_option maxHeartbeats 8000000 in
set_option maxRecDepth 100000 in
theorem odometerref20_May.calls (k : Nat) (a0_0 : Int) (a0_1 : Int) (A0_2 : Option Addr) (c0_2 : Nat) (l0_2 : List (S73)) (r : Bool) (w : World) (hr0_2 : Kd.C k73 w A0_2 l0_2.length l0_2) (hc0_2 : l0_2.length ≤ c0_2) (h : odometerref20_May.f k a0_0 a0_1 l0_2 = some r) :
    Calls Tryz.prog 51 #[.agg #[.int .u64 a0_0, .int .i64 a0_1, .slice A0_2 l0_2.length c0_2]] w fun e w' => e = .returned (.bool r) ∧ Below w.heap.size w w' := by
  have hu44 := Tryz.underlying44
  have hu73 := Tryz.underlying73
  have HR0_2 := Aside0.mk hr0_2
  have HC0_2 := Aside0.mk hc0_2
  clear hr0_2 hc0_2
  have HB := Aside0.mk (Below.refl w.heap.size w)
  have H : (if a0_0 = 0 then (odometerref20_May.j0 k (l0_2.length : Int) true a0_0 a0_1 l0_2) else (if (l0_2.length : Int) = 0 then (odometerref20_May.j0 k (l0_2.length : Int) true a0_0 a0_1 l0_2) else (odometerref20_May.j0 k (l0_2.length : Int) (decide ((l0_2.length : Int) > 4096)) a0_0 a0_1 l0_2))) = some r := h
  clear h
  have HC2 := Aside0.mk H
  clear H
  go_enter Tryz.func51, Tryz.ntmps51
  go_upto_region 2 with (first | ((with_reducible refine gate_dst (N := 1) rfl ?_); (try (refine gate_guard (by rfl) ?_; dsimp only)); refine box_event ?hg (N := 1) ?hd (cs := #[.int .u64 a0_0, .int .i64 a0_1, .slice A0_2 l0_2.length c0_2]) (t := 44) ?hr ?_; (case hd => rfl); (case hg => rfl); (case hr => first | (go_simp; done) | (go_simp; rfl)); intro gb236 hg w3 hbox hb; have n0_ := Aside0.mk (below_step (by repeat (first | (with_reducible first | exact HB.out | apply below_alloc | apply pw_below_drewN | apply below_drew1) | exact HB.out)) hb); have n1_ := Aside0.mk (hbox); have n2_ := Aside0.mk ((by rw [hg]; exact (below_size (by repeat (first | (with_reducible first | exact HB.out | apply below_alloc | apply pw_below_drewN | apply below_drew1) | exact HB.out))) : w.heap.size ≤ gb236)); have n3_ := Aside0.mk ((by rw [hg]; exact (below_size (by repeat (first | (with_reducible first | exact HB.out | apply below_alloc | apply pw_below_drewN | apply below_drew1) | exact HB.out))) : w.heap.size ≤ gb236)); clear HB; have HB := n0_; have BK236 := n1_; have GW236 := n2_; have GE236 := n3_; clear n0_ n1_ n2_ n3_; clear hb hbox hg; have hcz4_0 : w3.cell? ⟨gb236, 0, none⟩ = some (.int .u64 a0_0) := (blk_cell BK236.out 0).trans rfl; have hcz4_1 : w3.cell? ⟨gb236, 1, none⟩ = some (.int .i64 a0_1) := (blk_cell BK236.out 1).trans rfl; have hcz4_2 : w3.cell? ⟨gb236, 2, none⟩ = some (.slice A0_2 l0_2.length c0_2) := (blk_cell BK236.out 2).trans rfl; have hfz4_0 := blk_frozen BK236.out 0; have hfz4_1 := blk_frozen BK236.out 1; have hfz4_2 := blk_frozen BK236.out 2))
  repeat (go_quiet (first | ((with_reducible refine gate_dst (N := 1) rfl ?_); (try (refine gate_guard (by rfl) ?_; dsimp only)); refine box_event ?hg (N := 1) ?hd (cs := #[.int .u64 a0_0, .int .i64 a0_1, .slice A0_2 l0_2.length c0_2]) (t := 44) ?hr ?_; (case hd => rfl); (case hg => rfl); (case hr => first | (go_simp; done) | (go_simp; rfl)); intro gb236 hg w3 hbox hb; have n0_ := Aside0.mk (below_step (by repeat (first | (with_reducible first | exact HB.out | apply below_alloc | apply pw_below_drewN | apply below_drew1) | exact HB.out)) hb); have n1_ := Aside0.mk (hbox); have n2_ := Aside0.mk ((by rw [hg]; exact (below_size (by repeat (first | (with_reducible first | exact HB.out | apply below_alloc | apply pw_below_drewN | apply below_drew1) | exact HB.out))) : w.heap.size ≤ gb236)); have n3_ := Aside0.mk ((by rw [hg]; exact (below_size (by repeat (first | (with_reducible first | exact HB.out | apply below_alloc | apply pw_below_drewN | apply below_drew1) | exact HB.out))) : w.heap.size ≤ gb236)); clear HB; have HB := n0_; have BK236 := n1_; have GW236 := n2_; have GE236 := n3_; clear n0_ n1_ n2_ n3_; clear hb hbox hg; have hcz4_0 : w3.cell? ⟨gb236, 0, none⟩ = some (.int .u64 a0_0) := (blk_cell BK236.out 0).trans rfl; have hcz4_1 : w3.cell? ⟨gb236, 1, none⟩ = some (.int .i64 a0_1) := (blk_cell BK236.out 1).trans rfl; have hcz4_2 : w3.cell? ⟨gb236, 2, none⟩ = some (.slice A0_2 l0_2.length c0_2) := (blk_cell BK236.out 2).trans rfl; have hfz4_0 := blk_frozen BK236.out 0; have hfz4_1 := blk_frozen BK236.out 1; have hfz4_2 := blk_frozen BK236.out 2)); go_upto_region 2 with (first | ((with_reducible refine gate_dst (N := 1) rfl ?_); (try (refine gate_guard (by rfl) ?_; dsimp only)); refine box_event ?hg (N := 1) ?hd (cs := #[.int .u64 a0_0, .int .i64 a0_1, .slice A0_2 l0_2.length c0_2]) (t := 44) ?hr ?_; (case hd => rfl); (case hg => rfl); (case hr => first | (go_simp; done) | (go_simp; rfl)); intro gb236 hg w3 hbox hb; have n0_ := Aside0.mk (below_step (by repeat (first | (with_reducible first | exact HB.out | apply below_alloc | apply pw_below_drewN | apply below_drew1) | exact HB.out)) hb); have n1_ := Aside0.mk (hbox); have n2_ := Aside0.mk ((by rw [hg]; exact (below_size (by repeat (first | (with_reducible first | exact HB.out | apply below_alloc | apply pw_below_drewN | apply below_drew1) | exact HB.out))) : w.heap.size ≤ gb236)); have n3_ := Aside0.mk ((by rw [hg]; exact (below_size (by repeat (first | (with_reducible first | exact HB.out | apply below_alloc | apply pw_below_drewN | apply below_drew1) | exact HB.out))) : w.heap.size ≤ gb236)); clear HB; have HB := n0_; have BK236 := n1_; have GW236 := n2_; have GE236 := n3_; clear n0_ n1_ n2_ n3_; clear hb hbox hg; have hcz4_0 : w3.cell? ⟨gb236, 0, none⟩ = some (.int .u64 a0_0) := (blk_cell BK236.out 0).trans rfl; have hcz4_1 : w3.cell? ⟨gb236, 1, none⟩ = some (.int .i64 a0_1) := (blk_cell BK236.out 1).trans rfl; have hcz4_2 : w3.cell? ⟨gb236, 2, none⟩ = some (.slice A0_2 l0_2.length c0_2) := (blk_cell BK236.out 2).trans rfl; have hfz4_0 := blk_frozen BK236.out 0; have hfz4_1 := blk_frozen BK236.out 1; have hfz4_2 := blk_frozen BK236.out 2)))
  (try simp only [Act.put, List.setIfInBounds_toArray, List.set_cons_zero, List.set_cons_succ])
  go_cut [19] (fun v19 wc => ∃ (kq : Nat) (x19_1 : Bool), v19 = .bool x19_1 ∧ Aside0 (odometerref20_May.j0 kq (l0_2.length : Int) x19_1 a0_0 a0_1 l0_2 = some r) ∧ Aside0 (kq ≤ k) ∧ Aside0 (wc.heap[gb236]? = some (.cells #[.int .u64 a0_0, .int .i64 a0_1, (.slice A0_2 l0_2.length c0_2)] 44 (0, 0))) ∧ Aside0 (Below w.heap.size w wc))
  case first =>
    have H := HC2.out
    clear HC2
    by_cases c5 : a0_0 = 0
    · rw [if_pos c5] at H
      have c5b0 : (a0_0 == 0) = true := beq_iff_eq.mpr c5
      have c5b1 : (a0_0 != 0) = false := bne_eq_false_iff_eq.mpr c5
      clear c5
      (first | rw [c5b0] | (simp only [i64_w, i32_w]; rw [c5b0]) | skip)
      have H' := Aside0.mk H
      clear H
      have hcz6_0 : w3.cell? ⟨gb236, 0, none⟩ = some (.int .u64 a0_0) := (blk_cell BK236.out 0).trans rfl
      have hcz6_1 : w3.cell? ⟨gb236, 1, none⟩ = some (.int .i64 a0_1) := (blk_cell BK236.out 1).trans rfl
      have hcz6_2 : w3.cell? ⟨gb236, 2, none⟩ = some (.slice A0_2 l0_2.length c0_2) := (blk_cell BK236.out 2).trans rfl
      have hfz6_0 := blk_frozen BK236.out 0
      have hfz6_1 := blk_frozen BK236.out 1
      have hfz6_2 := blk_frozen BK236.out 2
      go_wp2
      repeat (go_quiet (fail); try go_wp2)
      first | go_meet | (subst_vars; go_meet)
      case rel => exact ⟨_, (true), (by first | rfl | (simp; done) | (simp [*]; done)), H', ⟨by first | omega | exact Nat.le_refl _⟩, ⟨by (with_reducible repeat (first | refine blk_drewN ?_ _ | refine blk_drew ?_ | refine blk_alloc ?_ _)); exact BK236.out⟩, ⟨by repeat (first | (with_reducible first | exact HB.out | apply below_alloc | apply pw_below_drewN | apply below_drew1 | refine below_set ?_ GE236.out) | exact HB.out)⟩⟩
    · rw [if_neg c5] at H
      have c5b0 : (a0_0 == 0) = false := beq_eq_false_iff_ne.mpr c5
      have c5b1 : (a0_0 != 0) = true := bne_iff_ne.mpr c5
      (first | rw [c5b0] | (simp only [i64_w, i32_w]; rw [c5b0]) | skip)
      by_cases c7 : (l0_2.length : Int) = 0
      · rw [if_pos c7] at H
        have c7b0 : ((l0_2.length : Int) == 0) = true := beq_iff_eq.mpr c7
        have c7b1 : ((l0_2.length : Int) != 0) = false := bne_eq_false_iff_eq.mpr c7
        clear c7
        have H' := Aside0.mk H
        clear H
        have hcz8_0 : w3.cell? ⟨gb236, 0, none⟩ = some (.int .u64 a0_0) := (blk_cell BK236.out 0).trans rfl
        have hcz8_1 : w3.cell? ⟨gb236, 1, none⟩ = some (.int .i64 a0_1) := (blk_cell BK236.out 1).trans rfl
        have hcz8_2 : w3.cell? ⟨gb236, 2, none⟩ = some (.slice A0_2 l0_2.length c0_2) := (blk_cell BK236.out 2).trans rfl
        have hfz8_0 := blk_frozen BK236.out 0
        have hfz8_1 := blk_frozen BK236.out 1
        have hfz8_2 := blk_frozen BK236.out 2
        go_wp2
        repeat (go_quiet (fail); try go_wp2)
        first | go_meet | (subst_vars; go_meet)
        case rel => exact ⟨_, (true), (by first | rfl | (simp; done) | (simp [*]; done)), H', ⟨by first | omega | exact Nat.le_refl _⟩, ⟨by (with_reducible repeat (first | refine blk_drewN ?_ _ | refine blk_drew ?_ | refine blk_alloc ?_ _)); exact BK236.out⟩, ⟨by repeat (first | (with_reducible first | exact HB.out | apply below_alloc | apply pw_below_drewN | apply below_drew1 | refine below_set ?_ GE236.out) | exact HB.out)⟩⟩
      · rw [if_neg c7] at H
        have c7b0 : ((l0_2.length : Int) == 0) = false := beq_eq_false_iff_ne.mpr c7
        have c7b1 : ((l0_2.length : Int) != 0) = true := bne_iff_ne.mpr c7
        have c7b2 : ¬ (l0_2 = []) := fun h_ => c7 (by rw [h_]; rfl)
        have H' := Aside0.mk H
        clear H
        have hcz9_0 : w3.cell? ⟨gb236, 0, none⟩ = some (.int .u64 a0_0) := (blk_cell BK236.out 0).trans rfl
        have hcz9_1 : w3.cell? ⟨gb236, 1, none⟩ = some (.int .i64 a0_1) := (blk_cell BK236.out 1).trans rfl
        have hcz9_2 : w3.cell? ⟨gb236, 2, none⟩ = some (.slice A0_2 l0_2.length c0_2) := (blk_cell BK236.out 2).trans rfl
        have hfz9_0 := blk_frozen BK236.out 0
        have hfz9_1 := blk_frozen BK236.out 1
        have hfz9_2 := blk_frozen BK236.out 2
        go_wp2
        repeat (go_quiet (fail); try go_wp2)
        first | go_meet | (subst_vars; go_meet)
        case rel => exact ⟨_, (decide ((l0_2.length : Int) > 4096)), (by first | rfl | (simp; done) | (simp [*]; done)), H', ⟨by first | omega | exact Nat.le_refl _⟩, ⟨by (with_reducible repeat (first | refine blk_drewN ?_ _ | refine blk_drew ?_ | refine blk_alloc ?_ _)); exact BK236.out⟩, ⟨by repeat (first | (with_reducible first | exact HB.out | apply below_alloc | apply pw_below_drewN | apply below_drew1 | refine below_set ?_ GE236.out) | exact HB.out)⟩⟩
  case rest =>
    clear HC2
    try clear p2
    try clear c5
    try clear c5b0
    try clear c5b1
    try clear c7
    try clear c7b0
    try clear c7b1
    try clear c7b2
    try clear hcz4_0
    try clear hcz4_1
    try clear hcz4_2
    try clear hcz6_0
    try clear hcz6_1
    try clear hcz6_2
    try clear hcz8_0
    try clear hcz8_1
    try clear hcz8_2
    try clear hcz9_0
    try clear hcz9_1
    try clear hcz9_2
    try clear hfz4_0
    try clear hfz4_1
    try clear hfz4_2
    try clear hfz6_0
    try clear hfz6_1
    try clear hfz6_2
    try clear hfz8_0
    try clear hfz8_1
    try clear hfz8_2
    try clear hfz9_0
    try clear hfz9_1
    try clear hfz9_2
    obtain ⟨kq, x19_1, rfl, HA, HJ1, BK236, HB⟩ := hcut
    cases kq with
    | zero => exact absurd HA.out (by simp [odometerref20_May.j0])
    | succ kj1 =>
      have H := HA.out
      clear HA
      simp only [odometerref20_May.j0] at H
      by_cases c10 : x19_1 = true
      · subst c10
        have H1 : (some false) = some r := by rw [if_pos rfl] at H; exact H
        clear H
        have H := H1
        clear H1
        obtain rfl := Option.some.inj H
        go_wp2
        repeat (go_quiet (fail); try go_wp2)
        go_ret
        exact ⟨by first | rfl | (simp [errW_none, errW_some] <;> rfl) | (simp [*, errW_none, errW_some] <;> rfl), by repeat (first | (with_reducible first | exact HB.out | apply below_alloc | apply pw_below_drewN | apply below_drew1 | refine below_set ?_ GE236.out) | exact HB.out)⟩
      · replace c10 := Bool.eq_false_iff.mpr c10
        subst c10
        have H1 : (odometerref20_May.l0 kj1 (l0_2.length : Int) 0 a0_0 a0_1 l0_2) = some r := by rw [if_neg (show ¬ (false = true) by decide)] at H; exact H
        clear H
        have H := H1
        clear H1
        have H' := Aside0.mk H
        clear H
        go_wp2
        repeat (go_quiet (fail); try go_wp2)
        go_loopg [4] kj1 (fun kq v4 w' => ∃ (x4_2 : Int), v4 = .int .i64 x4_2 ∧ Aside0 (odometerref20_May.l0 kq (l0_2.length : Int) x4_2 a0_0 a0_1 l0_2 = some r) ∧ Aside0 (kq ≤ kj1) ∧ Aside0 (w'.heap[gb236]? = some (.cells #[.int .u64 a0_0, .int .i64 a0_1, (.slice A0_2 l0_2.length c0_2)] 44 (0, 0))) ∧ Aside0 (Below w.heap.size w w'))
        case atStart => exact ⟨(0), (by first | rfl | (simp; done) | (simp [*]; done)), H', ⟨Nat.le_refl _⟩, ⟨by (with_reducible repeat (first | refine blk_drewN ?_ _ | refine blk_drew ?_ | refine blk_alloc ?_ _)); exact BK236.out⟩, ⟨by repeat (first | (with_reducible first | exact HB.out | apply below_alloc | apply pw_below_drewN | apply below_drew1 | refine below_set ?_ GE236.out) | exact HB.out)⟩⟩
        case round =>
          clear H'
          try clear c1
          try clear p2
          try clear c5
          try clear c5b0
          try clear c5b1
          try clear c7
          try clear c7b0
          try clear c7b1
          try clear c7b2
          try clear c10
          try clear hcz4_0
          try clear hcz4_1
          try clear hcz4_2
          try clear hcz6_0
          try clear hcz6_1
          try clear hcz6_2
          try clear hcz8_0
          try clear hcz8_1
          try clear hcz8_2
          try clear hcz9_0
          try clear hcz9_1
          try clear hcz9_2
          try clear hfz4_0
          try clear hfz4_1
          try clear hfz4_2
          try clear hfz6_0
          try clear hfz6_1
          try clear hfz6_2
          try clear hfz8_0
          try clear hfz8_1
          try clear hfz8_2
          try clear hfz9_0
          try clear hfz9_1
          try clear hfz9_2
          try clear p2
          obtain ⟨x4_2, rfl, HA, HK2, BK236, HB⟩ := hrel
          cases gk with
          | zero => exact absurd HA.out (by simp [odometerref20_May.l0])
          | succ k2 =>
            have H := HA.out
            clear HA
            simp only [odometerref20_May.l0] at H
            by_cases c11 : x4_2 < (l0_2.length : Int)
            · rw [if_pos c11] at H
              have c11b0 : decide (x4_2 < (l0_2.length : Int)) = true := decide_eq_true c11
              clear c11
              by_cases c12 : 0 ≤ x4_2
              · rw [if_pos c12] at H
                have c12b0 : decide (0 ≤ x4_2) = true := decide_eq_true c12
                clear c12
                by_cases c13 : x4_2 < (l0_2.length : Int)
                · rw [if_pos c13] at H
                  have c13b0 : decide (x4_2 < (l0_2.length : Int)) = true := decide_eq_true c13
                  clear c13
                  have HC14 := Aside0.mk H
                  clear H
                  have hcz15_0 : wr.cell? ⟨gb236, 0, none⟩ = some (.int .u64 a0_0) := (blk_cell BK236.out 0).trans rfl
                  have hcz15_1 : wr.cell? ⟨gb236, 1, none⟩ = some (.int .i64 a0_1) := (blk_cell BK236.out 1).trans rfl
                  have hcz15_2 : wr.cell? ⟨gb236, 2, none⟩ = some (.slice A0_2 l0_2.length c0_2) := (blk_cell BK236.out 2).trans rfl
                  have hfz15_0 := blk_frozen BK236.out 0
                  have hfz15_1 := blk_frozen BK236.out 1
                  have hfz15_2 := blk_frozen BK236.out 2
                  have p237 : 0 ≤ (x4_2 : Int) := of_decide_eq_true (by first | (with_reducible assumption) | assumption)
                  have q237 : x4_2 < (l0_2.length : Int) := of_decide_eq_true (by first | (with_reducible assumption) | assumption)
                  obtain ⟨ad237, e237, hx237_0, hx237_1, hx237_2, hx237_3, hx237_4⟩ := at_T73 HR0_2.out x4_2 p237 q237
                  cases e237
                  replace hx237_0 := (HB.out.cell (World.block_lt_of_cell? w _ hx237_0)).trans hx237_0
                  replace hx237_1 := (HB.out.cell (World.block_lt_of_cell? w _ hx237_1)).trans hx237_1
                  replace hx237_2 := (HB.out.cell (World.block_lt_of_cell? w _ hx237_2)).trans hx237_2
                  replace hx237_3 := (HB.out.cell (World.block_lt_of_cell? w _ hx237_3)).trans hx237_3
                  replace hx237_4 := (HB.out.cell (World.block_lt_of_cell? w _ hx237_4)).trans hx237_4
                  replace p237 := eq_true p237
                  replace q237 := eq_true q237
                  go_upto_region 8 with (first | ((with_reducible refine gate_dst (N := 5) rfl ?_); (try (refine gate_guard (by rfl) ?_; dsimp only)); refine box_event ?hg (N := 5) ?hd (cs := #[.string (⟨#[]⟩ : ByteArray), .int .i64 0, .int .i64 0, .int .i64 0, .bool false]) (t := 73) ?hr ?_; (case hd => rfl); (case hg => rfl); (case hr => first | (go_simp; done) | (go_simp; rfl)); intro gb238 hg w16 hbox hb; have n0_ := Aside0.mk (blk_below (g := gb236) (o := .cells #[.int .u64 a0_0, .int .i64 a0_1, .slice (some ad237) l0_2.length c0_2] 44 (0, 0)) (by (with_reducible repeat (first | refine blk_drewN ?_ _ | refine blk_drew ?_ | refine blk_alloc ?_ _)); exact BK236.out) hb); have n1_ := Aside0.mk (below_step (by repeat (first | (with_reducible first | exact HB.out | apply below_alloc | apply pw_below_drewN | apply below_drew1 | refine below_set ?_ GE236.out) | exact HB.out)) hb); have n2_ := Aside0.mk (hbox); have n3_ := Aside0.mk ((by rw [hg]; exact (below_size (by repeat (first | (with_reducible first | exact HB.out | apply below_alloc | apply pw_below_drewN | apply below_drew1 | refine below_set ?_ GE236.out) | exact HB.out))) : w.heap.size ≤ gb238)); have n4_ := Aside0.mk ((by rw [hg]; exact (below_size (by repeat (first | (with_reducible first | exact HB.out | apply below_alloc | apply pw_below_drewN | apply below_drew1 | refine below_set ?_ GE236.out) | exact HB.out))) : w.heap.size ≤ gb238)); have n5_ := Aside0.mk ((by rw [hg]; exact Nat.ne_of_lt (blk_lt (g := gb236) (o := .cells #[.int .u64 a0_0, .int .i64 a0_1, .slice (some ad237) l0_2.length c0_2] 44 (0, 0)) (by (with_reducible repeat (first | refine blk_drewN ?_ _ | refine blk_drew ?_ | refine blk_alloc ?_ _)); exact BK236.out)) : gb236 ≠ gb238)); have n6_ := Aside0.mk ((by rw [hg]; exact Nat.ne_of_gt (blk_lt (g := gb236) (o := .cells #[.int .u64 a0_0, .int .i64 a0_1, .slice (some ad237) l0_2.length c0_2] 44 (0, 0)) (by (with_reducible repeat (first | refine blk_drewN ?_ _ | refine blk_drew ?_ | refine blk_alloc ?_ _)); exact BK236.out)) : gb238 ≠ gb236)); clear BK236; clear HB; have BK236 := n0_; have HB := n1_; have BK238 := n2_; have GW238 := n3_; have GE238 := n4_; have NB236_238 := n5_; have NB238_236 := n6_; clear n0_ n1_ n2_ n3_ n4_ n5_ n6_; clear hb hbox hg; have hnb17 := NB238_236.out; have hnc17 := NB236_238.out; have hcz18_0 : w16.cell? ⟨gb238, 0, none⟩ = some (.string (⟨#[]⟩ : ByteArray)) := (blk_cell BK238.out 0).trans rfl; have hcz18_1 : w16.cell? ⟨gb238, 1, none⟩ = some (.int .i64 0) := (blk_cell BK238.out 1).trans rfl; have hcz18_2 : w16.cell? ⟨gb238, 2, none⟩ = some (.int .i64 0) := (blk_cell BK238.out 2).trans rfl; have hcz18_3 : w16.cell? ⟨gb238, 3, none⟩ = some (.int .i64 0) := (blk_cell BK238.out 3).trans rfl; have hcz18_4 : w16.cell? ⟨gb238, 4, none⟩ = some (.bool false) := (blk_cell BK238.out 4).trans rfl; have hfz18_0 := blk_frozen BK238.out 0; have hfz18_1 := blk_frozen BK238.out 1; have hfz18_2 := blk_frozen BK238.out 2; have hfz18_3 := blk_frozen BK238.out 3; have hfz18_4 := blk_frozen BK238.out 4))
                  repeat (go_quiet (first | ((with_reducible refine gate_dst (N := 5) rfl ?_); (try (refine gate_guard (by rfl) ?_; dsimp only)); refine box_event ?hg (N := 5) ?hd (cs := #[.string (⟨#[]⟩ : ByteArray), .int .i64 0, .int .i64 0, .int .i64 0, .bool false]) (t := 73) ?hr ?_; (case hd => rfl); (case hg => rfl); (case hr => first | (go_simp; done) | (go_simp; rfl)); intro gb238 hg w16 hbox hb; have n0_ := Aside0.mk (blk_below (g := gb236) (o := .cells #[.int .u64 a0_0, .int .i64 a0_1, .slice (some ad237) l0_2.length c0_2] 44 (0, 0)) (by (with_reducible repeat (first | refine blk_drewN ?_ _ | refine blk_drew ?_ | refine blk_alloc ?_ _)); exact BK236.out) hb); have n1_ := Aside0.mk (below_step (by repeat (first | (with_reducible first | exact HB.out | apply below_alloc | apply pw_below_drewN | apply below_drew1 | refine below_set ?_ GE236.out) | exact HB.out)) hb); have n2_ := Aside0.mk (hbox); have n3_ := Aside0.mk ((by rw [hg]; exact (below_size (by repeat (first | (with_reducible first | exact HB.out | apply below_alloc | apply pw_below_drewN | apply below_drew1 | refine below_set ?_ GE236.out) | exact HB.out))) : w.heap.size ≤ gb238)); have n4_ := Aside0.mk ((by rw [hg]; exact (below_size (by repeat (first | (with_reducible first | exact HB.out | apply below_alloc | apply pw_below_drewN | apply below_drew1 | refine below_set ?_ GE236.out) | exact HB.out))) : w.heap.size ≤ gb238)); have n5_ := Aside0.mk ((by rw [hg]; exact Nat.ne_of_lt (blk_lt (g := gb236) (o := .cells #[.int .u64 a0_0, .int .i64 a0_1, .slice (some ad237) l0_2.length c0_2] 44 (0, 0)) (by (with_reducible repeat (first | refine blk_drewN ?_ _ | refine blk_drew ?_ | refine blk_alloc ?_ _)); exact BK236.out)) : gb236 ≠ gb238)); have n6_ := Aside0.mk ((by rw [hg]; exact Nat.ne_of_gt (blk_lt (g := gb236) (o := .cells #[.int .u64 a0_0, .int .i64 a0_1, .slice (some ad237) l0_2.length c0_2] 44 (0, 0)) (by (with_reducible repeat (first | refine blk_drewN ?_ _ | refine blk_drew ?_ | refine blk_alloc ?_ _)); exact BK236.out)) : gb238 ≠ gb236)); clear BK236; clear HB; have BK236 := n0_; have HB := n1_; have BK238 := n2_; have GW238 := n3_; have GE238 := n4_; have NB236_238 := n5_; have NB238_236 := n6_; clear n0_ n1_ n2_ n3_ n4_ n5_ n6_; clear hb hbox hg; have hnb17 := NB238_236.out; have hnc17 := NB236_238.out; have hcz18_0 : w16.cell? ⟨gb238, 0, none⟩ = some (.string (⟨#[]⟩ : ByteArray)) := (blk_cell BK238.out 0).trans rfl; have hcz18_1 : w16.cell? ⟨gb238, 1, none⟩ = some (.int .i64 0) := (blk_cell BK238.out 1).trans rfl; have hcz18_2 : w16.cell? ⟨gb238, 2, none⟩ = some (.int .i64 0) := (blk_cell BK238.out 2).trans rfl; have hcz18_3 : w16.cell? ⟨gb238, 3, none⟩ = some (.int .i64 0) := (blk_cell BK238.out 3).trans rfl; have hcz18_4 : w16.cell? ⟨gb238, 4, none⟩ = some (.bool false) := (blk_cell BK238.out 4).trans rfl; have hfz18_0 := blk_frozen BK238.out 0; have hfz18_1 := blk_frozen BK238.out 1; have hfz18_2 := blk_frozen BK238.out 2; have hfz18_3 := blk_frozen BK238.out 3; have hfz18_4 := blk_frozen BK238.out 4)); go_upto_region 8 with (first | ((with_reducible refine gate_dst (N := 5) rfl ?_); (try (refine gate_guard (by rfl) ?_; dsimp only)); refine box_event ?hg (N := 5) ?hd (cs := #[.string (⟨#[]⟩ : ByteArray), .int .i64 0, .int .i64 0, .int .i64 0, .bool false]) (t := 73) ?hr ?_; (case hd => rfl); (case hg => rfl); (case hr => first | (go_simp; done) | (go_simp; rfl)); intro gb238 hg w16 hbox hb; have n0_ := Aside0.mk (blk_below (g := gb236) (o := .cells #[.int .u64 a0_0, .int .i64 a0_1, .slice (some ad237) l0_2.length c0_2] 44 (0, 0)) (by (with_reducible repeat (first | refine blk_drewN ?_ _ | refine blk_drew ?_ | refine blk_alloc ?_ _)); exact BK236.out) hb); have n1_ := Aside0.mk (below_step (by repeat (first | (with_reducible first | exact HB.out | apply below_alloc | apply pw_below_drewN | apply below_drew1 | refine below_set ?_ GE236.out) | exact HB.out)) hb); have n2_ := Aside0.mk (hbox); have n3_ := Aside0.mk ((by rw [hg]; exact (below_size (by repeat (first | (with_reducible first | exact HB.out | apply below_alloc | apply pw_below_drewN | apply below_drew1 | refine below_set ?_ GE236.out) | exact HB.out))) : w.heap.size ≤ gb238)); have n4_ := Aside0.mk ((by rw [hg]; exact (below_size (by repeat (first | (with_reducible first | exact HB.out | apply below_alloc | apply pw_below_drewN | apply below_drew1 | refine below_set ?_ GE236.out) | exact HB.out))) : w.heap.size ≤ gb238)); have n5_ := Aside0.mk ((by rw [hg]; exact Nat.ne_of_lt (blk_lt (g := gb236) (o := .cells #[.int .u64 a0_0, .int .i64 a0_1, .slice (some ad237) l0_2.length c0_2] 44 (0, 0)) (by (with_reducible repeat (first | refine blk_drewN ?_ _ | refine blk_drew ?_ | refine blk_alloc ?_ _)); exact BK236.out)) : gb236 ≠ gb238)); have n6_ := Aside0.mk ((by rw [hg]; exact Nat.ne_of_gt (blk_lt (g := gb236) (o := .cells #[.int .u64 a0_0, .int .i64 a0_1, .slice (some ad237) l0_2.length c0_2] 44 (0, 0)) (by (with_reducible repeat (first | refine blk_drewN ?_ _ | refine blk_drew ?_ | refine blk_alloc ?_ _)); exact BK236.out)) : gb238 ≠ gb236)); clear BK236; clear HB; have BK236 := n0_; have HB := n1_; have BK238 := n2_; have GW238 := n3_; have GE238 := n4_; have NB236_238 := n5_; have NB238_236 := n6_; clear n0_ n1_ n2_ n3_ n4_ n5_ n6_; clear hb hbox hg; have hnb17 := NB238_236.out; have hnc17 := NB236_238.out; have hcz18_0 : w16.cell? ⟨gb238, 0, none⟩ = some (.string (⟨#[]⟩ : ByteArray)) := (blk_cell BK238.out 0).trans rfl; have hcz18_1 : w16.cell? ⟨gb238, 1, none⟩ = some (.int .i64 0) := (blk_cell BK238.out 1).trans rfl; have hcz18_2 : w16.cell? ⟨gb238, 2, none⟩ = some (.int .i64 0) := (blk_cell BK238.out 2).trans rfl; have hcz18_3 : w16.cell? ⟨gb238, 3, none⟩ = some (.int .i64 0) := (blk_cell BK238.out 3).trans rfl; have hcz18_4 : w16.cell? ⟨gb238, 4, none⟩ = some (.bool false) := (blk_cell BK238.out 4).trans rfl; have hfz18_0 := blk_frozen BK238.out 0; have hfz18_1 := blk_frozen BK238.out 1; have hfz18_2 := blk_frozen BK238.out 2; have hfz18_3 := blk_frozen BK238.out 3; have hfz18_4 := blk_frozen BK238.out 4)))
                  (try simp only [Act.put, List.setIfInBounds_toArray, List.set_cons_zero, List.set_cons_succ])
                  go_cut [50] (fun v50 wc => ∃ (kq : Nat) (x50_13 : Bool), v50 = .bool x50_13 ∧ Aside0 (odometerref20_May.j2 kq (l0_2.length : Int) x4_2 x50_13 a0_0 a0_1 l0_2 ((rd_T73 l0_2 x4_2).f0) ((rd_T73 l0_2 x4_2).f1) ((rd_T73 l0_2 x4_2).f2) ((rd_T73 l0_2 x4_2).f3) ((rd_T73 l0_2 x4_2).f4) = some r) ∧ Aside0 (kq ≤ k2) ∧ Aside0 (wc.heap[gb236]? = some (.cells #[.int .u64 a0_0, .int .i64 a0_1, (.slice (some ad237) l0_2.length c0_2)] 44 (0, 0))) ∧ Aside0 (wc.heap[gb238]? = some (.cells #[.string ((rd_T73 l0_2 x4_2).f0), .int .i64 ((rd_T73 l0_2 x4_2).f1), .int .i64 ((rd_T73 l0_2 x4_2).f2), .int .i64 ((rd_T73 l0_2 x4_2).f3), .bool ((rd_T73 l0_2 x4_2).f4)] 73 (0, 0))) ∧ Aside0 (Below w.heap.size w wc))
                  case first =>
                    have H := HC14.out
                    clear HC14
                    by_cases c19 : ((rd_T73 l0_2 x4_2).f1) = a0_1
                    · rw [if_pos c19] at H
                      have c19b0 : (((rd_T73 l0_2 x4_2).f1) == a0_1) = true := beq_iff_eq.mpr c19
                      have c19b1 : (((rd_T73 l0_2 x4_2).f1) != a0_1) = false := bne_eq_false_iff_eq.mpr c19
                      clear c19
                      (first | rw [c19b0] | (simp only [i64_w, i32_w]; rw [c19b0]) | skip)
                      by_cases c20 : (((rd_T73 l0_2 x4_2).f0).size : Int) > 65536
                      · rw [if_pos c20] at H
                        have c20b0 : decide (65536 < (((rd_T73 l0_2 x4_2).f0).size : Int)) = true := decide_eq_true c20
                        have c20b1 : decide (65536 < ((rd_T73 l0_2 x4_2).f0).size) = true := decide_eq_true (by omega)
                        clear c20
                        have H' := Aside0.mk H
                        clear H
                        have hnb21 := NB238_236.out
                        have hnc21 := NB236_238.out
                        have hcz22_0 : w16.cell? ⟨gb238, 0, none⟩ = some (.string (⟨#[]⟩ : ByteArray)) := (blk_cell BK238.out 0).trans rfl
                        have hcz22_1 : w16.cell? ⟨gb238, 1, none⟩ = some (.int .i64 0) := (blk_cell BK238.out 1).trans rfl
                        have hcz22_2 : w16.cell? ⟨gb238, 2, none⟩ = some (.int .i64 0) := (blk_cell BK238.out 2).trans rfl
                        have hcz22_3 : w16.cell? ⟨gb238, 3, none⟩ = some (.int .i64 0) := (blk_cell BK238.out 3).trans rfl
                        have hcz22_4 : w16.cell? ⟨gb238, 4, none⟩ = some (.bool false) := (blk_cell BK238.out 4).trans rfl
                        have hfz22_0 := blk_frozen BK238.out 0
                        have hfz22_1 := blk_frozen BK238.out 1
                        have hfz22_2 := blk_frozen BK238.out 2
                        have hfz22_3 := blk_frozen BK238.out 3
                        have hfz22_4 := blk_frozen BK238.out 4
                        have hcz23_0 : w16.cell? ⟨gb236, 0, none⟩ = some (.int .u64 a0_0) := (blk_cell BK236.out 0).trans rfl
                        have hcz23_1 : w16.cell? ⟨gb236, 1, none⟩ = some (.int .i64 a0_1) := (blk_cell BK236.out 1).trans rfl
                        have hcz23_2 : w16.cell? ⟨gb236, 2, none⟩ = some (.slice (some ad237) l0_2.length c0_2) := (blk_cell BK236.out 2).trans rfl
                        have hfz23_0 := blk_frozen BK236.out 0
                        have hfz23_1 := blk_frozen BK236.out 1
                        have hfz23_2 := blk_frozen BK236.out 2
                        go_wp2
                        repeat (go_quiet (fail); try go_wp2)
                        first | go_meet | (subst_vars; go_meet)
                        case rel => exact ⟨_, (true), (by first | rfl | (simp; done) | (simp [*]; done)), H', ⟨by have := HJ1.out; have := HK2.out; first | omega | exact Nat.le_refl _⟩, ⟨by (with_reducible repeat (first | refine blk_drewN ?_ _ | refine blk_drew ?_ | refine blk_alloc ?_ _)); refine blk_far ?_ NB236_238.out _; (with_reducible repeat (first | refine blk_drewN ?_ _ | refine blk_drew ?_ | refine blk_alloc ?_ _)); refine blk_far ?_ NB236_238.out _; (with_reducible repeat (first | refine blk_drewN ?_ _ | refine blk_drew ?_ | refine blk_alloc ?_ _)); refine blk_far ?_ NB236_238.out _; (with_reducible repeat (first | refine blk_drewN ?_ _ | refine blk_drew ?_ | refine blk_alloc ?_ _)); refine blk_far ?_ NB236_238.out _; (with_reducible repeat (first | refine blk_drewN ?_ _ | refine blk_drew ?_ | refine blk_alloc ?_ _)); refine blk_far ?_ NB236_238.out _; (with_reducible repeat (first | refine blk_drewN ?_ _ | refine blk_drew ?_ | refine blk_alloc ?_ _)); exact BK236.out⟩, ⟨by (with_reducible repeat (first | refine blk_drewN ?_ _ | refine blk_drew ?_ | refine blk_alloc ?_ _)); refine blk_put (cs := #[.string ((rd_T73 l0_2 x4_2).f0), .int .i64 ((rd_T73 l0_2 x4_2).f1), .int .i64 ((rd_T73 l0_2 x4_2).f2), .int .i64 ((rd_T73 l0_2 x4_2).f3), .bool false]) ?_ 4 _ rfl; (with_reducible repeat (first | refine blk_drewN ?_ _ | refine blk_drew ?_ | refine blk_alloc ?_ _)); refine blk_put (cs := #[.string ((rd_T73 l0_2 x4_2).f0), .int .i64 ((rd_T73 l0_2 x4_2).f1), .int .i64 ((rd_T73 l0_2 x4_2).f2), .int .i64 0, .bool false]) ?_ 3 _ rfl; (with_reducible repeat (first | refine blk_drewN ?_ _ | refine blk_drew ?_ | refine blk_alloc ?_ _)); refine blk_put (cs := #[.string ((rd_T73 l0_2 x4_2).f0), .int .i64 ((rd_T73 l0_2 x4_2).f1), .int .i64 0, .int .i64 0, .bool false]) ?_ 2 _ rfl; (with_reducible repeat (first | refine blk_drewN ?_ _ | refine blk_drew ?_ | refine blk_alloc ?_ _)); refine blk_put (cs := #[.string ((rd_T73 l0_2 x4_2).f0), .int .i64 0, .int .i64 0, .int .i64 0, .bool false]) ?_ 1 _ rfl; (with_reducible repeat (first | refine blk_drewN ?_ _ | refine blk_drew ?_ | refine blk_alloc ?_ _)); refine blk_put (cs := #[.string (⟨#[]⟩ : ByteArray), .int .i64 0, .int .i64 0, .int .i64 0, .bool false]) ?_ 0 _ rfl; (with_reducible repeat (first | refine blk_drewN ?_ _ | refine blk_drew ?_ | refine blk_alloc ?_ _)); exact BK238.out⟩, ⟨by repeat (first | (with_reducible first | exact HB.out | apply below_alloc | apply pw_below_drewN | apply below_drew1 | refine below_set ?_ GE236.out | refine below_set ?_ GE238.out) | exact HB.out)⟩⟩
                      · rw [if_neg c20] at H
                        have c20b0 : decide (65536 < (((rd_T73 l0_2 x4_2).f0).size : Int)) = false := decide_eq_false c20
                        have c20b1 : decide (65536 < ((rd_T73 l0_2 x4_2).f0).size) = false := decide_eq_false (by omega)
                        clear c20
                        by_cases c24 : ((rd_T73 l0_2 x4_2).f2) < 0
                        · rw [if_pos c24] at H
                          have c24b0 : decide (((rd_T73 l0_2 x4_2).f2) < 0) = true := decide_eq_true c24
                          clear c24
                          have H' := Aside0.mk H
                          clear H
                          have hnb25 := NB238_236.out
                          have hnc25 := NB236_238.out
                          have hcz26_0 : w16.cell? ⟨gb238, 0, none⟩ = some (.string (⟨#[]⟩ : ByteArray)) := (blk_cell BK238.out 0).trans rfl
                          have hcz26_1 : w16.cell? ⟨gb238, 1, none⟩ = some (.int .i64 0) := (blk_cell BK238.out 1).trans rfl
                          have hcz26_2 : w16.cell? ⟨gb238, 2, none⟩ = some (.int .i64 0) := (blk_cell BK238.out 2).trans rfl
                          have hcz26_3 : w16.cell? ⟨gb238, 3, none⟩ = some (.int .i64 0) := (blk_cell BK238.out 3).trans rfl
                          have hcz26_4 : w16.cell? ⟨gb238, 4, none⟩ = some (.bool false) := (blk_cell BK238.out 4).trans rfl
                          have hfz26_0 := blk_frozen BK238.out 0
                          have hfz26_1 := blk_frozen BK238.out 1
                          have hfz26_2 := blk_frozen BK238.out 2
                          have hfz26_3 := blk_frozen BK238.out 3
                          have hfz26_4 := blk_frozen BK238.out 4
                          have hcz27_0 : w16.cell? ⟨gb236, 0, none⟩ = some (.int .u64 a0_0) := (blk_cell BK236.out 0).trans rfl
                          have hcz27_1 : w16.cell? ⟨gb236, 1, none⟩ = some (.int .i64 a0_1) := (blk_cell BK236.out 1).trans rfl
                          have hcz27_2 : w16.cell? ⟨gb236, 2, none⟩ = some (.slice (some ad237) l0_2.length c0_2) := (blk_cell BK236.out 2).trans rfl
                          have hfz27_0 := blk_frozen BK236.out 0
                          have hfz27_1 := blk_frozen BK236.out 1
                          have hfz27_2 := blk_frozen BK236.out 2
                          go_wp2
                          repeat (go_quiet (fail); try go_wp2)
                          first | go_meet | (subst_vars; go_meet)
                          case rel => exact ⟨_, (true), (by first | rfl | (simp; done) | (simp [*]; done)), H', ⟨by have := HJ1.out; have := HK2.out; first | omega | exact Nat.le_refl _⟩, ⟨by (with_reducible repeat (first | refine blk_drewN ?_ _ | refine blk_drew ?_ | refine blk_alloc ?_ _)); refine blk_far ?_ NB236_238.out _; (with_reducible repeat (first | refine blk_drewN ?_ _ | refine blk_drew ?_ | refine blk_alloc ?_ _)); refine blk_far ?_ NB236_238.out _; (with_reducible repeat (first | refine blk_drewN ?_ _ | refine blk_drew ?_ | refine blk_alloc ?_ _)); refine blk_far ?_ NB236_238.out _; (with_reducible repeat (first | refine blk_drewN ?_ _ | refine blk_drew ?_ | refine blk_alloc ?_ _)); refine blk_far ?_ NB236_238.out _; (with_reducible repeat (first | refine blk_drewN ?_ _ | refine blk_drew ?_ | refine blk_alloc ?_ _)); refine blk_far ?_ NB236_238.out _; (with_reducible repeat (first | refine blk_drewN ?_ _ | refine blk_drew ?_ | refine blk_alloc ?_ _)); exact BK236.out⟩, ⟨by (with_reducible repeat (first | refine blk_drewN ?_ _ | refine blk_drew ?_ | refine blk_alloc ?_ _)); refine blk_put (cs := #[.string ((rd_T73 l0_2 x4_2).f0), .int .i64 ((rd_T73 l0_2 x4_2).f1), .int .i64 ((rd_T73 l0_2 x4_2).f2), .int .i64 ((rd_T73 l0_2 x4_2).f3), .bool false]) ?_ 4 _ rfl; (with_reducible repeat (first | refine blk_drewN ?_ _ | refine blk_drew ?_ | refine blk_alloc ?_ _)); refine blk_put (cs := #[.string ((rd_T73 l0_2 x4_2).f0), .int .i64 ((rd_T73 l0_2 x4_2).f1), .int .i64 ((rd_T73 l0_2 x4_2).f2), .int .i64 0, .bool false]) ?_ 3 _ rfl; (with_reducible repeat (first | refine blk_drewN ?_ _ | refine blk_drew ?_ | refine blk_alloc ?_ _)); refine blk_put (cs := #[.string ((rd_T73 l0_2 x4_2).f0), .int .i64 ((rd_T73 l0_2 x4_2).f1), .int .i64 0, .int .i64 0, .bool false]) ?_ 2 _ rfl; (with_reducible repeat (first | refine blk_drewN ?_ _ | refine blk_drew ?_ | refine blk_alloc ?_ _)); refine blk_put (cs := #[.string ((rd_T73 l0_2 x4_2).f0), .int .i64 0, .int .i64 0, .int .i64 0, .bool false]) ?_ 1 _ rfl; (with_reducible repeat (first | refine blk_drewN ?_ _ | refine blk_drew ?_ | refine blk_alloc ?_ _)); refine blk_put (cs := #[.string (⟨#[]⟩ : ByteArray), .int .i64 0, .int .i64 0, .int .i64 0, .bool false]) ?_ 0 _ rfl; (with_reducible repeat (first | refine blk_drewN ?_ _ | refine blk_drew ?_ | refine blk_alloc ?_ _)); exact BK238.out⟩, ⟨by repeat (first | (with_reducible first | exact HB.out | apply below_alloc | apply pw_below_drewN | apply below_drew1 | refine below_set ?_ GE236.out | refine below_set ?_ GE238.out) | exact HB.out)⟩⟩
                        · rw [if_neg c24] at H
                          have c24b0 : decide (((rd_T73 l0_2 x4_2).f2) < 0) = false := decide_eq_false c24
                          clear c24
                          have H' := Aside0.mk H
                          clear H
                          have hnb28 := NB238_236.out
                          have hnc28 := NB236_238.out
                          have hcz29_0 : w16.cell? ⟨gb238, 0, none⟩ = some (.string (⟨#[]⟩ : ByteArray)) := (blk_cell BK238.out 0).trans rfl
                          have hcz29_1 : w16.cell? ⟨gb238, 1, none⟩ = some (.int .i64 0) := (blk_cell BK238.out 1).trans rfl
                          have hcz29_2 : w16.cell? ⟨gb238, 2, none⟩ = some (.int .i64 0) := (blk_cell BK238.out 2).trans rfl
                          have hcz29_3 : w16.cell? ⟨gb238, 3, none⟩ = some (.int .i64 0) := (blk_cell BK238.out 3).trans rfl
                          have hcz29_4 : w16.cell? ⟨gb238, 4, none⟩ = some (.bool false) := (blk_cell BK238.out 4).trans rfl
                          have hfz29_0 := blk_frozen BK238.out 0
                          have hfz29_1 := blk_frozen BK238.out 1
                          have hfz29_2 := blk_frozen BK238.out 2
                          have hfz29_3 := blk_frozen BK238.out 3
                          have hfz29_4 := blk_frozen BK238.out 4
                          have hcz30_0 : w16.cell? ⟨gb236, 0, none⟩ = some (.int .u64 a0_0) := (blk_cell BK236.out 0).trans rfl
                          have hcz30_1 : w16.cell? ⟨gb236, 1, none⟩ = some (.int .i64 a0_1) := (blk_cell BK236.out 1).trans rfl
                          have hcz30_2 : w16.cell? ⟨gb236, 2, none⟩ = some (.slice (some ad237) l0_2.length c0_2) := (blk_cell BK236.out 2).trans rfl
                          have hfz30_0 := blk_frozen BK236.out 0
                          have hfz30_1 := blk_frozen BK236.out 1
                          have hfz30_2 := blk_frozen BK236.out 2
                          go_wp2
                          repeat (go_quiet (fail); try go_wp2)
                          first | go_meet | (subst_vars; go_meet)
                          case rel => exact ⟨_, (decide (((rd_T73 l0_2 x4_2).f3) < 0)), (by first | rfl | (simp; done) | (simp [*]; done)), H', ⟨by have := HJ1.out; have := HK2.out; first | omega | exact Nat.le_refl _⟩, ⟨by (with_reducible repeat (first | refine blk_drewN ?_ _ | refine blk_drew ?_ | refine blk_alloc ?_ _)); refine blk_far ?_ NB236_238.out _; (with_reducible repeat (first | refine blk_drewN ?_ _ | refine blk_drew ?_ | refine blk_alloc ?_ _)); refine blk_far ?_ NB236_238.out _; (with_reducible repeat (first | refine blk_drewN ?_ _ | refine blk_drew ?_ | refine blk_alloc ?_ _)); refine blk_far ?_ NB236_238.out _; (with_reducible repeat (first | refine blk_drewN ?_ _ | refine blk_drew ?_ | refine blk_alloc ?_ _)); refine blk_far ?_ NB236_238.out _; (with_reducible repeat (first | refine blk_drewN ?_ _ | refine blk_drew ?_ | refine blk_alloc ?_ _)); refine blk_far ?_ NB236_238.out _; (with_reducible repeat (first | refine blk_drewN ?_ _ | refine blk_drew ?_ | refine blk_alloc ?_ _)); exact BK236.out⟩, ⟨by (with_reducible repeat (first | refine blk_drewN ?_ _ | refine blk_drew ?_ | refine blk_alloc ?_ _)); refine blk_put (cs := #[.string ((rd_T73 l0_2 x4_2).f0), .int .i64 ((rd_T73 l0_2 x4_2).f1), .int .i64 ((rd_T73 l0_2 x4_2).f2), .int .i64 ((rd_T73 l0_2 x4_2).f3), .bool false]) ?_ 4 _ rfl; (with_reducible repeat (first | refine blk_drewN ?_ _ | refine blk_drew ?_ | refine blk_alloc ?_ _)); refine blk_put (cs := #[.string ((rd_T73 l0_2 x4_2).f0), .int .i64 ((rd_T73 l0_2 x4_2).f1), .int .i64 ((rd_T73 l0_2 x4_2).f2), .int .i64 0, .bool false]) ?_ 3 _ rfl; (with_reducible repeat (first | refine blk_drewN ?_ _ | refine blk_drew ?_ | refine blk_alloc ?_ _)); refine blk_put (cs := #[.string ((rd_T73 l0_2 x4_2).f0), .int .i64 ((rd_T73 l0_2 x4_2).f1), .int .i64 0, .int .i64 0, .bool false]) ?_ 2 _ rfl; (with_reducible repeat (first | refine blk_drewN ?_ _ | refine blk_drew ?_ | refine blk_alloc ?_ _)); refine blk_put (cs := #[.string ((rd_T73 l0_2 x4_2).f0), .int .i64 0, .int .i64 0, .int .i64 0, .bool false]) ?_ 1 _ rfl; (with_reducible repeat (first | refine blk_drewN ?_ _ | refine blk_drew ?_ | refine blk_alloc ?_ _)); refine blk_put (cs := #[.string (⟨#[]⟩ : ByteArray), .int .i64 0, .int .i64 0, .int .i64 0, .bool false]) ?_ 0 _ rfl; (with_reducible repeat (first | refine blk_drewN ?_ _ | refine blk_drew ?_ | refine blk_alloc ?_ _)); exact BK238.out⟩, ⟨by repeat (first | (with_reducible first | exact HB.out | apply below_alloc | apply pw_below_drewN | apply below_drew1 | refine below_set ?_ GE236.out | refine below_set ?_ GE238.out) | exact HB.out)⟩⟩
                    · rw [if_neg c19] at H
                      have c19b0 : (((rd_T73 l0_2 x4_2).f1) == a0_1) = false := beq_eq_false_iff_ne.mpr c19
                      have c19b1 : (((rd_T73 l0_2 x4_2).f1) != a0_1) = true := bne_iff_ne.mpr c19
                      (first | rw [c19b0] | (simp only [i64_w, i32_w]; rw [c19b0]) | skip)
                      have H' := Aside0.mk H
                      clear H
                      have hnb31 := NB238_236.out
                      have hnc31 := NB236_238.out
                      have hcz32_0 : w16.cell? ⟨gb238, 0, none⟩ = some (.string (⟨#[]⟩ : ByteArray)) := (blk_cell BK238.out 0).trans rfl
                      have hcz32_1 : w16.cell? ⟨gb238, 1, none⟩ = some (.int .i64 0) := (blk_cell BK238.out 1).trans rfl
                      have hcz32_2 : w16.cell? ⟨gb238, 2, none⟩ = some (.int .i64 0) := (blk_cell BK238.out 2).trans rfl
                      have hcz32_3 : w16.cell? ⟨gb238, 3, none⟩ = some (.int .i64 0) := (blk_cell BK238.out 3).trans rfl
                      have hcz32_4 : w16.cell? ⟨gb238, 4, none⟩ = some (.bool false) := (blk_cell BK238.out 4).trans rfl
                      have hfz32_0 := blk_frozen BK238.out 0
                      have hfz32_1 := blk_frozen BK238.out 1
                      have hfz32_2 := blk_frozen BK238.out 2
                      have hfz32_3 := blk_frozen BK238.out 3
                      have hfz32_4 := blk_frozen BK238.out 4
                      have hcz33_0 : w16.cell? ⟨gb236, 0, none⟩ = some (.int .u64 a0_0) := (blk_cell BK236.out 0).trans rfl
                      have hcz33_1 : w16.cell? ⟨gb236, 1, none⟩ = some (.int .i64 a0_1) := (blk_cell BK236.out 1).trans rfl
                      have hcz33_2 : w16.cell? ⟨gb236, 2, none⟩ = some (.slice (some ad237) l0_2.length c0_2) := (blk_cell BK236.out 2).trans rfl
                      have hfz33_0 := blk_frozen BK236.out 0
                      have hfz33_1 := blk_frozen BK236.out 1
                      have hfz33_2 := blk_frozen BK236.out 2
                      go_wp2
                      repeat (go_quiet (fail); try go_wp2)
                      first | go_meet | (subst_vars; go_meet)
                      case rel => exact ⟨_, (true), (by first | rfl | (simp; done) | (simp [*]; done)), H', ⟨by have := HJ1.out; have := HK2.out; first | omega | exact Nat.le_refl _⟩, ⟨by (with_reducible repeat (first | refine blk_drewN ?_ _ | refine blk_drew ?_ | refine blk_alloc ?_ _)); refine blk_far ?_ NB236_238.out _; (with_reducible repeat (first | refine blk_drewN ?_ _ | refine blk_drew ?_ | refine blk_alloc ?_ _)); refine blk_far ?_ NB236_238.out _; (with_reducible repeat (first | refine blk_drewN ?_ _ | refine blk_drew ?_ | refine blk_alloc ?_ _)); refine blk_far ?_ NB236_238.out _; (with_reducible repeat (first | refine blk_drewN ?_ _ | refine blk_drew ?_ | refine blk_alloc ?_ _)); refine blk_far ?_ NB236_238.out _; (with_reducible repeat (first | refine blk_drewN ?_ _ | refine blk_drew ?_ | refine blk_alloc ?_ _)); refine blk_far ?_ NB236_238.out _; (with_reducible repeat (first | refine blk_drewN ?_ _ | refine blk_drew ?_ | refine blk_alloc ?_ _)); exact BK236.out⟩, ⟨by (with_reducible repeat (first | refine blk_drewN ?_ _ | refine blk_drew ?_ | refine blk_alloc ?_ _)); refine blk_put (cs := #[.string ((rd_T73 l0_2 x4_2).f0), .int .i64 ((rd_T73 l0_2 x4_2).f1), .int .i64 ((rd_T73 l0_2 x4_2).f2), .int .i64 ((rd_T73 l0_2 x4_2).f3), .bool false]) ?_ 4 _ rfl; (with_reducible repeat (first | refine blk_drewN ?_ _ | refine blk_drew ?_ | refine blk_alloc ?_ _)); refine blk_put (cs := #[.string ((rd_T73 l0_2 x4_2).f0), .int .i64 ((rd_T73 l0_2 x4_2).f1), .int .i64 ((rd_T73 l0_2 x4_2).f2), .int .i64 0, .bool false]) ?_ 3 _ rfl; (with_reducible repeat (first | refine blk_drewN ?_ _ | refine blk_drew ?_ | refine blk_alloc ?_ _)); refine blk_put (cs := #[.string ((rd_T73 l0_2 x4_2).f0), .int .i64 ((rd_T73 l0_2 x4_2).f1), .int .i64 0, .int .i64 0, .bool false]) ?_ 2 _ rfl; (with_reducible repeat (first | refine blk_drewN ?_ _ | refine blk_drew ?_ | refine blk_alloc ?_ _)); refine blk_put (cs := #[.string ((rd_T73 l0_2 x4_2).f0), .int .i64 0, .int .i64 0, .int .i64 0, .bool false]) ?_ 1 _ rfl; (with_reducible repeat (first | refine blk_drewN ?_ _ | refine blk_drew ?_ | refine blk_alloc ?_ _)); refine blk_put (cs := #[.string (⟨#[]⟩ : ByteArray), .int .i64 0, .int .i64 0, .int .i64 0, .bool false]) ?_ 0 _ rfl; (with_reducible repeat (first | refine blk_drewN ?_ _ | refine blk_drew ?_ | refine blk_alloc ?_ _)); exact BK238.out⟩, ⟨by repeat (first | (with_reducible first | exact HB.out | apply below_alloc | apply pw_below_drewN | apply below_drew1 | refine below_set ?_ GE236.out | refine below_set ?_ GE238.out) | exact HB.out)⟩⟩
                  case rest =>
                    clear HC14
                    try clear c1
                    try clear c2
                    try clear p2
                    try clear q2
                    try clear hx2
                    try clear c3
                    try clear c5
                    try clear c5b0
                    try clear c5b1
                    try clear c7
                    try clear c7b0
                    try clear c7b1
                    try clear c7b2
                    try clear c10
                    try clear c11
                    try clear c11b0
                    try clear c12
                    try clear c12b0
                    try clear c13
                    try clear c13b0
                    try clear c17
                    try clear c19
                    try clear c19b0
                    try clear c19b1
                    try clear c20
                    try clear c20b0
                    try clear c20b1
                    try clear c21
                    try clear p23
                    try clear q23
                    try clear hx23
                    try clear c24
                    try clear c24b0
                    try clear c25
                    try clear c28
                    try clear c31
                    try clear hcz15_0
                    try clear hcz15_1
                    try clear hcz15_2
                    try clear hcz18_0
                    try clear hcz18_1
                    try clear hcz18_2
                    try clear hcz18_3
                    try clear hcz18_4
                    try clear hcz22_0
                    try clear hcz22_1
                    try clear hcz22_2
                    try clear hcz22_3
                    try clear hcz22_4
                    try clear hcz23_0
                    try clear hcz23_1
                    try clear hcz23_2
                    try clear hcz26_0
                    try clear hcz26_1
                    try clear hcz26_2
                    try clear hcz26_3
                    try clear hcz26_4
                    try clear hcz27_0
                    try clear hcz27_1
                    try clear hcz27_2
                    try clear hcz29_0
                    try clear hcz29_1
                    try clear hcz29_2
                    try clear hcz29_3
                    try clear hcz29_4
                    try clear hcz30_0
                    try clear hcz30_1
                    try clear hcz30_2
                    try clear hcz32_0
                    try clear hcz32_1
                    try clear hcz32_2
                    try clear hcz32_3
                    try clear hcz32_4
                    try clear hcz33_0
                    try clear hcz33_1
                    try clear hcz33_2
                    try clear hcz4_0
                    try clear hcz4_1
                    try clear hcz4_2
                    try clear hcz6_0
                    try clear hcz6_1
                    try clear hcz6_2
                    try clear hcz8_0
                    try clear hcz8_1
                    try clear hcz8_2
                    try clear hcz9_0
                    try clear hcz9_1
                    try clear hcz9_2
                    try clear hfz15_0
                    try clear hfz15_1
                    try clear hfz15_2
                    try clear hfz18_0
                    try clear hfz18_1
                    try clear hfz18_2
                    try clear hfz18_3
                    try clear hfz18_4
                    try clear hfz22_0
                    try clear hfz22_1
                    try clear hfz22_2
                    try clear hfz22_3
                    try clear hfz22_4
                    try clear hfz23_0
                    try clear hfz23_1
                    try clear hfz23_2
                    try clear hfz26_0
                    try clear hfz26_1
                    try clear hfz26_2
                    try clear hfz26_3
                    try clear hfz26_4
                    try clear hfz27_0
                    try clear hfz27_1
                    try clear hfz27_2
                    try clear hfz29_0
                    try clear hfz29_1
                    try clear hfz29_2
                    try clear hfz29_3
                    try clear hfz29_4
                    try clear hfz30_0
                    try clear hfz30_1
                    try clear hfz30_2
                    try clear hfz32_0
                    try clear hfz32_1
                    try clear hfz32_2
                    try clear hfz32_3
                    try clear hfz32_4
                    try clear hfz33_0
                    try clear hfz33_1
                    try clear hfz33_2
                    try clear hfz4_0
                    try clear hfz4_1
                    try clear hfz4_2
                    try clear hfz6_0
                    try clear hfz6_1
                    try clear hfz6_2
                    try clear hfz8_0
                    try clear hfz8_1
                    try clear hfz8_2
                    try clear hfz9_0
                    try clear hfz9_1
                    try clear hfz9_2
                    try clear hx237_0
                    try clear hx237_1
                    try clear hx237_2
                    try clear hx237_3
                    try clear hx237_4
                    try clear p2
                    try clear p237
                    try clear q237
                    obtain ⟨kq, x50_13, rfl, HA, HJ13, BK236, BK238, HB⟩ := hcut
                    cases kq with
                    | zero => exact absurd HA.out (by simp [odometerref20_May.j2])
                    | succ kj13 =>
                      have H := HA.out
                      clear HA
                      simp only [odometerref20_May.j2] at H
                      by_cases c34 : x50_13 = true
                      · subst c34
                        have H1 : (some false) = some r := by rw [if_pos rfl] at H; exact H
                        clear H
                        have H := H1
                        clear H1
                        obtain rfl := Option.some.inj H
                        go_wp2
                        repeat (go_quiet (fail); try go_wp2)
                        go_ret
                        exact ⟨by first | rfl | (simp [errW_none, errW_some] <;> rfl) | (simp [*, errW_none, errW_some] <;> rfl), by repeat (first | (with_reducible first | exact HB.out | apply below_alloc | apply pw_below_drewN | apply below_drew1 | refine below_set ?_ GE236.out | refine below_set ?_ GE238.out) | exact HB.out)⟩
                      · replace c34 := Bool.eq_false_iff.mpr c34
                        subst c34
                        have H1 : (if ((rd_T73 l0_2 x4_2).f2) = 0 then (if ((rd_T73 l0_2 x4_2).f4) = true then (if x4_2 > 0 then (if 0 ≤ (wrap64 (x4_2 - 1)) then (if (wrap64 (x4_2 - 1)) < (l0_2.length : Int) then (if ((Op.bytesLess (((rd_T73 l0_2 (wrap64 (x4_2 - 1))).f0).toList) ((rd_T73 l0_2 x4_2).f0).toList) = true) then (odometerref20_May.l0 kj13 (l0_2.length : Int) (wrap64 (x4_2 + 1)) a0_0 a0_1 l0_2) else (some false)) else (none)) else (none)) else (odometerref20_May.l0 kj13 (l0_2.length : Int) (wrap64 (x4_2 + 1)) a0_0 a0_1 l0_2)) else (some false)) else (if x4_2 > 0 then (if 0 ≤ (wrap64 (x4_2 - 1)) then (if (wrap64 (x4_2 - 1)) < (l0_2.length : Int) then (if ((Op.bytesLess (((rd_T73 l0_2 (wrap64 (x4_2 - 1))).f0).toList) ((rd_T73 l0_2 x4_2).f0).toList) = true) then (odometerref20_May.l0 kj13 (l0_2.length : Int) (wrap64 (x4_2 + 1)) a0_0 a0_1 l0_2) else (some false)) else (none)) else (none)) else (odometerref20_May.l0 kj13 (l0_2.length : Int) (wrap64 (x4_2 + 1)) a0_0 a0_1 l0_2))) = some r := by rw [if_neg (show ¬ (false = true) by decide)] at H; exact H
                        clear H
                        have H := H1
                        clear H1
                        by_cases c35 : ((rd_T73 l0_2 x4_2).f2) = 0
                        · rw [if_pos c35] at H
                          have c35b0 : (((rd_T73 l0_2 x4_2).f2) == 0) = true := beq_iff_eq.mpr c35
                          have c35b1 : (((rd_T73 l0_2 x4_2).f2) != 0) = false := bne_eq_false_iff_eq.mpr c35
                          clear c35
                          by_cases c36 : ((rd_T73 l0_2 x4_2).f4) = true
                          · rw [if_pos c36] at H
                            have c36b0 : ((rd_T73 l0_2 x4_2).f4) = true := c36
                            clear c36
                            by_cases c37 : x4_2 > 0
                            · rw [if_pos c37] at H
                              have c37b0 : decide (0 < x4_2) = true := decide_eq_true c37
                              clear c37
                              obtain ⟨ji38, hji38⟩ : ∃ j_ : Int, (wrap64 (x4_2 - 1)) = j_ := ⟨_, rfl⟩
                              replace H : (if 0 ≤ (ji38) then (if (ji38) < (l0_2.length : Int) then (if ((Op.bytesLess (((rd_T73 l0_2 (ji38)).f0).toList) ((rd_T73 l0_2 x4_2).f0).toList) = true) then (odometerref20_May.l0 kj13 (l0_2.length : Int) (wrap64 (x4_2 + 1)) a0_0 a0_1 l0_2) else (some false)) else (none)) else (none)) = some r := by first | (rw [hji38] at H; exact H) | (simp only [hji38] at H ⊢; exact H)
                              have hji38w : (IntKind.i64.wrap (x4_2 - 1)) = ji38 := (i64_w _).trans hji38
                              by_cases c39 : 0 ≤ (ji38)
                              · rw [if_pos c39] at H
                                have c39b0 : decide (0 ≤ (ji38)) = true := decide_eq_true c39
                                clear c39
                                by_cases c40 : (ji38) < (l0_2.length : Int)
                                · rw [if_pos c40] at H
                                  have c40b0 : decide ((ji38) < (l0_2.length : Int)) = true := decide_eq_true c40
                                  clear c40
                                  by_cases c41 : ((Op.bytesLess (((rd_T73 l0_2 (ji38)).f0).toList) ((rd_T73 l0_2 x4_2).f0).toList) = true)
                                  · rw [if_pos c41] at H
                                    have c41b0 : (Op.bytesLess (((rd_T73 l0_2 (ji38)).f0).toList) ((rd_T73 l0_2 x4_2).f0).toList) = true := c41
                                    have hge := geq_str ((rd_T73 l0_2 (ji38)).f0) ((rd_T73 l0_2 x4_2).f0)
                                    rw [c41b0] at hge
                                    simp only [Bool.not_true, Bool.not_false] at hge
                                    clear c41
                                    have H' := Aside0.mk H
                                    clear H
                                    have hnb42 := NB238_236.out
                                    have hnc42 := NB236_238.out
                                    have hcz43_0 : wc.cell? ⟨gb238, 0, none⟩ = some (.string ((rd_T73 l0_2 x4_2).f0)) := (blk_cell BK238.out 0).trans rfl
                                    have hcz43_1 : wc.cell? ⟨gb238, 1, none⟩ = some (.int .i64 ((rd_T73 l0_2 x4_2).f1)) := (blk_cell BK238.out 1).trans rfl
                                    have hcz43_2 : wc.cell? ⟨gb238, 2, none⟩ = some (.int .i64 ((rd_T73 l0_2 x4_2).f2)) := (blk_cell BK238.out 2).trans rfl
                                    have hcz43_3 : wc.cell? ⟨gb238, 3, none⟩ = some (.int .i64 ((rd_T73 l0_2 x4_2).f3)) := (blk_cell BK238.out 3).trans rfl
                                    have hcz43_4 : wc.cell? ⟨gb238, 4, none⟩ = some (.bool ((rd_T73 l0_2 x4_2).f4)) := (blk_cell BK238.out 4).trans rfl
                                    have hfz43_0 := blk_frozen BK238.out 0
                                    have hfz43_1 := blk_frozen BK238.out 1
                                    have hfz43_2 := blk_frozen BK238.out 2
                                    have hfz43_3 := blk_frozen BK238.out 3
                                    have hfz43_4 := blk_frozen BK238.out 4
                                    have hcz44_0 : wc.cell? ⟨gb236, 0, none⟩ = some (.int .u64 a0_0) := (blk_cell BK236.out 0).trans rfl
                                    have hcz44_1 : wc.cell? ⟨gb236, 1, none⟩ = some (.int .i64 a0_1) := (blk_cell BK236.out 1).trans rfl
                                    have hcz44_2 : wc.cell? ⟨gb236, 2, none⟩ = some (.slice (some ad237) l0_2.length c0_2) := (blk_cell BK236.out 2).trans rfl
                                    have hfz44_0 := blk_frozen BK236.out 0
                                    have hfz44_1 := blk_frozen BK236.out 1
                                    have hfz44_2 := blk_frozen BK236.out 2
                                    have p239 : 0 ≤ ((ji38) : Int) := of_decide_eq_true (by first | (with_reducible assumption) | assumption)
                                    have q239 : (ji38) < (l0_2.length : Int) := of_decide_eq_true (by first | (with_reducible assumption) | assumption)
                                    obtain ⟨ad239, e239, hx239_0, hx239_1, hx239_2, hx239_3, hx239_4⟩ := at_T73 HR0_2.out (ji38) p239 q239
                                    obtain rfl : ad237 = ad239 := (by injection e239)
                                    replace hx239_0 := (HB.out.cell (World.block_lt_of_cell? w _ hx239_0)).trans hx239_0
                                    replace hx239_1 := (HB.out.cell (World.block_lt_of_cell? w _ hx239_1)).trans hx239_1
                                    replace hx239_2 := (HB.out.cell (World.block_lt_of_cell? w _ hx239_2)).trans hx239_2
                                    replace hx239_3 := (HB.out.cell (World.block_lt_of_cell? w _ hx239_3)).trans hx239_3
                                    replace hx239_4 := (HB.out.cell (World.block_lt_of_cell? w _ hx239_4)).trans hx239_4
                                    replace p239 := eq_true p239
                                    replace q239 := eq_true q239
                                    go_wp2
                                    repeat (go_quiet (fail); try go_wp2)
                                    go_roundg kj13
                                    case measure => have := HJ1.out; have := HK2.out; have := HJ13.out; omega
                                    case rel => exact ⟨(wrap64 (x4_2 + 1)), (by first | rfl | (simp; done) | (simp [*]; done)), H', ⟨by have := HJ1.out; have := HK2.out; have := HJ13.out; omega⟩, ⟨by (with_reducible repeat (first | refine blk_drewN ?_ _ | refine blk_drew ?_ | refine blk_alloc ?_ _)); exact BK236.out⟩, ⟨by repeat (first | (with_reducible first | exact HB.out | apply below_alloc | apply pw_below_drewN | apply below_drew1 | refine below_set ?_ GE236.out | refine below_set ?_ GE238.out) | exact HB.out)⟩⟩
                                  · rw [if_neg c41] at H
                                    have c41b0 : (Op.bytesLess (((rd_T73 l0_2 (ji38)).f0).toList) ((rd_T73 l0_2 x4_2).f0).toList) = false := by simpa using c41
                                    have hge := geq_str ((rd_T73 l0_2 (ji38)).f0) ((rd_T73 l0_2 x4_2).f0)
                                    rw [c41b0] at hge
                                    simp only [Bool.not_true, Bool.not_false] at hge
                                    clear c41
                                    obtain rfl := Option.some.inj H
                                    have hnb45 := NB238_236.out
                                    have hnc45 := NB236_238.out
                                    have hcz46_0 : wc.cell? ⟨gb238, 0, none⟩ = some (.string ((rd_T73 l0_2 x4_2).f0)) := (blk_cell BK238.out 0).trans rfl
                                    have hcz46_1 : wc.cell? ⟨gb238, 1, none⟩ = some (.int .i64 ((rd_T73 l0_2 x4_2).f1)) := (blk_cell BK238.out 1).trans rfl
                                    have hcz46_2 : wc.cell? ⟨gb238, 2, none⟩ = some (.int .i64 ((rd_T73 l0_2 x4_2).f2)) := (blk_cell BK238.out 2).trans rfl
                                    have hcz46_3 : wc.cell? ⟨gb238, 3, none⟩ = some (.int .i64 ((rd_T73 l0_2 x4_2).f3)) := (blk_cell BK238.out 3).trans rfl
                                    have hcz46_4 : wc.cell? ⟨gb238, 4, none⟩ = some (.bool ((rd_T73 l0_2 x4_2).f4)) := (blk_cell BK238.out 4).trans rfl
                                    have hfz46_0 := blk_frozen BK238.out 0
                                    have hfz46_1 := blk_frozen BK238.out 1
                                    have hfz46_2 := blk_frozen BK238.out 2
                                    have hfz46_3 := blk_frozen BK238.out 3
                                    have hfz46_4 := blk_frozen BK238.out 4
                                    have hcz47_0 : wc.cell? ⟨gb236, 0, none⟩ = some (.int .u64 a0_0) := (blk_cell BK236.out 0).trans rfl
                                    have hcz47_1 : wc.cell? ⟨gb236, 1, none⟩ = some (.int .i64 a0_1) := (blk_cell BK236.out 1).trans rfl
                                    have hcz47_2 : wc.cell? ⟨gb236, 2, none⟩ = some (.slice (some ad237) l0_2.length c0_2) := (blk_cell BK236.out 2).trans rfl
                                    have hfz47_0 := blk_frozen BK236.out 0
                                    have hfz47_1 := blk_frozen BK236.out 1
                                    have hfz47_2 := blk_frozen BK236.out 2
                                    have p239 : 0 ≤ ((ji38) : Int) := of_decide_eq_true (by first | (with_reducible assumption) | assumption)
                                    have q239 : (ji38) < (l0_2.length : Int) := of_decide_eq_true (by first | (with_reducible assumption) | assumption)
                                    obtain ⟨ad239, e239, hx239_0, hx239_1, hx239_2, hx239_3, hx239_4⟩ := at_T73 HR0_2.out (ji38) p239 q239
                                    obtain rfl : ad237 = ad239 := (by injection e239)
                                    replace hx239_0 := (HB.out.cell (World.block_lt_of_cell? w _ hx239_0)).trans hx239_0
                                    replace hx239_1 := (HB.out.cell (World.block_lt_of_cell? w _ hx239_1)).trans hx239_1
                                    replace hx239_2 := (HB.out.cell (World.block_lt_of_cell? w _ hx239_2)).trans hx239_2
                                    replace hx239_3 := (HB.out.cell (World.block_lt_of_cell? w _ hx239_3)).trans hx239_3
                                    replace hx239_4 := (HB.out.cell (World.block_lt_of_cell? w _ hx239_4)).trans hx239_4
                                    replace p239 := eq_true p239
                                    replace q239 := eq_true q239
                                    go_wp2
                                    repeat (go_quiet (fail); try go_wp2)
                                    go_ret
                                    exact ⟨by first | rfl | (simp [errW_none, errW_some] <;> rfl) | (simp only [← hji38]; first | rfl | (simp [errW_none, errW_some] <;> rfl)) | (simp [*, errW_none, errW_some] <;> rfl), by repeat (first | (with_reducible first | exact HB.out | apply below_alloc | apply pw_below_drewN | apply below_drew1 | refine below_set ?_ GE236.out | refine below_set ?_ GE238.out) | exact HB.out)⟩
                                · rw [if_neg c40] at H
                                  exact absurd H (by simp)
                              · rw [if_neg c39] at H
                                exact absurd H (by simp)
                            · rw [if_neg c37] at H
                              have c37b0 : decide (0 < x4_2) = false := decide_eq_false c37
                              clear c37
                              have H' := Aside0.mk H
                              clear H
                              have hnb48 := NB238_236.out
                              have hnc48 := NB236_238.out
                              have hcz49_0 : wc.cell? ⟨gb238, 0, none⟩ = some (.string ((rd_T73 l0_2 x4_2).f0)) := (blk_cell BK238.out 0).trans rfl
                              have hcz49_1 : wc.cell? ⟨gb238, 1, none⟩ = some (.int .i64 ((rd_T73 l0_2 x4_2).f1)) := (blk_cell BK238.out 1).trans rfl
                              have hcz49_2 : wc.cell? ⟨gb238, 2, none⟩ = some (.int .i64 ((rd_T73 l0_2 x4_2).f2)) := (blk_cell BK238.out 2).trans rfl
                              have hcz49_3 : wc.cell? ⟨gb238, 3, none⟩ = some (.int .i64 ((rd_T73 l0_2 x4_2).f3)) := (blk_cell BK238.out 3).trans rfl
                              have hcz49_4 : wc.cell? ⟨gb238, 4, none⟩ = some (.bool ((rd_T73 l0_2 x4_2).f4)) := (blk_cell BK238.out 4).trans rfl
                              have hfz49_0 := blk_frozen BK238.out 0
                              have hfz49_1 := blk_frozen BK238.out 1
                              have hfz49_2 := blk_frozen BK238.out 2
                              have hfz49_3 := blk_frozen BK238.out 3
                              have hfz49_4 := blk_frozen BK238.out 4
                              go_wp2
                              repeat (go_quiet (fail); try go_wp2)
                              go_roundg kj13
                              case measure => have := HJ1.out; have := HK2.out; have := HJ13.out; omega
                              case rel => exact ⟨(wrap64 (x4_2 + 1)), (by first | rfl | (simp; done) | (simp [*]; done)), H', ⟨by have := HJ1.out; have := HK2.out; have := HJ13.out; omega⟩, ⟨by (with_reducible repeat (first | refine blk_drewN ?_ _ | refine blk_drew ?_ | refine blk_alloc ?_ _)); exact BK236.out⟩, ⟨by repeat (first | (with_reducible first | exact HB.out | apply below_alloc | apply pw_below_drewN | apply below_drew1 | refine below_set ?_ GE236.out | refine below_set ?_ GE238.out) | exact HB.out)⟩⟩
                          · rw [if_neg c36] at H
                            have c36b0 : ((rd_T73 l0_2 x4_2).f4) = false := by simpa using c36
                            clear c36
                            obtain rfl := Option.some.inj H
                            have hnb50 := NB238_236.out
                            have hnc50 := NB236_238.out
                            have hcz51_0 : wc.cell? ⟨gb238, 0, none⟩ = some (.string ((rd_T73 l0_2 x4_2).f0)) := (blk_cell BK238.out 0).trans rfl
                            have hcz51_1 : wc.cell? ⟨gb238, 1, none⟩ = some (.int .i64 ((rd_T73 l0_2 x4_2).f1)) := (blk_cell BK238.out 1).trans rfl
                            have hcz51_2 : wc.cell? ⟨gb238, 2, none⟩ = some (.int .i64 ((rd_T73 l0_2 x4_2).f2)) := (blk_cell BK238.out 2).trans rfl
                            have hcz51_3 : wc.cell? ⟨gb238, 3, none⟩ = some (.int .i64 ((rd_T73 l0_2 x4_2).f3)) := (blk_cell BK238.out 3).trans rfl
                            have hcz51_4 : wc.cell? ⟨gb238, 4, none⟩ = some (.bool ((rd_T73 l0_2 x4_2).f4)) := (blk_cell BK238.out 4).trans rfl
                            have hfz51_0 := blk_frozen BK238.out 0
                            have hfz51_1 := blk_frozen BK238.out 1
                            have hfz51_2 := blk_frozen BK238.out 2
                            have hfz51_3 := blk_frozen BK238.out 3
                            have hfz51_4 := blk_frozen BK238.out 4
                            go_wp2
                            repeat (go_quiet (fail); try go_wp2)
                            go_ret
                            exact ⟨by first | rfl | (simp [errW_none, errW_some] <;> rfl) | (simp [*, errW_none, errW_some] <;> rfl), by repeat (first | (with_reducible first | exact HB.out | apply below_alloc | apply pw_below_drewN | apply below_drew1 | refine below_set ?_ GE236.out | refine below_set ?_ GE238.out) | exact HB.out)⟩
                        · rw [if_neg c35] at H
                          have c35b0 : (((rd_T73 l0_2 x4_2).f2) == 0) = false := beq_eq_false_iff_ne.mpr c35
                          have c35b1 : (((rd_T73 l0_2 x4_2).f2) != 0) = true := bne_iff_ne.mpr c35
                          by_cases c52 : x4_2 > 0
                          · rw [if_pos c52] at H
                            have c52b0 : decide (0 < x4_2) = true := decide_eq_true c52
                            clear c52
                            obtain ⟨ji53, hji53⟩ : ∃ j_ : Int, (wrap64 (x4_2 - 1)) = j_ := ⟨_, rfl⟩
                            replace H : (if 0 ≤ (ji53) then (if (ji53) < (l0_2.length : Int) then (if ((Op.bytesLess (((rd_T73 l0_2 (ji53)).f0).toList) ((rd_T73 l0_2 x4_2).f0).toList) = true) then (odometerref20_May.l0 kj13 (l0_2.length : Int) (wrap64 (x4_2 + 1)) a0_0 a0_1 l0_2) else (some false)) else (none)) else (none)) = some r := by first | (rw [hji53] at H; exact H) | (simp only [hji53] at H ⊢; exact H)
                            have hji53w : (IntKind.i64.wrap (x4_2 - 1)) = ji53 := (i64_w _).trans hji53
                            by_cases c54 : 0 ≤ (ji53)
                            · rw [if_pos c54] at H
                              have c54b0 : decide (0 ≤ (ji53)) = true := decide_eq_true c54
                              clear c54
                              by_cases c55 : (ji53) < (l0_2.length : Int)
                              · rw [if_pos c55] at H
                                have c55b0 : decide ((ji53) < (l0_2.length : Int)) = true := decide_eq_true c55
                                clear c55
                                by_cases c56 : ((Op.bytesLess (((rd_T73 l0_2 (ji53)).f0).toList) ((rd_T73 l0_2 x4_2).f0).toList) = true)
                                · rw [if_pos c56] at H
                                  have c56b0 : (Op.bytesLess (((rd_T73 l0_2 (ji53)).f0).toList) ((rd_T73 l0_2 x4_2).f0).toList) = true := c56
                                  have hge := geq_str ((rd_T73 l0_2 (ji53)).f0) ((rd_T73 l0_2 x4_2).f0)
                                  rw [c56b0] at hge
                                  simp only [Bool.not_true, Bool.not_false] at hge
                                  clear c56
                                  have H' := Aside0.mk H
                                  clear H
                                  have hnb57 := NB238_236.out
                                  have hnc57 := NB236_238.out
                                  have hcz58_0 : wc.cell? ⟨gb238, 0, none⟩ = some (.string ((rd_T73 l0_2 x4_2).f0)) := (blk_cell BK238.out 0).trans rfl
                                  have hcz58_1 : wc.cell? ⟨gb238, 1, none⟩ = some (.int .i64 ((rd_T73 l0_2 x4_2).f1)) := (blk_cell BK238.out 1).trans rfl
                                  have hcz58_2 : wc.cell? ⟨gb238, 2, none⟩ = some (.int .i64 ((rd_T73 l0_2 x4_2).f2)) := (blk_cell BK238.out 2).trans rfl
                                  have hcz58_3 : wc.cell? ⟨gb238, 3, none⟩ = some (.int .i64 ((rd_T73 l0_2 x4_2).f3)) := (blk_cell BK238.out 3).trans rfl
                                  have hcz58_4 : wc.cell? ⟨gb238, 4, none⟩ = some (.bool ((rd_T73 l0_2 x4_2).f4)) := (blk_cell BK238.out 4).trans rfl
                                  have hfz58_0 := blk_frozen BK238.out 0
                                  have hfz58_1 := blk_frozen BK238.out 1
                                  have hfz58_2 := blk_frozen BK238.out 2
                                  have hfz58_3 := blk_frozen BK238.out 3
                                  have hfz58_4 := blk_frozen BK238.out 4
                                  have hcz59_0 : wc.cell? ⟨gb236, 0, none⟩ = some (.int .u64 a0_0) := (blk_cell BK236.out 0).trans rfl
                                  have hcz59_1 : wc.cell? ⟨gb236, 1, none⟩ = some (.int .i64 a0_1) := (blk_cell BK236.out 1).trans rfl
                                  have hcz59_2 : wc.cell? ⟨gb236, 2, none⟩ = some (.slice (some ad237) l0_2.length c0_2) := (blk_cell BK236.out 2).trans rfl
                                  have hfz59_0 := blk_frozen BK236.out 0
                                  have hfz59_1 := blk_frozen BK236.out 1
                                  have hfz59_2 := blk_frozen BK236.out 2
                                  have p240 : 0 ≤ ((ji53) : Int) := of_decide_eq_true (by first | (with_reducible assumption) | assumption)
                                  have q240 : (ji53) < (l0_2.length : Int) := of_decide_eq_true (by first | (with_reducible assumption) | assumption)
                                  obtain ⟨ad240, e240, hx240_0, hx240_1, hx240_2, hx240_3, hx240_4⟩ := at_T73 HR0_2.out (ji53) p240 q240
                                  obtain rfl : ad237 = ad240 := (by injection e240)
                                  replace hx240_0 := (HB.out.cell (World.block_lt_of_cell? w _ hx240_0)).trans hx240_0
                                  replace hx240_1 := (HB.out.cell (World.block_lt_of_cell? w _ hx240_1)).trans hx240_1
                                  replace hx240_2 := (HB.out.cell (World.block_lt_of_cell? w _ hx240_2)).trans hx240_2
                                  replace hx240_3 := (HB.out.cell (World.block_lt_of_cell? w _ hx240_3)).trans hx240_3
                                  replace hx240_4 := (HB.out.cell (World.block_lt_of_cell? w _ hx240_4)).trans hx240_4
                                  replace p240 := eq_true p240
                                  replace q240 := eq_true q240
                                  go_wp2
                                  repeat (go_quiet (fail); try go_wp2)
                                  go_roundg kj13
                                  case measure => have := HJ1.out; have := HK2.out; have := HJ13.out; omega
                                  case rel => exact ⟨(wrap64 (x4_2 + 1)), (by first | rfl | (simp; done) | (simp [*]; done)), H', ⟨by have := HJ1.out; have := HK2.out; have := HJ13.out; omega⟩, ⟨by (with_reducible repeat (first | refine blk_drewN ?_ _ | refine blk_drew ?_ | refine blk_alloc ?_ _)); exact BK236.out⟩, ⟨by repeat (first | (with_reducible first | exact HB.out | apply below_alloc | apply pw_below_drewN | apply below_drew1 | refine below_set ?_ GE236.out | refine below_set ?_ GE238.out) | exact HB.out)⟩⟩
                                · rw [if_neg c56] at H
                                  have c56b0 : (Op.bytesLess (((rd_T73 l0_2 (ji53)).f0).toList) ((rd_T73 l0_2 x4_2).f0).toList) = false := by simpa using c56
                                  have hge := geq_str ((rd_T73 l0_2 (ji53)).f0) ((rd_T73 l0_2 x4_2).f0)
                                  rw [c56b0] at hge
                                  simp only [Bool.not_true, Bool.not_false] at hge
                                  clear c56
                                  obtain rfl := Option.some.inj H
                                  have hnb60 := NB238_236.out
                                  have hnc60 := NB236_238.out
                                  have hcz61_0 : wc.cell? ⟨gb238, 0, none⟩ = some (.string ((rd_T73 l0_2 x4_2).f0)) := (blk_cell BK238.out 0).trans rfl
                                  have hcz61_1 : wc.cell? ⟨gb238, 1, none⟩ = some (.int .i64 ((rd_T73 l0_2 x4_2).f1)) := (blk_cell BK238.out 1).trans rfl
                                  have hcz61_2 : wc.cell? ⟨gb238, 2, none⟩ = some (.int .i64 ((rd_T73 l0_2 x4_2).f2)) := (blk_cell BK238.out 2).trans rfl
                                  have hcz61_3 : wc.cell? ⟨gb238, 3, none⟩ = some (.int .i64 ((rd_T73 l0_2 x4_2).f3)) := (blk_cell BK238.out 3).trans rfl
                                  have hcz61_4 : wc.cell? ⟨gb238, 4, none⟩ = some (.bool ((rd_T73 l0_2 x4_2).f4)) := (blk_cell BK238.out 4).trans rfl
                                  have hfz61_0 := blk_frozen BK238.out 0
                                  have hfz61_1 := blk_frozen BK238.out 1
                                  have hfz61_2 := blk_frozen BK238.out 2
                                  have hfz61_3 := blk_frozen BK238.out 3
                                  have hfz61_4 := blk_frozen BK238.out 4
                                  have hcz62_0 : wc.cell? ⟨gb236, 0, none⟩ = some (.int .u64 a0_0) := (blk_cell BK236.out 0).trans rfl
                                  have hcz62_1 : wc.cell? ⟨gb236, 1, none⟩ = some (.int .i64 a0_1) := (blk_cell BK236.out 1).trans rfl
                                  have hcz62_2 : wc.cell? ⟨gb236, 2, none⟩ = some (.slice (some ad237) l0_2.length c0_2) := (blk_cell BK236.out 2).trans rfl
                                  have hfz62_0 := blk_frozen BK236.out 0
                                  have hfz62_1 := blk_frozen BK236.out 1
                                  have hfz62_2 := blk_frozen BK236.out 2
                                  have p240 : 0 ≤ ((ji53) : Int) := of_decide_eq_true (by first | (with_reducible assumption) | assumption)
                                  have q240 : (ji53) < (l0_2.length : Int) := of_decide_eq_true (by first | (with_reducible assumption) | assumption)
                                  obtain ⟨ad240, e240, hx240_0, hx240_1, hx240_2, hx240_3, hx240_4⟩ := at_T73 HR0_2.out (ji53) p240 q240
                                  obtain rfl : ad237 = ad240 := (by injection e240)
                                  replace hx240_0 := (HB.out.cell (World.block_lt_of_cell? w _ hx240_0)).trans hx240_0
                                  replace hx240_1 := (HB.out.cell (World.block_lt_of_cell? w _ hx240_1)).trans hx240_1
                                  replace hx240_2 := (HB.out.cell (World.block_lt_of_cell? w _ hx240_2)).trans hx240_2
                                  replace hx240_3 := (HB.out.cell (World.block_lt_of_cell? w _ hx240_3)).trans hx240_3
                                  replace hx240_4 := (HB.out.cell (World.block_lt_of_cell? w _ hx240_4)).trans hx240_4
                                  replace p240 := eq_true p240
                                  replace q240 := eq_true q240
                                  go_wp2
                                  repeat (go_quiet (fail); try go_wp2)
                                  go_ret
                                  exact ⟨by first | rfl | (simp [errW_none, errW_some] <;> rfl) | (simp only [← hji53]; first | rfl | (simp [errW_none, errW_some] <;> rfl)) | (simp [*, errW_none, errW_some] <;> rfl), by repeat (first | (with_reducible first | exact HB.out | apply below_alloc | apply pw_below_drewN | apply below_drew1 | refine below_set ?_ GE236.out | refine below_set ?_ GE238.out) | exact HB.out)⟩
                              · rw [if_neg c55] at H
                                exact absurd H (by simp)
                            · rw [if_neg c54] at H
                              exact absurd H (by simp)
                          · rw [if_neg c52] at H
                            have c52b0 : decide (0 < x4_2) = false := decide_eq_false c52
                            clear c52
                            have H' := Aside0.mk H
                            clear H
                            have hnb63 := NB238_236.out
                            have hnc63 := NB236_238.out
                            have hcz64_0 : wc.cell? ⟨gb238, 0, none⟩ = some (.string ((rd_T73 l0_2 x4_2).f0)) := (blk_cell BK238.out 0).trans rfl
                            have hcz64_1 : wc.cell? ⟨gb238, 1, none⟩ = some (.int .i64 ((rd_T73 l0_2 x4_2).f1)) := (blk_cell BK238.out 1).trans rfl
                            have hcz64_2 : wc.cell? ⟨gb238, 2, none⟩ = some (.int .i64 ((rd_T73 l0_2 x4_2).f2)) := (blk_cell BK238.out 2).trans rfl
                            have hcz64_3 : wc.cell? ⟨gb238, 3, none⟩ = some (.int .i64 ((rd_T73 l0_2 x4_2).f3)) := (blk_cell BK238.out 3).trans rfl
                            have hcz64_4 : wc.cell? ⟨gb238, 4, none⟩ = some (.bool ((rd_T73 l0_2 x4_2).f4)) := (blk_cell BK238.out 4).trans rfl
                            have hfz64_0 := blk_frozen BK238.out 0
                            have hfz64_1 := blk_frozen BK238.out 1
                            have hfz64_2 := blk_frozen BK238.out 2
                            have hfz64_3 := blk_frozen BK238.out 3
                            have hfz64_4 := blk_frozen BK238.out 4
                            go_wp2
                            repeat (go_quiet (fail); try go_wp2)
                            go_roundg kj13
                            case measure => have := HJ1.out; have := HK2.out; have := HJ13.out; omega
                            case rel => exact ⟨(wrap64 (x4_2 + 1)), (by first | rfl | (simp; done) | (simp [*]; done)), H', ⟨by have := HJ1.out; have := HK2.out; have := HJ13.out; omega⟩, ⟨by (with_reducible repeat (first | refine blk_drewN ?_ _ | refine blk_drew ?_ | refine blk_alloc ?_ _)); exact BK236.out⟩, ⟨by repeat (first | (with_reducible first | exact HB.out | apply below_alloc | apply pw_below_drewN | apply below_drew1 | refine below_set ?_ GE236.out | refine below_set ?_ GE238.out) | exact HB.out)⟩⟩
                · rw [if_neg c13] at H
                  exact absurd H (by simp)
              · rw [if_neg c12] at H
                exact absurd H (by simp)
            · rw [if_neg c11] at H
              have c11b0 : decide (x4_2 < (l0_2.length : Int)) = false := decide_eq_false c11
              clear c11
              obtain rfl := Option.some.inj H
              go_wp2
              repeat (go_quiet (fail); try go_wp2)
              go_ret
              exact ⟨by first | rfl | (simp [errW_none, errW_some] <;> rfl) | (simp [*, errW_none, errW_some] <;> rfl), by repeat (first | (with_reducible first | exact HB.out | apply below_alloc | apply pw_below_drewN | apply below_drew1 | refine below_set ?_ GE236.out) | exact HB.out)⟩

end Go.Proofs.YtpihpkphhkcdlaaGreatDoor.PR
