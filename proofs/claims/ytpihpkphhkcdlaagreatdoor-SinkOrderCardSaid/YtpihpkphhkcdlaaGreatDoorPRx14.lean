/- Written by a program of this session (wip/tools/myprint.py) out of the translation: plain Lean functions and their walks. -/
import Derived.Test.YtpihpkphhkcdlaaGreatDoorPRx0
import Derived.Test.YtpihpkphhkcdlaaGreatDoorPRx13
namespace Go.Proofs.YtpihpkphhkcdlaaGreatDoor.PR
open Go.RowKit Go.Proofs.YtpihpkphhkcdlaaGreatDoorW.PrintWords Go.Proofs.YtpihpkphhkcdlaaGreatDoorW.PrintLast Go.Proofs.YtpihpkphhkcdlaaGreatDoor.Ext Go.Proofs.YtpihpkphhkcdlaaGreatDoorW.PrintMore
attribute [local go_sem] max2_int min2_int max_two min_two max_three min_three max_four min_four   -- for this text's walks alone
set_option linter.unusedVariables false
set_option linter.unusedSimpArgs false

/-! ### odometerref20_record: function 67 -/
mutual
def odometerref20_record.j0 : Nat → List Int → Int → Int → Int → Bool → ByteArray → Int → Int → Int → Bool → Option (ByteArray × Int × Int × Int × Bool × Int × Int)
  | 0, _, _, _, _, _, _, _, _, _, _ => none
  | k + 1, x0, x1, x10, x11, x28, x275000, x275001, x275002, x275003, x275004 => if x28 = true then (odometerref20_record.j1 k x0 x1 x10 2 x275000 x275001 x275002 x275003 x275004) else (odometerref20_record.j1 k x0 x1 x10 x11 x275000 x275001 x275002 x275003 x275004)
def odometerref20_record.j1 : Nat → List Int → Int → Int → Int → ByteArray → Int → Int → Int → Bool → Option (ByteArray × Int × Int × Int × Bool × Int × Int)
  | 0, _, _, _, _, _, _, _, _, _ => none
  | k + 1, x0, x1, x10, x11, x275000, x275001, x275002, x275003, x275004 => if x11 = 0 then (odometerref20_record.j2 k x0 x1 x10 x11 (decide ((IntKind.u64.wrap (wrap64 ((x0.length : Int) - x1))) < x10)) x275000 x275001 x275002 x275003 x275004) else (odometerref20_record.j2 k x0 x1 x10 x11 false x275000 x275001 x275002 x275003 x275004)
def odometerref20_record.j2 : Nat → List Int → Int → Int → Int → Bool → ByteArray → Int → Int → Int → Bool → Option (ByteArray × Int × Int × Int × Bool × Int × Int)
  | 0, _, _, _, _, _, _, _, _, _, _ => none
  | k + 1, x0, x1, x10, x11, x39, x275000, x275001, x275002, x275003, x275004 => if x39 = true then (odometerref20_record.j3 k x0 x1 x10 11 x275000 x275001 x275002 x275003 x275004) else (odometerref20_record.j3 k x0 x1 x10 x11 x275000 x275001 x275002 x275003 x275004)
def odometerref20_record.j3 : Nat → List Int → Int → Int → Int → ByteArray → Int → Int → Int → Bool → Option (ByteArray × Int × Int × Int × Bool × Int × Int)
  | 0, _, _, _, _, _, _, _, _, _ => none
  | k + 1, x0, x1, x10, x11, x275000, x275001, x275002, x275003, x275004 => if x11 = 0 then (if 0 ≤ x1 then (if x1 ≤ (wrap64 (x1 + (wrap64 (x10)))) then (if (wrap64 (x1 + (wrap64 (x10)))) ≤ (x0.length : Int) then ((odometerref20_number.f k x0 (wrap64 (x1 + (wrap64 (x10))))).bind fun bt279 => (if bt279.2.2 = 0 then ((odometerref20_number.f k x0 bt279.2.1).bind fun bt282 => (if bt282.2.2 = 0 then (if bt282.2.1 = (x0.length : Int) then (some (strOfNums ((x0.take ((wrap64 (x1 + (wrap64 (x10)))) : Int).toNat).drop (x1 : Int).toNat), x275001, wrap64 (bt279.1), wrap64 (bt282.1), x275004, 0, 11)) else (if 0 ≤ bt282.2.1 then (if bt282.2.1 < (x0.length : Int) then (if (rd x0 bt282.2.1) > 1 then (some (strOfNums ((x0.take ((wrap64 (x1 + (wrap64 (x10)))) : Int).toNat).drop (x1 : Int).toNat), x275001, wrap64 (bt279.1), wrap64 (bt282.1), x275004, 0, 2)) else (some (strOfNums ((x0.take ((wrap64 (x1 + (wrap64 (x10)))) : Int).toNat).drop (x1 : Int).toNat), x275001, wrap64 (bt279.1), wrap64 (bt282.1), ((rd x0 bt282.2.1) == 1), wrap64 (bt282.2.1 + 1), 0))) else (none)) else (none))) else (some (strOfNums ((x0.take ((wrap64 (x1 + (wrap64 (x10)))) : Int).toNat).drop (x1 : Int).toNat), x275001, x275002, x275003, x275004, 0, bt282.2.2)))) else (some (strOfNums ((x0.take ((wrap64 (x1 + (wrap64 (x10)))) : Int).toNat).drop (x1 : Int).toNat), x275001, x275002, x275003, x275004, 0, bt279.2.2)))) else (none)) else (none)) else (none)) else (some (x275000, x275001, x275002, x275003, x275004, 0, x11))
end
def odometerref20_record.f (k : Nat) (l0 : List Int) (a1 : Int) (a2 : Int) : Option (ByteArray × Int × Int × Int × Bool × Int × Int) := (odometerref20_number.f k l0 a1).bind fun bt275 => (if bt275.2.2 = 0 then (odometerref20_record.j0 k l0 bt275.2.1 bt275.1 bt275.2.2 (decide (bt275.1 > 65536)) (⟨#[]⟩ : ByteArray) a2 0 0 false) else (odometerref20_record.j0 k l0 bt275.2.1 bt275.1 bt275.2.2 false (⟨#[]⟩ : ByteArray) a2 0 0 false))
theorem odometerref20_record.mono_l : ∀ k, (∀ y0 y1 y2 y3 y4 y5 y6 y7 y8 y9, LeO (odometerref20_record.j0 k y0 y1 y2 y3 y4 y5 y6 y7 y8 y9) (odometerref20_record.j0 (k + 1) y0 y1 y2 y3 y4 y5 y6 y7 y8 y9)) ∧ (∀ y0 y1 y2 y3 y4 y5 y6 y7 y8, LeO (odometerref20_record.j1 k y0 y1 y2 y3 y4 y5 y6 y7 y8) (odometerref20_record.j1 (k + 1) y0 y1 y2 y3 y4 y5 y6 y7 y8)) ∧ (∀ y0 y1 y2 y3 y4 y5 y6 y7 y8 y9, LeO (odometerref20_record.j2 k y0 y1 y2 y3 y4 y5 y6 y7 y8 y9) (odometerref20_record.j2 (k + 1) y0 y1 y2 y3 y4 y5 y6 y7 y8 y9)) ∧ (∀ y0 y1 y2 y3 y4 y5 y6 y7 y8, LeO (odometerref20_record.j3 k y0 y1 y2 y3 y4 y5 y6 y7 y8) (odometerref20_record.j3 (k + 1) y0 y1 y2 y3 y4 y5 y6 y7 y8))
  | 0 => ⟨fun _ _ _ _ _ _ _ _ _ _ r h => by simp [odometerref20_record.j0] at h, fun _ _ _ _ _ _ _ _ _ r h => by simp [odometerref20_record.j1] at h, fun _ _ _ _ _ _ _ _ _ _ r h => by simp [odometerref20_record.j2] at h, fun _ _ _ _ _ _ _ _ _ r h => by simp [odometerref20_record.j3] at h⟩
  | k + 1 => by
    obtain ⟨ih0, ih1, ih2, ih3⟩ := odometerref20_record.mono_l k
    refine ⟨?_, ?_, ?_, ?_⟩
    · intro y0 y1 y2 y3 y4 y5 y6 y7 y8 y9
      unfold odometerref20_record.j0
      repeat' first
      | (with_reducible exact ih0 _ _ _ _ _ _ _ _ _ _)
      | (with_reducible exact ih1 _ _ _ _ _ _ _ _ _)
      | (with_reducible exact ih2 _ _ _ _ _ _ _ _ _ _)
      | (with_reducible exact ih3 _ _ _ _ _ _ _ _ _)
      | (with_reducible exact odometerref20_number.mono _ _ _)
      | (with_reducible exact LeO.refl _)
      | (with_reducible exact LeO.none _)
      | (with_reducible refine LeO.ite ?_ ?_)
      | (with_reducible refine LeO.bind ?_ (fun _ => ?_))
      | exact ih0 _ _ _ _ _ _ _ _ _ _
      | exact ih1 _ _ _ _ _ _ _ _ _
      | exact ih2 _ _ _ _ _ _ _ _ _ _
      | exact ih3 _ _ _ _ _ _ _ _ _
      | exact odometerref20_number.mono _ _ _
      | exact LeO.none _
      | refine LeO.ite ?_ ?_
      | refine LeO.bind ?_ (fun _ => ?_)
    · intro y0 y1 y2 y3 y4 y5 y6 y7 y8
      unfold odometerref20_record.j1
      repeat' first
      | (with_reducible exact ih0 _ _ _ _ _ _ _ _ _ _)
      | (with_reducible exact ih1 _ _ _ _ _ _ _ _ _)
      | (with_reducible exact ih2 _ _ _ _ _ _ _ _ _ _)
      | (with_reducible exact ih3 _ _ _ _ _ _ _ _ _)
      | (with_reducible exact odometerref20_number.mono _ _ _)
      | (with_reducible exact LeO.refl _)
      | (with_reducible exact LeO.none _)
      | (with_reducible refine LeO.ite ?_ ?_)
      | (with_reducible refine LeO.bind ?_ (fun _ => ?_))
      | exact ih0 _ _ _ _ _ _ _ _ _ _
      | exact ih1 _ _ _ _ _ _ _ _ _
      | exact ih2 _ _ _ _ _ _ _ _ _ _
      | exact ih3 _ _ _ _ _ _ _ _ _
      | exact odometerref20_number.mono _ _ _
      | exact LeO.none _
      | refine LeO.ite ?_ ?_
      | refine LeO.bind ?_ (fun _ => ?_)
    · intro y0 y1 y2 y3 y4 y5 y6 y7 y8 y9
      unfold odometerref20_record.j2
      repeat' first
      | (with_reducible exact ih0 _ _ _ _ _ _ _ _ _ _)
      | (with_reducible exact ih1 _ _ _ _ _ _ _ _ _)
      | (with_reducible exact ih2 _ _ _ _ _ _ _ _ _ _)
      | (with_reducible exact ih3 _ _ _ _ _ _ _ _ _)
      | (with_reducible exact odometerref20_number.mono _ _ _)
      | (with_reducible exact LeO.refl _)
      | (with_reducible exact LeO.none _)
      | (with_reducible refine LeO.ite ?_ ?_)
      | (with_reducible refine LeO.bind ?_ (fun _ => ?_))
      | exact ih0 _ _ _ _ _ _ _ _ _ _
      | exact ih1 _ _ _ _ _ _ _ _ _
      | exact ih2 _ _ _ _ _ _ _ _ _ _
      | exact ih3 _ _ _ _ _ _ _ _ _
      | exact odometerref20_number.mono _ _ _
      | exact LeO.none _
      | refine LeO.ite ?_ ?_
      | refine LeO.bind ?_ (fun _ => ?_)
    · intro y0 y1 y2 y3 y4 y5 y6 y7 y8
      unfold odometerref20_record.j3
      repeat' first
      | (with_reducible exact ih0 _ _ _ _ _ _ _ _ _ _)
      | (with_reducible exact ih1 _ _ _ _ _ _ _ _ _)
      | (with_reducible exact ih2 _ _ _ _ _ _ _ _ _ _)
      | (with_reducible exact ih3 _ _ _ _ _ _ _ _ _)
      | (with_reducible exact odometerref20_number.mono _ _ _)
      | (with_reducible exact LeO.refl _)
      | (with_reducible exact LeO.none _)
      | (with_reducible refine LeO.ite ?_ ?_)
      | (with_reducible refine LeO.bind ?_ (fun _ => ?_))
      | exact ih0 _ _ _ _ _ _ _ _ _ _
      | exact ih1 _ _ _ _ _ _ _ _ _
      | exact ih2 _ _ _ _ _ _ _ _ _ _
      | exact ih3 _ _ _ _ _ _ _ _ _
      | exact odometerref20_number.mono _ _ _
      | exact LeO.none _
      | refine LeO.ite ?_ ?_
      | refine LeO.bind ?_ (fun _ => ?_)
theorem odometerref20_record.mono : ∀ a0 a1 a2 k, LeO (odometerref20_record.f k a0 a1 a2) (odometerref20_record.f (k + 1) a0 a1 a2) := by
  intro a0 a1 a2 k
  obtain ⟨ih0, ih1, ih2, ih3⟩ := odometerref20_record.mono_l k
  unfold odometerref20_record.f
  repeat' first
      | (with_reducible exact ih0 _ _ _ _ _ _ _ _ _ _)
      | (with_reducible exact ih1 _ _ _ _ _ _ _ _ _)
      | (with_reducible exact ih2 _ _ _ _ _ _ _ _ _ _)
      | (with_reducible exact ih3 _ _ _ _ _ _ _ _ _)
      | (with_reducible exact odometerref20_number.mono _ _ _)
      | (with_reducible exact LeO.refl _)
      | (with_reducible exact LeO.none _)
      | (with_reducible refine LeO.ite ?_ ?_)
      | (with_reducible refine LeO.bind ?_ (fun _ => ?_))
      | exact ih0 _ _ _ _ _ _ _ _ _ _
      | exact ih1 _ _ _ _ _ _ _ _ _
      | exact ih2 _ _ _ _ _ _ _ _ _ _
      | exact ih3 _ _ _ _ _ _ _ _ _
      | exact odometerref20_number.mono _ _ _
      | exact LeO.none _
      | refine LeO.ite ?_ ?_
      | refine LeO.bind ?_ (fun _ => ?_)
theorem blk_other {w : World} {g g2 : Nat} {o : Obj} (h : w.heap[g]? = some o) (hne : g ≠ g2) (i : Nat) (v : Value) : (w.setCell ⟨g2, i, none⟩ v).heap[g]? = some o := (Below.heap_setCell w ⟨g2, i, none⟩ v g hne).trans h
set_option maxHeartbeats 8000000 in
set_option maxRecDepth 100000 in
theorem odometerref20_record.calls (k : Nat) (A0 : Option Addr) (c0 : Nat) (l0 : List Int) (a1 : Int) (a2 : Int) (r1 : ByteArray) (r2 : Int) (r3 : Int) (r4 : Int) (r5 : Bool) (r6 : Int) (r7 : Int) (w : World) (hr0 : Kd.C (Kd.int .u8) w A0 l0.length l0) (hc0 : l0.length ≤ c0) (h : odometerref20_record.f k l0 a1 a2 = some (r1, r2, r3, r4, r5, r6, r7)) :
    Calls Tryz.prog 67 #[.slice A0 l0.length c0, .int .i64 a1, .int .i64 a2] w fun e w' => e = .returned (.tuple #[.agg #[.string r1, .int .i64 r2, .int .i64 r3, .int .i64 r4, .bool r5], .int .i64 r6, .int .i64 r7]) ∧ Below w.heap.size w w' := by
  have hu73 := Tryz.underlying73
  have HR0 := Aside0.mk hr0
  have HC0 := Aside0.mk hc0
  clear hr0 hc0
  have HB := Aside0.mk (Below.refl w.heap.size w)
  have H : ((odometerref20_number.f k l0 a1).bind fun bt275 => (if bt275.2.2 = 0 then (odometerref20_record.j0 k l0 bt275.2.1 bt275.1 bt275.2.2 (decide (bt275.1 > 65536)) (⟨#[]⟩ : ByteArray) a2 0 0 false) else (odometerref20_record.j0 k l0 bt275.2.1 bt275.1 bt275.2.2 false (⟨#[]⟩ : ByteArray) a2 0 0 false))) = some (r1, r2, r3, r4, r5, r6, r7) := h
  clear h
  replace H := Option.bind_eq_some_iff.mp H
  obtain ⟨⟨t275, t276, t277⟩, A40, H⟩ := H
  replace H : (if t277 = 0 then (odometerref20_record.j0 k l0 t276 t275 t277 (decide (t275 > 65536)) (⟨#[]⟩ : ByteArray) a2 0 0 false) else (odometerref20_record.j0 k l0 t276 t275 t277 false (⟨#[]⟩ : ByteArray) a2 0 0 false)) = some (r1, r2, r3, r4, r5, r6, r7) := H
  have A4 := Aside0.mk A40
  clear A40
  have HC5 := Aside0.mk H
  clear H
  go_enter Tryz.func67, Tryz.ntmps67
  go_upto_region 3 with (first | ((with_reducible refine gate_dst (N := 6) rfl ?_); (try (refine gate_guard (by rfl) ?_; dsimp only)); refine box_event ?hg (N := 6) ?hd (cs := #[.string (⟨#[]⟩ : ByteArray), .int .i64 0, .int .i64 0, .int .i64 0, .bool false]) (t := 73) ?hr ?_; (case hd => rfl); (case hg => rfl); (case hr => first | (go_simp; done) | (go_simp; rfl)); intro gb273 hg w6 hbox hb; have n0_ := Aside0.mk (below_step (by repeat (first | (with_reducible first | exact HB.out | apply below_alloc | apply pw_below_drewN | apply below_drew1) | exact HB.out)) hb); have n1_ := Aside0.mk (hbox); have n2_ := Aside0.mk ((by rw [hg]; exact (below_size (by repeat (first | (with_reducible first | exact HB.out | apply below_alloc | apply pw_below_drewN | apply below_drew1) | exact HB.out))) : w.heap.size ≤ gb273)); have n3_ := Aside0.mk ((by rw [hg]; exact (below_size (by repeat (first | (with_reducible first | exact HB.out | apply below_alloc | apply pw_below_drewN | apply below_drew1) | exact HB.out))) : w.heap.size ≤ gb273)); clear HB; have HB := n0_; have BK273 := n1_; have GW273 := n2_; have GE273 := n3_; clear n0_ n1_ n2_ n3_; clear hb hbox hg) | ((with_reducible refine gate_dst (N := 9) rfl ?_); (try (refine gate_guard (by rfl) ?_; dsimp only)); refine box_event ?hg (N := 9) ?hd (cs := #[.string (⟨#[]⟩ : ByteArray), .int .i64 0, .int .i64 0, .int .i64 0, .bool false]) (t := 73) ?hr ?_; (case hd => rfl); (case hg => rfl); (case hr => first | (go_simp; done) | (go_simp; rfl)); intro gb274 hg w7 hbox hb; have n0_ := Aside0.mk (blk_below (g := gb273) (o := .cells #[.string (⟨#[]⟩ : ByteArray), .int .i64 0, .int .i64 0, .int .i64 0, .bool false] 73 (0, 0)) (by (with_reducible repeat (first | refine blk_drewN ?_ _ | refine blk_drew ?_ | refine blk_alloc ?_ _)); exact BK273.out) hb); have n1_ := Aside0.mk (below_step (by repeat (first | (with_reducible first | exact HB.out | apply below_alloc | apply pw_below_drewN | apply below_drew1 | refine below_set ?_ GE273.out) | exact HB.out)) hb); have n2_ := Aside0.mk (hbox); have n3_ := Aside0.mk ((by rw [hg]; exact (below_size (by repeat (first | (with_reducible first | exact HB.out | apply below_alloc | apply pw_below_drewN | apply below_drew1 | refine below_set ?_ GE273.out) | exact HB.out))) : w.heap.size ≤ gb274)); have n4_ := Aside0.mk ((by rw [hg]; exact (below_size (by repeat (first | (with_reducible first | exact HB.out | apply below_alloc | apply pw_below_drewN | apply below_drew1 | refine below_set ?_ GE273.out) | exact HB.out))) : w.heap.size ≤ gb274)); have n5_ := Aside0.mk ((by rw [hg]; exact Nat.ne_of_lt (blk_lt (g := gb273) (o := .cells #[.string (⟨#[]⟩ : ByteArray), .int .i64 0, .int .i64 0, .int .i64 0, .bool false] 73 (0, 0)) (by (with_reducible repeat (first | refine blk_drewN ?_ _ | refine blk_drew ?_ | refine blk_alloc ?_ _)); exact BK273.out)) : gb273 ≠ gb274)); have n6_ := Aside0.mk ((by rw [hg]; exact Nat.ne_of_gt (blk_lt (g := gb273) (o := .cells #[.string (⟨#[]⟩ : ByteArray), .int .i64 0, .int .i64 0, .int .i64 0, .bool false] 73 (0, 0)) (by (with_reducible repeat (first | refine blk_drewN ?_ _ | refine blk_drew ?_ | refine blk_alloc ?_ _)); exact BK273.out)) : gb274 ≠ gb273)); clear BK273; clear HB; have BK273 := n0_; have HB := n1_; have BK274 := n2_; have GW274 := n3_; have GE274 := n4_; have NB273_274 := n5_; have NB274_273 := n6_; clear n0_ n1_ n2_ n3_ n4_ n5_ n6_; clear hb hbox hg; have hnb8 := NB274_273.out; have hnc8 := NB273_274.out; have hcz9_0 : w7.cell? ⟨gb274, 0, none⟩ = some (.string (⟨#[]⟩ : ByteArray)) := (blk_cell BK274.out 0).trans rfl; have hcz9_1 : w7.cell? ⟨gb274, 1, none⟩ = some (.int .i64 0) := (blk_cell BK274.out 1).trans rfl; have hcz9_2 : w7.cell? ⟨gb274, 2, none⟩ = some (.int .i64 0) := (blk_cell BK274.out 2).trans rfl; have hcz9_3 : w7.cell? ⟨gb274, 3, none⟩ = some (.int .i64 0) := (blk_cell BK274.out 3).trans rfl; have hcz9_4 : w7.cell? ⟨gb274, 4, none⟩ = some (.bool false) := (blk_cell BK274.out 4).trans rfl; have hfz9_0 := blk_frozen BK274.out 0; have hfz9_1 := blk_frozen BK274.out 1; have hfz9_2 := blk_frozen BK274.out 2; have hfz9_3 := blk_frozen BK274.out 3; have hfz9_4 := blk_frozen BK274.out 4) | ((with_reducible refine gate_callee (f := 66) rfl ?_); refine goesL_ (some 19) rfl rfl Tryz.func66 (by kernel_rfl) rfl #[.slice A0 l0.length c0, .int .i64 a1] rfl (by (try simp only [List.map_toArray, List.map_cons, List.map_nil]); first | done | rfl | (simp only [List.length_drop, List.length_take]; rfl)) ?_; (with_reducible refine (odometerref20_number.calls k _ _ l0 a1 t275 t276 t277 _ ?side1 ?side2 A4.out).mono ?_); (case side1 => exact Kd.C_below HR0.out (by repeat (first | (with_reducible first | exact HB.out | apply below_alloc | apply pw_below_drewN | apply below_drew1 | refine below_set ?_ GE273.out | refine below_set ?_ GE274.out) | exact HB.out))); (case side2 => exact HC0.out); rintro e w' ⟨rfl, ⟨nd, rfl⟩⟩; refine ⟨_, rfl, ?_⟩))
  (try simp only [Act.put, List.setIfInBounds_toArray, List.set_cons_zero, List.set_cons_succ])
  go_cut [28] (fun v28 wc => ∃ (kq : Nat) (x28_4 : Bool), v28 = .bool x28_4 ∧ Aside0 (odometerref20_record.j0 kq l0 t276 t275 t277 x28_4 (⟨#[]⟩ : ByteArray) a2 0 0 false = some (r1, r2, r3, r4, r5, r6, r7)) ∧ Aside0 (kq ≤ k) ∧ Aside0 (wc.heap[gb273]? = some (.cells #[.string (⟨#[]⟩ : ByteArray), .int .i64 0, .int .i64 0, .int .i64 0, .bool false] 73 (0, 0))) ∧ Aside0 (wc.heap[gb274]? = some (.cells #[.string (⟨#[]⟩ : ByteArray), .int .i64 a2, .int .i64 0, .int .i64 0, .bool false] 73 (0, 0))) ∧ Aside0 (Below w.heap.size w wc))
  case first =>
    have H := HC5.out
    clear HC5
    by_cases c10 : t277 = 0
    · rw [if_pos c10] at H
      have c10b0 : (t277 == 0) = true := beq_iff_eq.mpr c10
      have c10b1 : (t277 != 0) = false := bne_eq_false_iff_eq.mpr c10
      clear c10
      (first | rw [c10b0] | (simp only [i64_w, i32_w]; rw [c10b0]) | skip)
      have H' := Aside0.mk H
      clear H
      go_wp2
      first | go_meet | (subst_vars; go_meet)
      case rel => exact ⟨_, (decide (t275 > 65536)), (by first | rfl | (simp; done) | (simp [*]; done)), H', ⟨by first | omega | exact Nat.le_refl _⟩, ⟨by (with_reducible repeat (first | refine blk_drewN ?_ _ | refine blk_drew ?_ | refine blk_alloc ?_ _)); refine blk_far ?_ NB273_274.out _; (with_reducible repeat (first | refine blk_drewN ?_ _ | refine blk_drew ?_ | refine blk_alloc ?_ _)); refine blk_far ?_ NB273_274.out _; (with_reducible repeat (first | refine blk_drewN ?_ _ | refine blk_drew ?_ | refine blk_alloc ?_ _)); refine blk_far ?_ NB273_274.out _; (with_reducible repeat (first | refine blk_drewN ?_ _ | refine blk_drew ?_ | refine blk_alloc ?_ _)); refine blk_far ?_ NB273_274.out _; (with_reducible repeat (first | refine blk_drewN ?_ _ | refine blk_drew ?_ | refine blk_alloc ?_ _)); refine blk_far ?_ NB273_274.out _; (with_reducible repeat (first | refine blk_drewN ?_ _ | refine blk_drew ?_ | refine blk_alloc ?_ _)); exact BK273.out⟩, ⟨by (with_reducible repeat (first | refine blk_drewN ?_ _ | refine blk_drew ?_ | refine blk_alloc ?_ _)); refine blk_put (cs := #[.string (⟨#[]⟩ : ByteArray), .int .i64 a2, .int .i64 0, .int .i64 0, .bool false]) ?_ 4 _ rfl; (with_reducible repeat (first | refine blk_drewN ?_ _ | refine blk_drew ?_ | refine blk_alloc ?_ _)); refine blk_put (cs := #[.string (⟨#[]⟩ : ByteArray), .int .i64 a2, .int .i64 0, .int .i64 0, .bool false]) ?_ 3 _ rfl; (with_reducible repeat (first | refine blk_drewN ?_ _ | refine blk_drew ?_ | refine blk_alloc ?_ _)); refine blk_put (cs := #[.string (⟨#[]⟩ : ByteArray), .int .i64 a2, .int .i64 0, .int .i64 0, .bool false]) ?_ 2 _ rfl; (with_reducible repeat (first | refine blk_drewN ?_ _ | refine blk_drew ?_ | refine blk_alloc ?_ _)); refine blk_put (cs := #[.string (⟨#[]⟩ : ByteArray), .int .i64 0, .int .i64 0, .int .i64 0, .bool false]) ?_ 1 _ rfl; (with_reducible repeat (first | refine blk_drewN ?_ _ | refine blk_drew ?_ | refine blk_alloc ?_ _)); refine blk_put (cs := #[.string (⟨#[]⟩ : ByteArray), .int .i64 0, .int .i64 0, .int .i64 0, .bool false]) ?_ 0 _ rfl; (with_reducible repeat (first | refine blk_drewN ?_ _ | refine blk_drew ?_ | refine blk_alloc ?_ _)); exact BK274.out⟩, ⟨by repeat (first | (with_reducible first | exact HB.out | apply below_alloc | apply pw_below_drewN | apply below_drew1 | refine below_set ?_ GE273.out | refine below_set ?_ GE274.out) | exact HB.out)⟩⟩
    · rw [if_neg c10] at H
      have c10b0 : (t277 == 0) = false := beq_eq_false_iff_ne.mpr c10
      have c10b1 : (t277 != 0) = true := bne_iff_ne.mpr c10
      (first | rw [c10b0] | (simp only [i64_w, i32_w]; rw [c10b0]) | skip)
      have H' := Aside0.mk H
      clear H
      go_wp2
      first | go_meet | (subst_vars; go_meet)
      case rel => exact ⟨_, (false), (by first | rfl | (simp; done) | (simp [*]; done)), H', ⟨by first | omega | exact Nat.le_refl _⟩, ⟨by (with_reducible repeat (first | refine blk_drewN ?_ _ | refine blk_drew ?_ | refine blk_alloc ?_ _)); refine blk_far ?_ NB273_274.out _; (with_reducible repeat (first | refine blk_drewN ?_ _ | refine blk_drew ?_ | refine blk_alloc ?_ _)); refine blk_far ?_ NB273_274.out _; (with_reducible repeat (first | refine blk_drewN ?_ _ | refine blk_drew ?_ | refine blk_alloc ?_ _)); refine blk_far ?_ NB273_274.out _; (with_reducible repeat (first | refine blk_drewN ?_ _ | refine blk_drew ?_ | refine blk_alloc ?_ _)); refine blk_far ?_ NB273_274.out _; (with_reducible repeat (first | refine blk_drewN ?_ _ | refine blk_drew ?_ | refine blk_alloc ?_ _)); refine blk_far ?_ NB273_274.out _; (with_reducible repeat (first | refine blk_drewN ?_ _ | refine blk_drew ?_ | refine blk_alloc ?_ _)); exact BK273.out⟩, ⟨by (with_reducible repeat (first | refine blk_drewN ?_ _ | refine blk_drew ?_ | refine blk_alloc ?_ _)); refine blk_put (cs := #[.string (⟨#[]⟩ : ByteArray), .int .i64 a2, .int .i64 0, .int .i64 0, .bool false]) ?_ 4 _ rfl; (with_reducible repeat (first | refine blk_drewN ?_ _ | refine blk_drew ?_ | refine blk_alloc ?_ _)); refine blk_put (cs := #[.string (⟨#[]⟩ : ByteArray), .int .i64 a2, .int .i64 0, .int .i64 0, .bool false]) ?_ 3 _ rfl; (with_reducible repeat (first | refine blk_drewN ?_ _ | refine blk_drew ?_ | refine blk_alloc ?_ _)); refine blk_put (cs := #[.string (⟨#[]⟩ : ByteArray), .int .i64 a2, .int .i64 0, .int .i64 0, .bool false]) ?_ 2 _ rfl; (with_reducible repeat (first | refine blk_drewN ?_ _ | refine blk_drew ?_ | refine blk_alloc ?_ _)); refine blk_put (cs := #[.string (⟨#[]⟩ : ByteArray), .int .i64 0, .int .i64 0, .int .i64 0, .bool false]) ?_ 1 _ rfl; (with_reducible repeat (first | refine blk_drewN ?_ _ | refine blk_drew ?_ | refine blk_alloc ?_ _)); refine blk_put (cs := #[.string (⟨#[]⟩ : ByteArray), .int .i64 0, .int .i64 0, .int .i64 0, .bool false]) ?_ 0 _ rfl; (with_reducible repeat (first | refine blk_drewN ?_ _ | refine blk_drew ?_ | refine blk_alloc ?_ _)); exact BK274.out⟩, ⟨by repeat (first | (with_reducible first | exact HB.out | apply below_alloc | apply pw_below_drewN | apply below_drew1 | refine below_set ?_ GE273.out | refine below_set ?_ GE274.out) | exact HB.out)⟩⟩
  case rest =>
    clear HC5
    try clear c1
    try clear p2
    try clear c6
    try clear c8
    try clear c10
    try clear c10b0
    try clear c10b1
    try clear hcz9_0
    try clear hcz9_1
    try clear hcz9_2
    try clear hcz9_3
    try clear hcz9_4
    try clear hfz9_0
    try clear hfz9_1
    try clear hfz9_2
    try clear hfz9_3
    try clear hfz9_4
    obtain ⟨kq, x28_4, rfl, HA, HJ4, BK273, BK274, HB⟩ := hcut
    cases kq with
    | zero => exact absurd HA.out (by simp [odometerref20_record.j0])
    | succ kj4 =>
      have H := HA.out
      clear HA
      simp only [odometerref20_record.j0] at H
      have HC11 := Aside0.mk H
      clear H
      go_upto_if 28 with (fail)
      go_cut [11] (fun v11 wc => ∃ (kq : Nat) (x11_10 : Int), v11 = .int .i64 x11_10 ∧ Aside0 (odometerref20_record.j1 kq l0 t276 t275 x11_10 (⟨#[]⟩ : ByteArray) a2 0 0 false = some (r1, r2, r3, r4, r5, r6, r7)) ∧ Aside0 (kq ≤ kj4) ∧ Aside0 (wc.heap[gb273]? = some (.cells #[.string (⟨#[]⟩ : ByteArray), .int .i64 0, .int .i64 0, .int .i64 0, .bool false] 73 (0, 0))) ∧ Aside0 (wc.heap[gb274]? = some (.cells #[.string (⟨#[]⟩ : ByteArray), .int .i64 a2, .int .i64 0, .int .i64 0, .bool false] 73 (0, 0))) ∧ Aside0 (Below w.heap.size w wc))
      case first =>
        have H := HC11.out
        clear HC11
        by_cases c12 : x28_4 = true
        · subst c12
          have H1 : (odometerref20_record.j1 kj4 l0 t276 t275 2 (⟨#[]⟩ : ByteArray) a2 0 0 false) = some (r1, r2, r3, r4, r5, r6, r7) := by rw [if_pos rfl] at H; exact H
          clear H
          have H := H1
          clear H1
          have H' := Aside0.mk H
          clear H
          go_wp2
          first | go_meet | (subst_vars; go_meet)
          case rel => exact ⟨_, (2), (by first | rfl | (simp; done) | (simp [*]; done)), H', ⟨by have := HJ4.out; first | omega | exact Nat.le_refl _⟩, ⟨by (with_reducible repeat (first | refine blk_drewN ?_ _ | refine blk_drew ?_ | refine blk_alloc ?_ _)); exact BK273.out⟩, ⟨by (with_reducible repeat (first | refine blk_drewN ?_ _ | refine blk_drew ?_ | refine blk_alloc ?_ _)); exact BK274.out⟩, ⟨by repeat (first | (with_reducible first | exact HB.out | apply below_alloc | apply pw_below_drewN | apply below_drew1 | refine below_set ?_ GE273.out | refine below_set ?_ GE274.out) | exact HB.out)⟩⟩
        · replace c12 := Bool.eq_false_iff.mpr c12
          subst c12
          have H1 : (odometerref20_record.j1 kj4 l0 t276 t275 t277 (⟨#[]⟩ : ByteArray) a2 0 0 false) = some (r1, r2, r3, r4, r5, r6, r7) := by rw [if_neg (show ¬ (false = true) by decide)] at H; exact H
          clear H
          have H := H1
          clear H1
          have H' := Aside0.mk H
          clear H
          go_wp2
          first | go_meet | (subst_vars; go_meet)
          case rel => exact ⟨_, (t277), (by first | rfl | (simp; done) | (simp [*]; done)), H', ⟨by have := HJ4.out; first | omega | exact Nat.le_refl _⟩, ⟨by (with_reducible repeat (first | refine blk_drewN ?_ _ | refine blk_drew ?_ | refine blk_alloc ?_ _)); exact BK273.out⟩, ⟨by (with_reducible repeat (first | refine blk_drewN ?_ _ | refine blk_drew ?_ | refine blk_alloc ?_ _)); exact BK274.out⟩, ⟨by repeat (first | (with_reducible first | exact HB.out | apply below_alloc | apply pw_below_drewN | apply below_drew1 | refine below_set ?_ GE273.out | refine below_set ?_ GE274.out) | exact HB.out)⟩⟩
      case rest =>
        clear HC11
        try clear c1
        try clear p2
        try clear c6
        try clear c8
        try clear c10
        try clear c10b0
        try clear c10b1
        try clear c12
        try clear hcz9_0
        try clear hcz9_1
        try clear hcz9_2
        try clear hcz9_3
        try clear hcz9_4
        try clear hfz9_0
        try clear hfz9_1
        try clear hfz9_2
        try clear hfz9_3
        try clear hfz9_4
        try clear p2
        obtain ⟨kq, x11_10, rfl, HA, HJ10, BK273, BK274, HB⟩ := hcut
        cases kq with
        | zero => exact absurd HA.out (by simp [odometerref20_record.j1])
        | succ kj10 =>
          have H := HA.out
          clear HA
          simp only [odometerref20_record.j1] at H
          have HC13 := Aside0.mk H
          clear H
          go_upto_region 5 with (fail)
          go_cut [39] (fun v39 wc => ∃ (kq : Nat) (x39_12 : Bool), v39 = .bool x39_12 ∧ Aside0 (odometerref20_record.j2 kq l0 t276 t275 x11_10 x39_12 (⟨#[]⟩ : ByteArray) a2 0 0 false = some (r1, r2, r3, r4, r5, r6, r7)) ∧ Aside0 (kq ≤ kj10) ∧ Aside0 (wc.heap[gb273]? = some (.cells #[.string (⟨#[]⟩ : ByteArray), .int .i64 0, .int .i64 0, .int .i64 0, .bool false] 73 (0, 0))) ∧ Aside0 (wc.heap[gb274]? = some (.cells #[.string (⟨#[]⟩ : ByteArray), .int .i64 a2, .int .i64 0, .int .i64 0, .bool false] 73 (0, 0))) ∧ Aside0 (Below w.heap.size w wc))
          case first =>
            have H := HC13.out
            clear HC13
            by_cases c14 : x11_10 = 0
            · rw [if_pos c14] at H
              have c14b0 : (x11_10 == 0) = true := beq_iff_eq.mpr c14
              have c14b1 : (x11_10 != 0) = false := bne_eq_false_iff_eq.mpr c14
              clear c14
              (first | rw [c14b0] | (simp only [i64_w, i32_w]; rw [c14b0]) | skip)
              have H' := Aside0.mk H
              clear H
              go_wp2
              first | go_meet | (subst_vars; go_meet)
              case rel => exact ⟨_, (decide ((IntKind.u64.wrap (wrap64 ((l0.length : Int) - t276))) < t275)), (by first | rfl | (simp; done) | (simp [*]; done)), H', ⟨by have := HJ4.out; have := HJ10.out; first | omega | exact Nat.le_refl _⟩, ⟨by (with_reducible repeat (first | refine blk_drewN ?_ _ | refine blk_drew ?_ | refine blk_alloc ?_ _)); exact BK273.out⟩, ⟨by (with_reducible repeat (first | refine blk_drewN ?_ _ | refine blk_drew ?_ | refine blk_alloc ?_ _)); exact BK274.out⟩, ⟨by repeat (first | (with_reducible first | exact HB.out | apply below_alloc | apply pw_below_drewN | apply below_drew1 | refine below_set ?_ GE273.out | refine below_set ?_ GE274.out) | exact HB.out)⟩⟩
            · rw [if_neg c14] at H
              have c14b0 : (x11_10 == 0) = false := beq_eq_false_iff_ne.mpr c14
              have c14b1 : (x11_10 != 0) = true := bne_iff_ne.mpr c14
              (first | rw [c14b0] | (simp only [i64_w, i32_w]; rw [c14b0]) | skip)
              have H' := Aside0.mk H
              clear H
              go_wp2
              first | go_meet | (subst_vars; go_meet)
              case rel => exact ⟨_, (false), (by first | rfl | (simp; done) | (simp [*]; done)), H', ⟨by have := HJ4.out; have := HJ10.out; first | omega | exact Nat.le_refl _⟩, ⟨by (with_reducible repeat (first | refine blk_drewN ?_ _ | refine blk_drew ?_ | refine blk_alloc ?_ _)); exact BK273.out⟩, ⟨by (with_reducible repeat (first | refine blk_drewN ?_ _ | refine blk_drew ?_ | refine blk_alloc ?_ _)); exact BK274.out⟩, ⟨by repeat (first | (with_reducible first | exact HB.out | apply below_alloc | apply pw_below_drewN | apply below_drew1 | refine below_set ?_ GE273.out | refine below_set ?_ GE274.out) | exact HB.out)⟩⟩
          case rest =>
            clear HC13
            try clear c1
            try clear p2
            try clear c6
            try clear p6
            try clear c8
            try clear c10
            try clear c10b0
            try clear c10b1
            try clear c12
            try clear c14
            try clear c14b0
            try clear c14b1
            try clear hcz9_0
            try clear hcz9_1
            try clear hcz9_2
            try clear hcz9_3
            try clear hcz9_4
            try clear hfz9_0
            try clear hfz9_1
            try clear hfz9_2
            try clear hfz9_3
            try clear hfz9_4
            try clear p2
            obtain ⟨kq, x39_12, rfl, HA, HJ12, BK273, BK274, HB⟩ := hcut
            cases kq with
            | zero => exact absurd HA.out (by simp [odometerref20_record.j2])
            | succ kj12 =>
              have H := HA.out
              clear HA
              simp only [odometerref20_record.j2] at H
              have HC15 := Aside0.mk H
              clear H
              go_upto_if 39 with (fail)
              go_cut [11] (fun v11 wc => ∃ (kq : Nat) (x11_14 : Int), v11 = .int .i64 x11_14 ∧ Aside0 (odometerref20_record.j3 kq l0 t276 t275 x11_14 (⟨#[]⟩ : ByteArray) a2 0 0 false = some (r1, r2, r3, r4, r5, r6, r7)) ∧ Aside0 (kq ≤ kj12) ∧ Aside0 (wc.heap[gb273]? = some (.cells #[.string (⟨#[]⟩ : ByteArray), .int .i64 0, .int .i64 0, .int .i64 0, .bool false] 73 (0, 0))) ∧ Aside0 (wc.heap[gb274]? = some (.cells #[.string (⟨#[]⟩ : ByteArray), .int .i64 a2, .int .i64 0, .int .i64 0, .bool false] 73 (0, 0))) ∧ Aside0 (Below w.heap.size w wc))
              case first =>
                have H := HC15.out
                clear HC15
                by_cases c16 : x39_12 = true
                · subst c16
                  have H1 : (odometerref20_record.j3 kj12 l0 t276 t275 11 (⟨#[]⟩ : ByteArray) a2 0 0 false) = some (r1, r2, r3, r4, r5, r6, r7) := by rw [if_pos rfl] at H; exact H
                  clear H
                  have H := H1
                  clear H1
                  have H' := Aside0.mk H
                  clear H
                  go_wp2
                  first | go_meet | (subst_vars; go_meet)
                  case rel => exact ⟨_, (11), (by first | rfl | (simp; done) | (simp [*]; done)), H', ⟨by have := HJ4.out; have := HJ10.out; have := HJ12.out; first | omega | exact Nat.le_refl _⟩, ⟨by (with_reducible repeat (first | refine blk_drewN ?_ _ | refine blk_drew ?_ | refine blk_alloc ?_ _)); exact BK273.out⟩, ⟨by (with_reducible repeat (first | refine blk_drewN ?_ _ | refine blk_drew ?_ | refine blk_alloc ?_ _)); exact BK274.out⟩, ⟨by repeat (first | (with_reducible first | exact HB.out | apply below_alloc | apply pw_below_drewN | apply below_drew1 | refine below_set ?_ GE273.out | refine below_set ?_ GE274.out) | exact HB.out)⟩⟩
                · replace c16 := Bool.eq_false_iff.mpr c16
                  subst c16
                  have H1 : (odometerref20_record.j3 kj12 l0 t276 t275 x11_10 (⟨#[]⟩ : ByteArray) a2 0 0 false) = some (r1, r2, r3, r4, r5, r6, r7) := by rw [if_neg (show ¬ (false = true) by decide)] at H; exact H
                  clear H
                  have H := H1
                  clear H1
                  have H' := Aside0.mk H
                  clear H
                  go_wp2
                  first | go_meet | (subst_vars; go_meet)
                  case rel => exact ⟨_, (x11_10), (by first | rfl | (simp; done) | (simp [*]; done)), H', ⟨by have := HJ4.out; have := HJ10.out; have := HJ12.out; first | omega | exact Nat.le_refl _⟩, ⟨by (with_reducible repeat (first | refine blk_drewN ?_ _ | refine blk_drew ?_ | refine blk_alloc ?_ _)); exact BK273.out⟩, ⟨by (with_reducible repeat (first | refine blk_drewN ?_ _ | refine blk_drew ?_ | refine blk_alloc ?_ _)); exact BK274.out⟩, ⟨by repeat (first | (with_reducible first | exact HB.out | apply below_alloc | apply pw_below_drewN | apply below_drew1 | refine below_set ?_ GE273.out | refine below_set ?_ GE274.out) | exact HB.out)⟩⟩
              case rest =>
                clear HC15
                try clear c1
                try clear p2
                try clear c6
                try clear p6
                try clear c8
                try clear c10
                try clear c10b0
                try clear c10b1
                try clear c12
                try clear c14
                try clear c14b0
                try clear c14b1
                try clear c16
                try clear hcz9_0
                try clear hcz9_1
                try clear hcz9_2
                try clear hcz9_3
                try clear hcz9_4
                try clear hfz9_0
                try clear hfz9_1
                try clear hfz9_2
                try clear hfz9_3
                try clear hfz9_4
                try clear p2
                try clear p6
                obtain ⟨kq, x11_14, rfl, HA, HJ14, BK273, BK274, HB⟩ := hcut
                cases kq with
                | zero => exact absurd HA.out (by simp [odometerref20_record.j3])
                | succ kj14 =>
                  have H := HA.out
                  clear HA
                  simp only [odometerref20_record.j3] at H
                  by_cases c17 : x11_14 = 0
                  · rw [if_pos c17] at H
                    have c17b0 : (x11_14 == 0) = true := beq_iff_eq.mpr c17
                    have c17b1 : (x11_14 != 0) = false := bne_eq_false_iff_eq.mpr c17
                    clear c17
                    by_cases c18 : 0 ≤ t276
                    · rw [if_pos c18] at H
                      have c18b0 := eq_true c18
                      have c18b1 : decide (0 ≤ t276) = true := decide_eq_true c18
                      clear c18
                      by_cases c19 : t276 ≤ (wrap64 (t276 + (wrap64 (t275))))
                      · rw [if_pos c19] at H
                        have c19b0 := eq_true c19
                        have c19b1 : decide (t276 ≤ (wrap64 (t276 + (wrap64 (t275))))) = true := decide_eq_true c19
                        by_cases c20 : (wrap64 (t276 + (wrap64 (t275)))) ≤ (l0.length : Int)
                        · rw [if_pos c20] at H
                          have c20b0 := eq_true c20
                          have c20b1 : decide ((wrap64 (t276 + (wrap64 (t275)))) ≤ (l0.length : Int)) = true := decide_eq_true c20
                          have HH := Aside0.mk H
                          clear H
                          obtain ⟨i026, hi026, _, hsz26, _⟩ := info_parts info5
                          obtain ⟨A26, hcut26, hA26, hC26⟩ := print_mid_of (P := Tryz.prog) (Value.int .u8) 0 29 5 .i64 .i64 Tryz.underlying29 hi026 hsz26 A0 c0 l0 t276 (wrap64 (t276 + (wrap64 (t275)))) (of_decide_eq_true (by first | (with_reducible assumption) | assumption)) (by first | omega | exact of_decide_eq_true (by first | (with_reducible assumption) | assumption)) (of_decide_eq_true (by first | (with_reducible assumption) | assumption)) HC0.out
                          have HR278 := Aside0.mk (Kd.C_of_reads (h1 := fun _ => rfl) (hA26 _ (Kd.reads_of_C HR0.out)))
                          have HC278 := Aside0.mk hC26
                          clear hA26 hC26 hi026 hsz26
                          have hcv27 := C_string0 (P := Tryz.prog) (A := A26) (c := (c0 - t276.toNat)) Tryz.underlying29 Tryz.underlying5 Tryz.underlying9 (Kd.C_below HR278.out HB.out)
                          have hcq27 := C_stringN (P := Tryz.prog) (A := A26) (c := (c0 - t276.toNat)) Tryz.underlying29 Tryz.underlying5 Tryz.underlying9 (Kd.C_below HR278.out HB.out)
                          have xa0 : wc.cell? ⟨gb274, 0, none⟩ = some (.string (⟨#[]⟩ : ByteArray)) := (blk_cell BK274.out 0).trans rfl
                          have za0 := blk_frozen BK274.out 0
                          have xa1 : wc.cell? ⟨gb274, 1, none⟩ = some (.int .i64 a2) := (blk_cell BK274.out 1).trans rfl
                          have za1 := blk_frozen BK274.out 1
                          have xa2 : wc.cell? ⟨gb274, 2, none⟩ = some (.int .i64 0) := (blk_cell BK274.out 2).trans rfl
                          have za2 := blk_frozen BK274.out 2
                          have xa3 : wc.cell? ⟨gb274, 3, none⟩ = some (.int .i64 0) := (blk_cell BK274.out 3).trans rfl
                          have za3 := blk_frozen BK274.out 3
                          have xa4 : wc.cell? ⟨gb274, 4, none⟩ = some (.bool false) := (blk_cell BK274.out 4).trans rfl
                          have za4 := blk_frozen BK274.out 4
                          go_upto_region 11 with (fail)
                          obtain ⟨nm, hnm⟩ : ∃ nm, nm = (strOfNums ((l0.take ((wrap64 (t276 + (wrap64 (t275)))) : Int).toNat).drop (t276 : Int).toNat)) := ⟨_, rfl⟩
                          rw [← hnm] at HH ⊢
                          have BA := Aside0.mk (blk_put BK274.out 0 (.string nm) (cs' := #[.string nm, .int .i64 a2, .int .i64 0, .int .i64 0, .bool false]) rfl)
                          have BB := Aside0.mk (blk_other BK273.out NB273_274.out 0 (.string nm))
                          have HBW := Aside0.mk (show Below w.heap.size w (wc.setCell ⟨gb274, 0, none⟩ (.string nm)) from below_set HB.out GE274.out)
                          generalize wc.setCell ⟨gb274, 0, none⟩ (.string nm) = W1 at BA BB HBW ⊢
                          clear BK274 BK273 HB hcv27 hcq27 hcut26 HR278 HC278 hnm xa0 za0 xa1 za1 xa2 za2 xa3 za3 xa4 za4
                          have H := HH.out
                          clear HH
                          replace H := Option.bind_eq_some_iff.mp H
                          obtain ⟨⟨t279, t280, t281⟩, A210, H⟩ := H
                          dsimp only at H
                          have A21 := Aside0.mk A210
                          clear A210
                          have HH := Aside0.mk H
                          clear H
                          go_upto_region 12 with (first | (go_at_call 66; (with_reducible refine (odometerref20_number.calls kj14 _ _ l0 (wrap64 (t276 + (wrap64 (t275)))) t279 t280 t281 _ (Kd.C_below HR0.out HBW.out) HC0.out A21.out).mono ?_); rintro e w' ⟨rfl, ⟨nd, rfl⟩⟩))
                          have BA2 := Aside0.mk (blk_drewN BA.out nd)
                          have BB2 := Aside0.mk (blk_drewN BB.out nd)
                          have HB2 := Aside0.mk (pw_below_drewN HBW.out nd)
                          generalize W1.drewN nd = W2 at BA2 BB2 HB2 ⊢
                          clear BA BB HBW A21
                          have H := HH.out
                          clear HH
                          by_cases c22 : t281 = 0
                          · subst c22
                            rw [if_pos rfl] at H
                            replace H := Option.bind_eq_some_iff.mp H
                            obtain ⟨⟨t282, t283, t284⟩, A230, H⟩ := H
                            dsimp only at H
                            have A23 := Aside0.mk A230
                            clear A230
                            have HH := Aside0.mk H
                            clear H
                            go_upto_region 15 with (first | (go_at_call 66; (with_reducible refine (odometerref20_number.calls kj14 _ _ l0 t280 t282 t283 t284 _ (Kd.C_below HR0.out HB2.out) HC0.out A23.out).mono ?_); rintro e w' ⟨rfl, ⟨nd, rfl⟩⟩))
                            have BA3 := Aside0.mk (blk_drewN BA2.out nd)
                            have BB3 := Aside0.mk (blk_drewN BB2.out nd)
                            have HB3 := Aside0.mk (pw_below_drewN HB2.out nd)
                            generalize W2.drewN nd = W3 at BA3 BB3 HB3 ⊢
                            clear BA2 BB2 HB2 A23
                            have H := HH.out
                            clear HH
                            by_cases c24 : t284 = 0
                            · subst c24
                              rw [if_pos rfl] at H
                              have HH := Aside0.mk H
                              clear H
                              have xa0 : W3.cell? ⟨gb274, 0, none⟩ = some (.string nm) := (blk_cell BA3.out 0).trans rfl
                              have za0 := blk_frozen BA3.out 0
                              have xa1 : W3.cell? ⟨gb274, 1, none⟩ = some (.int .i64 a2) := (blk_cell BA3.out 1).trans rfl
                              have za1 := blk_frozen BA3.out 1
                              have xa2 : W3.cell? ⟨gb274, 2, none⟩ = some (.int .i64 0) := (blk_cell BA3.out 2).trans rfl
                              have za2 := blk_frozen BA3.out 2
                              have xa3 : W3.cell? ⟨gb274, 3, none⟩ = some (.int .i64 0) := (blk_cell BA3.out 3).trans rfl
                              have za3 := blk_frozen BA3.out 3
                              have xa4 : W3.cell? ⟨gb274, 4, none⟩ = some (.bool false) := (blk_cell BA3.out 4).trans rfl
                              have za4 := blk_frozen BA3.out 4
                              go_upto_region 19 with (fail)
                              have HV := blk_put (blk_put BA3.out 2 (.int .i64 (wrap64 t279)) (cs' := #[.string nm, .int .i64 a2, .int .i64 (wrap64 t279), .int .i64 0, .bool false]) rfl) 3 (.int .i64 (wrap64 t282)) (cs' := #[.string nm, .int .i64 a2, .int .i64 (wrap64 t279), .int .i64 (wrap64 t282), .bool false]) rfl
                              have BA4 := Aside0.mk HV
                              have BB4 := Aside0.mk (blk_other (blk_other BB3.out NB273_274.out 2 (.int .i64 (wrap64 t279))) NB273_274.out 3 (.int .i64 (wrap64 t282)))
                              have HB4 := Aside0.mk (show Below w.heap.size w ((W3.setCell ⟨gb274, 2, none⟩ (.int .i64 (wrap64 t279))).setCell ⟨gb274, 3, none⟩ (.int .i64 (wrap64 t282))) from below_set (below_set HB3.out GE274.out) GE274.out)
                              clear HV
                              generalize (W3.setCell ⟨gb274, 2, none⟩ (.int .i64 (wrap64 t279))).setCell ⟨gb274, 3, none⟩ (.int .i64 (wrap64 t282)) = W4 at BA4 BB4 HB4 ⊢
                              clear BA3 BB3 HB3 xa0 za0 xa1 za1 xa2 za2 xa3 za3 xa4 za4
                              have H := HH.out
                              clear HH
                              by_cases c25 : t283 = (l0.length : Int)
                              · rw [if_pos c25] at H
                                have c25b0 : (t283 == (l0.length : Int)) = true := beq_iff_eq.mpr c25
                                simp only [Option.some.injEq, Prod.mk.injEq] at H
                                obtain ⟨rfl, rfl, rfl, rfl, rfl, rfl, rfl⟩ := H
                                clear c25
                                have xa0 : W4.cell? ⟨gb274, 0, none⟩ = some (.string nm) := (blk_cell BA4.out 0).trans rfl
                                have xa1 : W4.cell? ⟨gb274, 1, none⟩ = some (.int .i64 a2) := (blk_cell BA4.out 1).trans rfl
                                have xa2 : W4.cell? ⟨gb274, 2, none⟩ = some (.int .i64 (wrap64 t279)) := (blk_cell BA4.out 2).trans rfl
                                have xa3 : W4.cell? ⟨gb274, 3, none⟩ = some (.int .i64 (wrap64 t282)) := (blk_cell BA4.out 3).trans rfl
                                have xa4 : W4.cell? ⟨gb274, 4, none⟩ = some (.bool false) := (blk_cell BA4.out 4).trans rfl
                                have xb0 : W4.cell? ⟨gb273, 0, none⟩ = some (.string (⟨#[]⟩ : ByteArray)) := (blk_cell BB4.out 0).trans rfl
                                have zb0 := blk_frozen BB4.out 0
                                have xb1 : W4.cell? ⟨gb273, 1, none⟩ = some (.int .i64 0) := (blk_cell BB4.out 1).trans rfl
                                have zb1 := blk_frozen BB4.out 1
                                have xb2 : W4.cell? ⟨gb273, 2, none⟩ = some (.int .i64 0) := (blk_cell BB4.out 2).trans rfl
                                have zb2 := blk_frozen BB4.out 2
                                have xb3 : W4.cell? ⟨gb273, 3, none⟩ = some (.int .i64 0) := (blk_cell BB4.out 3).trans rfl
                                have zb3 := blk_frozen BB4.out 3
                                have xb4 : W4.cell? ⟨gb273, 4, none⟩ = some (.bool false) := (blk_cell BB4.out 4).trans rfl
                                have zb4 := blk_frozen BB4.out 4
                                go_wp2
                                refine bodyPost_ret (results_ctt rfl _ _ gb273 73 #[.string nm, .int .i64 a2, .int .i64 (wrap64 t279), .int .i64 (wrap64 t282), .bool false] (0, 0) _ rfl (blk_put (blk_put (blk_put (blk_put (blk_put BB4.out 0 _ rfl) 1 _ rfl) 2 _ rfl) 3 _ rfl) 4 _ rfl) Tryz.underlying73 rfl (by kernel_rfl)) rfl ?_
                                exact ⟨rfl, below_set (below_set (below_set (below_set (below_set HB4.out GE273.out) GE273.out) GE273.out) GE273.out) GE273.out⟩
                              · rw [if_neg c25] at H
                                have c25b0 : (t283 == (l0.length : Int)) = false := beq_eq_false_iff_ne.mpr c25
                                by_cases c31 : 0 ≤ t283
                                · rw [if_pos c31] at H
                                  by_cases c32 : t283 < (l0.length : Int)
                                  · rw [if_pos c32] at H
                                    have HRR := (Kd.reads_of_C (d := (0 : Int)) (Kd.C_below HR0.out HB4.out))
                                    obtain ⟨ad, eA, hcell⟩ := HRR.2.2 (by omega)
                                    subst eA
                                    have hx0 := hcell t283.toNat (by omega)
                                    have hxr : l0.getD t283.toNat 0 = rd l0 t283 := rfl
                                    rw [hxr] at hx0
                                    have p31 := eq_true c31
                                    have p32 := eq_true c32
                                    have q31 : decide (0 ≤ t283) = true := decide_eq_true c31
                                    have q32 : decide (t283 < (l0.length : Int)) = true := decide_eq_true c32
                                    clear hcell HRR hxr
                                    by_cases c33 : (rd l0 t283) > 1
                                    · rw [if_pos c33] at H
                                      have c33b0 : decide (1 < (rd l0 t283)) = true := decide_eq_true c33
                                      have c33b1 : decide ((rd l0 t283) > 1) = true := decide_eq_true c33
                                      simp only [Option.some.injEq, Prod.mk.injEq] at H
                                      obtain ⟨rfl, rfl, rfl, rfl, rfl, rfl, rfl⟩ := H
                                      clear c33 c31 c32 c25
                                      have xa0 : W4.cell? ⟨gb274, 0, none⟩ = some (.string nm) := (blk_cell BA4.out 0).trans rfl
                                      have xa1 : W4.cell? ⟨gb274, 1, none⟩ = some (.int .i64 a2) := (blk_cell BA4.out 1).trans rfl
                                      have xa2 : W4.cell? ⟨gb274, 2, none⟩ = some (.int .i64 (wrap64 t279)) := (blk_cell BA4.out 2).trans rfl
                                      have xa3 : W4.cell? ⟨gb274, 3, none⟩ = some (.int .i64 (wrap64 t282)) := (blk_cell BA4.out 3).trans rfl
                                      have xa4 : W4.cell? ⟨gb274, 4, none⟩ = some (.bool false) := (blk_cell BA4.out 4).trans rfl
                                      have xb0 : W4.cell? ⟨gb273, 0, none⟩ = some (.string (⟨#[]⟩ : ByteArray)) := (blk_cell BB4.out 0).trans rfl
                                      have zb0 := blk_frozen BB4.out 0
                                      have xb1 : W4.cell? ⟨gb273, 1, none⟩ = some (.int .i64 0) := (blk_cell BB4.out 1).trans rfl
                                      have zb1 := blk_frozen BB4.out 1
                                      have xb2 : W4.cell? ⟨gb273, 2, none⟩ = some (.int .i64 0) := (blk_cell BB4.out 2).trans rfl
                                      have zb2 := blk_frozen BB4.out 2
                                      have xb3 : W4.cell? ⟨gb273, 3, none⟩ = some (.int .i64 0) := (blk_cell BB4.out 3).trans rfl
                                      have zb3 := blk_frozen BB4.out 3
                                      have xb4 : W4.cell? ⟨gb273, 4, none⟩ = some (.bool false) := (blk_cell BB4.out 4).trans rfl
                                      have zb4 := blk_frozen BB4.out 4
                                      go_wp2
                                      refine bodyPost_ret (results_ctt rfl _ _ gb273 73 #[.string nm, .int .i64 a2, .int .i64 (wrap64 t279), .int .i64 (wrap64 t282), .bool false] (0, 0) _ rfl (blk_put (blk_put (blk_put (blk_put (blk_put BB4.out 0 _ rfl) 1 _ rfl) 2 _ rfl) 3 _ rfl) 4 _ rfl) Tryz.underlying73 rfl (by kernel_rfl)) rfl ?_
                                      exact ⟨rfl, below_set (below_set (below_set (below_set (below_set HB4.out GE273.out) GE273.out) GE273.out) GE273.out) GE273.out⟩
                                    · rw [if_neg c33] at H
                                      have c33b0 : decide (1 < (rd l0 t283)) = false := decide_eq_false c33
                                      have c33b1 : decide ((rd l0 t283) > 1) = false := decide_eq_false c33
                                      simp only [Option.some.injEq, Prod.mk.injEq] at H
                                      obtain ⟨rfl, rfl, rfl, rfl, rfl, rfl, rfl⟩ := H
                                      clear c33 c31 c32 c25
                                      have xa0 : W4.cell? ⟨gb274, 0, none⟩ = some (.string nm) := (blk_cell BA4.out 0).trans rfl
                                      have za0 := blk_frozen BA4.out 0
                                      have xa1 : W4.cell? ⟨gb274, 1, none⟩ = some (.int .i64 a2) := (blk_cell BA4.out 1).trans rfl
                                      have za1 := blk_frozen BA4.out 1
                                      have xa2 : W4.cell? ⟨gb274, 2, none⟩ = some (.int .i64 (wrap64 t279)) := (blk_cell BA4.out 2).trans rfl
                                      have za2 := blk_frozen BA4.out 2
                                      have xa3 : W4.cell? ⟨gb274, 3, none⟩ = some (.int .i64 (wrap64 t282)) := (blk_cell BA4.out 3).trans rfl
                                      have za3 := blk_frozen BA4.out 3
                                      have xa4 : W4.cell? ⟨gb274, 4, none⟩ = some (.bool false) := (blk_cell BA4.out 4).trans rfl
                                      have za4 := blk_frozen BA4.out 4
                                      go_upto_region 24 with (fail)
                                      have BA5 := Aside0.mk (blk_put BA4.out 4 (.bool ((rd l0 t283) == 1)) (cs' := #[.string nm, .int .i64 a2, .int .i64 (wrap64 t279), .int .i64 (wrap64 t282), .bool ((rd l0 t283) == 1)]) rfl)
                                      have BB5 := Aside0.mk (blk_other BB4.out NB273_274.out 4 (.bool ((rd l0 t283) == 1)))
                                      have HB5 := Aside0.mk (show Below w.heap.size w (W4.setCell ⟨gb274, 4, none⟩ (.bool ((rd l0 t283) == 1))) from below_set HB4.out GE274.out)
                                      generalize W4.setCell ⟨gb274, 4, none⟩ (.bool ((rd l0 t283) == 1)) = W5 at BA5 BB5 HB5 ⊢
                                      clear BA4 BB4 HB4 hx0 xa0 za0 xa1 za1 xa2 za2 xa3 za3 xa4 za4
                                      have xa0 : W5.cell? ⟨gb274, 0, none⟩ = some (.string nm) := (blk_cell BA5.out 0).trans rfl
                                      have xa1 : W5.cell? ⟨gb274, 1, none⟩ = some (.int .i64 a2) := (blk_cell BA5.out 1).trans rfl
                                      have xa2 : W5.cell? ⟨gb274, 2, none⟩ = some (.int .i64 (wrap64 t279)) := (blk_cell BA5.out 2).trans rfl
                                      have xa3 : W5.cell? ⟨gb274, 3, none⟩ = some (.int .i64 (wrap64 t282)) := (blk_cell BA5.out 3).trans rfl
                                      have xa4 : W5.cell? ⟨gb274, 4, none⟩ = some (.bool ((rd l0 t283) == 1)) := (blk_cell BA5.out 4).trans rfl
                                      have xb0 : W5.cell? ⟨gb273, 0, none⟩ = some (.string (⟨#[]⟩ : ByteArray)) := (blk_cell BB5.out 0).trans rfl
                                      have zb0 := blk_frozen BB5.out 0
                                      have xb1 : W5.cell? ⟨gb273, 1, none⟩ = some (.int .i64 0) := (blk_cell BB5.out 1).trans rfl
                                      have zb1 := blk_frozen BB5.out 1
                                      have xb2 : W5.cell? ⟨gb273, 2, none⟩ = some (.int .i64 0) := (blk_cell BB5.out 2).trans rfl
                                      have zb2 := blk_frozen BB5.out 2
                                      have xb3 : W5.cell? ⟨gb273, 3, none⟩ = some (.int .i64 0) := (blk_cell BB5.out 3).trans rfl
                                      have zb3 := blk_frozen BB5.out 3
                                      have xb4 : W5.cell? ⟨gb273, 4, none⟩ = some (.bool false) := (blk_cell BB5.out 4).trans rfl
                                      have zb4 := blk_frozen BB5.out 4
                                      go_wp2
                                      refine bodyPost_ret (results_ctt rfl _ _ gb273 73 #[.string nm, .int .i64 a2, .int .i64 (wrap64 t279), .int .i64 (wrap64 t282), .bool ((rd l0 t283) == 1)] (0, 0) _ rfl (blk_put (blk_put (blk_put (blk_put (blk_put BB5.out 0 _ rfl) 1 _ rfl) 2 _ rfl) 3 _ rfl) 4 _ rfl) Tryz.underlying73 rfl (by kernel_rfl)) rfl ?_
                                      exact ⟨rfl, below_set (below_set (below_set (below_set (below_set HB5.out GE273.out) GE273.out) GE273.out) GE273.out) GE273.out⟩
                                  · rw [if_neg c32] at H
                                    exact absurd H (by simp)
                                · rw [if_neg c31] at H
                                  exact absurd H (by simp)
                            · rw [if_neg c24] at H
                              have c24b0 : (t284 == 0) = false := beq_eq_false_iff_ne.mpr c24
                              simp only [Option.some.injEq, Prod.mk.injEq] at H
                              obtain ⟨rfl, rfl, rfl, rfl, rfl, rfl, rfl⟩ := H
                              clear c24
                              have xa0 : W3.cell? ⟨gb274, 0, none⟩ = some (.string nm) := (blk_cell BA3.out 0).trans rfl
                              have xa1 : W3.cell? ⟨gb274, 1, none⟩ = some (.int .i64 a2) := (blk_cell BA3.out 1).trans rfl
                              have xa2 : W3.cell? ⟨gb274, 2, none⟩ = some (.int .i64 0) := (blk_cell BA3.out 2).trans rfl
                              have xa3 : W3.cell? ⟨gb274, 3, none⟩ = some (.int .i64 0) := (blk_cell BA3.out 3).trans rfl
                              have xa4 : W3.cell? ⟨gb274, 4, none⟩ = some (.bool false) := (blk_cell BA3.out 4).trans rfl
                              have xb0 : W3.cell? ⟨gb273, 0, none⟩ = some (.string (⟨#[]⟩ : ByteArray)) := (blk_cell BB3.out 0).trans rfl
                              have zb0 := blk_frozen BB3.out 0
                              have xb1 : W3.cell? ⟨gb273, 1, none⟩ = some (.int .i64 0) := (blk_cell BB3.out 1).trans rfl
                              have zb1 := blk_frozen BB3.out 1
                              have xb2 : W3.cell? ⟨gb273, 2, none⟩ = some (.int .i64 0) := (blk_cell BB3.out 2).trans rfl
                              have zb2 := blk_frozen BB3.out 2
                              have xb3 : W3.cell? ⟨gb273, 3, none⟩ = some (.int .i64 0) := (blk_cell BB3.out 3).trans rfl
                              have zb3 := blk_frozen BB3.out 3
                              have xb4 : W3.cell? ⟨gb273, 4, none⟩ = some (.bool false) := (blk_cell BB3.out 4).trans rfl
                              have zb4 := blk_frozen BB3.out 4
                              go_wp2
                              refine bodyPost_ret (results_ctt rfl _ _ gb273 73 #[.string nm, .int .i64 a2, .int .i64 0, .int .i64 0, .bool false] (0, 0) _ rfl (blk_put (blk_put (blk_put (blk_put (blk_put BB3.out 0 _ rfl) 1 _ rfl) 2 _ rfl) 3 _ rfl) 4 _ rfl) Tryz.underlying73 rfl (by kernel_rfl)) rfl ?_
                              exact ⟨rfl, below_set (below_set (below_set (below_set (below_set HB3.out GE273.out) GE273.out) GE273.out) GE273.out) GE273.out⟩
                          · rw [if_neg c22] at H
                            have c22b0 : (t281 == 0) = false := beq_eq_false_iff_ne.mpr c22
                            simp only [Option.some.injEq, Prod.mk.injEq] at H
                            obtain ⟨rfl, rfl, rfl, rfl, rfl, rfl, rfl⟩ := H
                            clear c22
                            have xa0 : W2.cell? ⟨gb274, 0, none⟩ = some (.string nm) := (blk_cell BA2.out 0).trans rfl
                            have xa1 : W2.cell? ⟨gb274, 1, none⟩ = some (.int .i64 a2) := (blk_cell BA2.out 1).trans rfl
                            have xa2 : W2.cell? ⟨gb274, 2, none⟩ = some (.int .i64 0) := (blk_cell BA2.out 2).trans rfl
                            have xa3 : W2.cell? ⟨gb274, 3, none⟩ = some (.int .i64 0) := (blk_cell BA2.out 3).trans rfl
                            have xa4 : W2.cell? ⟨gb274, 4, none⟩ = some (.bool false) := (blk_cell BA2.out 4).trans rfl
                            have xb0 : W2.cell? ⟨gb273, 0, none⟩ = some (.string (⟨#[]⟩ : ByteArray)) := (blk_cell BB2.out 0).trans rfl
                            have zb0 := blk_frozen BB2.out 0
                            have xb1 : W2.cell? ⟨gb273, 1, none⟩ = some (.int .i64 0) := (blk_cell BB2.out 1).trans rfl
                            have zb1 := blk_frozen BB2.out 1
                            have xb2 : W2.cell? ⟨gb273, 2, none⟩ = some (.int .i64 0) := (blk_cell BB2.out 2).trans rfl
                            have zb2 := blk_frozen BB2.out 2
                            have xb3 : W2.cell? ⟨gb273, 3, none⟩ = some (.int .i64 0) := (blk_cell BB2.out 3).trans rfl
                            have zb3 := blk_frozen BB2.out 3
                            have xb4 : W2.cell? ⟨gb273, 4, none⟩ = some (.bool false) := (blk_cell BB2.out 4).trans rfl
                            have zb4 := blk_frozen BB2.out 4
                            go_wp2
                            refine bodyPost_ret (results_ctt rfl _ _ gb273 73 #[.string nm, .int .i64 a2, .int .i64 0, .int .i64 0, .bool false] (0, 0) _ rfl (blk_put (blk_put (blk_put (blk_put (blk_put BB2.out 0 _ rfl) 1 _ rfl) 2 _ rfl) 3 _ rfl) 4 _ rfl) Tryz.underlying73 rfl (by kernel_rfl)) rfl ?_
                            exact ⟨rfl, below_set (below_set (below_set (below_set (below_set HB2.out GE273.out) GE273.out) GE273.out) GE273.out) GE273.out⟩
                        · rw [if_neg c20] at H
                          exact absurd H (by simp)
                      · rw [if_neg c19] at H
                        exact absurd H (by simp)
                    · rw [if_neg c18] at H
                      exact absurd H (by simp)
                  · rw [if_neg c17] at H
                    have c17b0 : (x11_14 == 0) = false := beq_eq_false_iff_ne.mpr c17
                    have c17b1 : (x11_14 != 0) = true := bne_iff_ne.mpr c17
                    simp only [Option.some.injEq, Prod.mk.injEq] at H
                    obtain ⟨rfl, rfl, rfl, rfl, rfl, rfl, rfl⟩ := H
                    have hnb54 := NB274_273.out
                    have hnc54 := NB273_274.out
                    have hcz55_0 : wc.cell? ⟨gb274, 0, none⟩ = some (.string (⟨#[]⟩ : ByteArray)) := (blk_cell BK274.out 0).trans rfl
                    have hcz55_1 : wc.cell? ⟨gb274, 1, none⟩ = some (.int .i64 a2) := (blk_cell BK274.out 1).trans rfl
                    have hcz55_2 : wc.cell? ⟨gb274, 2, none⟩ = some (.int .i64 0) := (blk_cell BK274.out 2).trans rfl
                    have hcz55_3 : wc.cell? ⟨gb274, 3, none⟩ = some (.int .i64 0) := (blk_cell BK274.out 3).trans rfl
                    have hcz55_4 : wc.cell? ⟨gb274, 4, none⟩ = some (.bool false) := (blk_cell BK274.out 4).trans rfl
                    have hfz55_0 := blk_frozen BK274.out 0
                    have hfz55_1 := blk_frozen BK274.out 1
                    have hfz55_2 := blk_frozen BK274.out 2
                    have hfz55_3 := blk_frozen BK274.out 3
                    have hfz55_4 := blk_frozen BK274.out 4
                    have hcz56_0 : wc.cell? ⟨gb273, 0, none⟩ = some (.string (⟨#[]⟩ : ByteArray)) := (blk_cell BK273.out 0).trans rfl
                    have hcz56_1 : wc.cell? ⟨gb273, 1, none⟩ = some (.int .i64 0) := (blk_cell BK273.out 1).trans rfl
                    have hcz56_2 : wc.cell? ⟨gb273, 2, none⟩ = some (.int .i64 0) := (blk_cell BK273.out 2).trans rfl
                    have hcz56_3 : wc.cell? ⟨gb273, 3, none⟩ = some (.int .i64 0) := (blk_cell BK273.out 3).trans rfl
                    have hcz56_4 : wc.cell? ⟨gb273, 4, none⟩ = some (.bool false) := (blk_cell BK273.out 4).trans rfl
                    have hfz56_0 := blk_frozen BK273.out 0
                    have hfz56_1 := blk_frozen BK273.out 1
                    have hfz56_2 := blk_frozen BK273.out 2
                    have hfz56_3 := blk_frozen BK273.out 3
                    have hfz56_4 := blk_frozen BK273.out 4
                    go_wp2
                    refine bodyPost_ret (results_ctt rfl _ _ gb273 73 #[.string (⟨#[]⟩ : ByteArray), .int .i64 a2, .int .i64 0, .int .i64 0, .bool false] (0, 0) _ rfl (by (with_reducible repeat (first | refine blk_drewN ?_ _ | refine blk_drew ?_ | refine blk_alloc ?_ _)); refine blk_put (cs := #[.string (⟨#[]⟩ : ByteArray), .int .i64 a2, .int .i64 0, .int .i64 0, .bool false]) ?_ 4 _ rfl; (with_reducible repeat (first | refine blk_drewN ?_ _ | refine blk_drew ?_ | refine blk_alloc ?_ _)); refine blk_put (cs := #[.string (⟨#[]⟩ : ByteArray), .int .i64 a2, .int .i64 0, .int .i64 0, .bool false]) ?_ 3 _ rfl; (with_reducible repeat (first | refine blk_drewN ?_ _ | refine blk_drew ?_ | refine blk_alloc ?_ _)); refine blk_put (cs := #[.string (⟨#[]⟩ : ByteArray), .int .i64 a2, .int .i64 0, .int .i64 0, .bool false]) ?_ 2 _ rfl; (with_reducible repeat (first | refine blk_drewN ?_ _ | refine blk_drew ?_ | refine blk_alloc ?_ _)); refine blk_put (cs := #[.string (⟨#[]⟩ : ByteArray), .int .i64 0, .int .i64 0, .int .i64 0, .bool false]) ?_ 1 _ rfl; (with_reducible repeat (first | refine blk_drewN ?_ _ | refine blk_drew ?_ | refine blk_alloc ?_ _)); refine blk_put (cs := #[.string (⟨#[]⟩ : ByteArray), .int .i64 0, .int .i64 0, .int .i64 0, .bool false]) ?_ 0 _ rfl; (with_reducible repeat (first | refine blk_drewN ?_ _ | refine blk_drew ?_ | refine blk_alloc ?_ _)); exact BK273.out) Tryz.underlying73 rfl (by kernel_rfl)) rfl ?_
                    exact ⟨by first | rfl | (simp [errW_none, errW_some] <;> rfl) | (simp [*, errW_none, errW_some] <;> rfl), by repeat (first | (with_reducible first | exact HB.out | apply below_alloc | apply pw_below_drewN | apply below_drew1 | refine below_set ?_ GE273.out | refine below_set ?_ GE274.out) | exact HB.out)⟩

end Go.Proofs.YtpihpkphhkcdlaaGreatDoor.PR
