/- The law HeadLarge: its walk, by hand: whatever bytes its loops have made, both readers say the same of them. -/
import Derived.Test.YtfpcoanlkfgagaaDoorBuf
import Derived.Test.YtfpcoanlkfgagaaDoorPBx0
import Derived.Test.YtfpcoanlkfgagaaDoorPBx1
import Derived.Test.YtfpcoanlkfgagaaDoorPBK
import Derived.Test.YtfpcoanlkfgagaaDoorExtBR
namespace Go.Proofs.YtfpcoanlkfgagaaDoor.PB
open Go.RowKit Go.Proofs.YtfpcoanlkfgagaaDoorW.PrintWords Go.Proofs.YtfpcoanlkfgagaaDoorW.PrintLast Go.Proofs.YtfpcoanlkfgagaaDoor.Ext Go.Proofs.YtfpcoanlkfgagaaDoor.PB0 Go.Proofs.YtfpcoanlkfgagaaDoorW.PrintMore
attribute [local go_sem] max2_int min2_int max_two min_two
set_option linter.unusedVariables false
set_option linter.unusedSimpArgs false
attribute [local go_sem high] eqA29
def odometerlaw06_HeadLarge.Pure : Prop := odometerlaw06_known.f = some true ∧ ∀ xs : List Int, Byt xs → xs.length ≤ 100000 → ∃ t1 t2 t3 t4 t5 t6, head_Parse.f xs = some (t1, t2, t3, t4, t5, t6) ∧ odometerref06_Parse.f xs = some (t1, t2, t3, t4, t5, t6)
set_option maxHeartbeats 8000000 in
set_option maxRecDepth 100000 in
theorem odometerlaw06_HeadLarge.calls (P : odometerlaw06_HeadLarge.Pure) (a0 a1 a2 : Int) (w : World) (hG : Glob w) :
    Calls Tryd.prog 8 #[.int .i64 a0, .int .i64 a1, .int .i64 a2] w fun e w' => e = .returned (.bool true) ∧ Below w.heap.size w w' := by
  have HG := Aside0.mk hG
  have HKN := Aside0.mk P.1
  have HP := Aside0.mk P.2
  clear hG P
  by_cases hbad : a0 < 0 ∨ a0 > 70 ∨ a1 < 0 ∨ a1 > 200 ∨ a2 < 0 ∨ a2 > 9000
  · have hs : (decide (a0 < 0) = true) ∨ (decide (a0 < 0) = false ∧ decide (a0 > 70) = true ∧ decide (70 < a0) = true) ∨ (decide (a0 < 0) = false ∧ decide (a0 > 70) = false ∧ decide (70 < a0) = false ∧ decide (a1 < 0) = true) ∨ (decide (a0 < 0) = false ∧ decide (a0 > 70) = false ∧ decide (70 < a0) = false ∧ decide (a1 < 0) = false ∧ decide (a1 > 200) = true ∧ decide (200 < a1) = true) ∨ (decide (a0 < 0) = false ∧ decide (a0 > 70) = false ∧ decide (70 < a0) = false ∧ decide (a1 < 0) = false ∧ decide (a1 > 200) = false ∧ decide (200 < a1) = false ∧ decide (a2 < 0) = true) ∨ (decide (a0 < 0) = false ∧ decide (a0 > 70) = false ∧ decide (70 < a0) = false ∧ decide (a1 < 0) = false ∧ decide (a1 > 200) = false ∧ decide (200 < a1) = false ∧ decide (a2 < 0) = false ∧ decide (a2 > 9000) = true ∧ decide (9000 < a2) = true) := by
      simp only [decide_eq_true_eq, decide_eq_false_iff_not]
      omega
    clear hbad HP
    rcases hs with d0_ | ⟨d0_, d1_, d2_⟩ | ⟨d0_, d1_, d2_, d3_⟩ | ⟨d0_, d1_, d2_, d3_, d4_, d5_⟩ | ⟨d0_, d1_, d2_, d3_, d4_, d5_, d6_⟩ | ⟨d0_, d1_, d2_, d3_, d4_, d5_, d6_, d7_, d8_⟩ <;> (go_enter Tryd.func8, Tryd.ntmps8; go_wp2_with (first | (go_at_call 20; (with_reducible refine (odometerlaw06_known.calls true _ HG.out HKN.out).mono ?_); rintro x w1 ⟨rfl, hb⟩; have HB := Aside0.mk hb; clear hb)); go_ret; exact ⟨rfl, HB.out⟩)
  · have R := Aside0.mk (show 0 ≤ a0 ∧ a0 ≤ 70 ∧ 0 ≤ a1 ∧ a1 ≤ 200 ∧ 0 ≤ a2 ∧ a2 ≤ 9000 by omega)
    have e0_ : decide (a0 < 0) = false := decide_eq_false (by omega)
    have e1_ : decide (a0 > 70) = false := decide_eq_false (by omega)
    have e2_ : decide (70 < a0) = false := decide_eq_false (by omega)
    have e3_ : decide (a1 < 0) = false := decide_eq_false (by omega)
    have e4_ : decide (a1 > 200) = false := decide_eq_false (by omega)
    have e5_ : decide (200 < a1) = false := decide_eq_false (by omega)
    have e6_ : decide (a2 < 0) = false := decide_eq_false (by omega)
    have e7_ : decide (a2 > 9000) = false := decide_eq_false (by omega)
    have e8_ : decide (9000 < a2) = false := decide_eq_false (by omega)
    clear hbad
    go_enter Tryd.func8, Tryd.ntmps8
    go_wp2_with (first | ((with_reducible refine gate_dst (N := 40) rfl ?_); refine lit_buf w.heap.size (Nat.le_refl _) (xs := ([72, 84, 84, 80, 47, 49, 46, 49, 32, 50, 48, 48, 32, 79, 75, 13, 10] : List Int)) (inner := [.int .u8 72, .int .u8 84, .int .u8 84, .int .u8 80, .int .u8 47, .int .u8 49, .int .u8 46, .int .u8 49, .int .u8 32, .int .u8 50, .int .u8 48, .int .u8 48, .int .u8 32, .int .u8 79, .int .u8 75, .int .u8 13, .int .u8 10]) ?hl1 ?hl2 (N1 := 40) ?hl3 ?hl4 Tryd.underlying22 Tryd.underlying5 rfl ?hl5 ?hl6 ?_; (case hl1 => rfl); (case hl2 => rfl); (case hl3 => rfl); (case hl4 => rfl); (case hl5 => first | (go_simp; done) | (go_simp; rfl)); (case hl6 => exact fun _ => rfl); intro v1 w1 hv hb; have HV := Aside0.mk hv; have HB := Aside0.mk hb; clear hv hb))
    clear e0_
    clear e1_
    clear e2_
    clear e3_
    clear e4_
    clear e5_
    clear e6_
    clear e7_
    clear e8_
    go_loopg [7, 8] a0.toNat (fun kq v7 v8 w' => ∃ (i : Int) (xs : List Int), v8 = .int .i64 i ∧ Aside0 (0 ≤ i ∧ i ≤ a0 ∧ (kq : Int) = a0 - i ∧ (xs.length : Int) ≤ 17 + i * 300 ∧ Byt xs) ∧ Aside0 (Buf w' w.heap.size v7 xs) ∧ Aside0 (Below w.heap.size w w'))
    case atStart => exact ⟨0, _, rfl, ⟨by have := R.out; refine ⟨by omega, by omega, by omega, by decide, by unfold Byt; decide⟩⟩, HV, HB⟩
    case round =>
      clear HV HB
      obtain ⟨i, xs, rfl, HI, HV, HB⟩ := hrel
      by_cases hi : i < a0
      · have hc : decide (i < a0) = true := decide_eq_true hi
        have HJ := Aside0.mk hi
        clear hi
        obtain ⟨gq, hgq⟩ : ∃ g : Nat, g = gk := ⟨_, rfl⟩
        have HGQ := Aside0.mk hgq
        clear hgq
        go_wp2_with (first | (at_builtin; refine buf_append_str (w0 := w) w.heap.size rfl (.tmp 47) _ 22 9 rfl Tryd.underlying22 Tryd.underlying9 info5 u7 xs ⟨#[88, 45, 65, 58, 32]⟩ rfl rfl (by decide) HV.out ?aB ?aS ?aL ?_; (case aB => exact (by repeat (first | (with_reducible first | exact HB.out | apply below_alloc | apply pw_below_drewN | apply below_drew1) | exact HB.out))); (case aS => exact below_size (by repeat (first | (with_reducible first | exact HB.out | apply below_alloc | apply pw_below_drewN | apply below_drew1) | exact HB.out))); (case aL => have h1 := HI.out; have h2 := R.out; have h3 : (⟨#[88, 45, 65, 58, 32]⟩ : ByteArray).size = 5 := rfl; first | omega | (have h4 := HO.out; omega)); intro v1 w1 ho hb; obtain ⟨ys, hy, hyl, hyb⟩ := app_str HI.out.2.2.2.2 ⟨#[88, 45, 65, 58, 32]⟩ 5 rfl; rw [← hy] at ho; have HV2 := Aside0.mk ho; have HL2 := Aside0.mk hyl; have HY2 := Aside0.mk hyb; clear HB; have HB := Aside0.mk hb; clear ho hb hy hyl hyb))
        go_loopg [7, 9] a1.toNat (fun kr v7 v9 w' => ∃ (k : Int) (zs : List Int), v9 = .int .i64 k ∧ Aside0 (0 ≤ k ∧ k ≤ a1 ∧ (kr : Int) = a1 - k ∧ (zs.length : Int) ≤ 22 + i * 300 + k ∧ Byt zs) ∧ Aside0 (w'.ownsRow w.heap.size 5 1 v7 zs.length (nums .u8 zs)) ∧ Aside0 (Below w.heap.size w w'))
        case atStart => exact ⟨0, ys, rfl, ⟨by have := R.out; have h2 := HI.out; have h3 := HL2.out; exact ⟨by omega, by omega, by omega, by omega, HY2.out⟩⟩, HV2, HB⟩
        case round =>
          clear HB HV HV2 HL2 HY2 hc
          have HO := HI
          clear HI
          obtain ⟨k, xs, rfl, HI, HV, HB⟩ := hrel
          by_cases hk : k < a1
          · have hc : decide (k < a1) = true := decide_eq_true hk
            have HK := Aside0.mk hk
            clear hk
            go_wp2_with (first | ((with_reducible refine gate_builtin (b := .append) (xs := #[.tmp 54, .tmp 55]) rfl ?_); at_builtin; refine print_append_num (w0 := w) w.heap.size rfl (.tmp 54) (.tmp 55) 22 5 .u8 1 rfl Tryd.underlying22 info5 (by decide) u7 xs 118 rfl rfl HV.out ?aB ?aS ?aL ?_; (case aB => exact (by repeat (first | (with_reducible first | exact HB.out | apply below_alloc | apply pw_below_drewN | apply below_drew1) | exact HB.out))); (case aS => exact below_size (by repeat (first | (with_reducible first | exact HB.out | apply below_alloc | apply pw_below_drewN | apply below_drew1) | exact HB.out))); (case aL => have h1 := HI.out; have h2 := R.out; first | omega | (have h4 := HO.out; omega)); intro v1 w1 ho hb hg hat; obtain ⟨ys, hy, hyl, hyb⟩ := app_one HI.out.2.2.2.2 118 (by decide); rw [← hy] at ho; have HV2 := Aside0.mk ho; have HL2 := Aside0.mk hyl; have HY2 := Aside0.mk hyb; clear HB; have HB := Aside0.mk hb; clear ho hb hg hat hy hyl hyb))
            go_roundg (gk - 1)
            case measure => have := HI.out; have := HK.out; omega
            case rel => exact ⟨k + 1, ys, by rw [wrap64_inc k (by have := HI.out; omega) (by have := HI.out; have := R.out; omega)], ⟨by have h1 := HI.out; have h2 := HK.out; have h3 := HL2.out; have h4 := HY2.out; exact ⟨by omega, by omega, by omega, by omega, h4⟩⟩, HV2, HB⟩
          · have hc : decide (k < a1) = false := decide_eq_false hk
            clear hk
            go_wp2_with (first | (at_builtin; refine print_append_str (w0 := w) w.heap.size rfl (.tmp 57) _ 22 9 5 rfl Tryd.underlying22 Tryd.underlying9 info5 u7 xs ⟨#[13, 10]⟩ rfl rfl HV.out ?aB ?aS ?aL ?_; (case aB => exact (by repeat (first | (with_reducible first | exact HB.out | apply below_alloc | apply pw_below_drewN | apply below_drew1) | exact HB.out))); (case aS => exact below_size (by repeat (first | (with_reducible first | exact HB.out | apply below_alloc | apply pw_below_drewN | apply below_drew1) | exact HB.out))); (case aL => have h1 := HI.out; have h2 := R.out; have h3 : (⟨#[13, 10]⟩ : ByteArray).size = 2 := rfl; first | omega | (have h4 := HO.out; omega)); intro v1 w1 ho hb hg; obtain ⟨ys, hy, hyl, hyb⟩ := app_str HI.out.2.2.2.2 ⟨#[13, 10]⟩ 2 rfl; rw [← hy] at ho; have HV2 := Aside0.mk ho; have HL2 := Aside0.mk hyl; have HY2 := Aside0.mk hyb; clear HB; have HB := Aside0.mk hb; clear ho hb hy hyl hyb hg))
            go_roundg (gq - 1)
            case measure => have := HO.out; have := HJ.out; have := HGQ.out; omega
            case rel => have h7 := HGQ.out; exact ⟨i + 1, ys, by rw [wrap64_inc i (by have := HO.out; omega) (by have := HO.out; have := R.out; omega)], ⟨by have h1 := HI.out; have h2 := HO.out; have h3 := HL2.out; have h4 := HY2.out; have h5 := R.out; have h6 := HJ.out; exact ⟨by omega, by omega, by omega, by omega, h4⟩⟩, ⟨.inl HV2.out⟩, HB⟩
      · have hc : decide (i < a0) = false := decide_eq_false hi
        clear hi
        go_wp2_with (first | (at_builtin; refine buf_append_str (w0 := w) w.heap.size rfl (.tmp 59) _ 22 9 rfl Tryd.underlying22 Tryd.underlying9 info5 u7 xs ⟨#[88, 45, 66, 58]⟩ rfl rfl (by decide) HV.out ?aB ?aS ?aL ?_; (case aB => exact (by repeat (first | (with_reducible first | exact HB.out | apply below_alloc | apply pw_below_drewN | apply below_drew1) | exact HB.out))); (case aS => exact below_size (by repeat (first | (with_reducible first | exact HB.out | apply below_alloc | apply pw_below_drewN | apply below_drew1) | exact HB.out))); (case aL => have h1 := HI.out; have h2 := R.out; have h3 : (⟨#[88, 45, 66, 58]⟩ : ByteArray).size = 4 := rfl; first | omega | (have h4 := HO.out; omega)); intro v1 w1 ho hb; obtain ⟨ys, hy, hyl, hyb⟩ := app_str HI.out.2.2.2.2 ⟨#[88, 45, 66, 58]⟩ 4 rfl; rw [← hy] at ho; have HV2 := Aside0.mk ho; have HL2 := Aside0.mk hyl; have HY2 := Aside0.mk hyb; clear HB; have HB := Aside0.mk hb; clear ho hb hy hyl hyb))
        go_loopg [7, 10] a2.toNat (fun kr v7 v10 w' => ∃ (k : Int) (zs : List Int), v10 = .int .i64 k ∧ Aside0 (0 ≤ k ∧ k ≤ a2 ∧ (kr : Int) = a2 - k ∧ (zs.length : Int) ≤ 30000 + k ∧ Byt zs) ∧ Aside0 (w'.ownsRow w.heap.size 5 1 v7 zs.length (nums .u8 zs)) ∧ Aside0 (Below w.heap.size w w'))
        case atStart => exact ⟨0, ys, rfl, ⟨by have := R.out; have h2 := HI.out; have h3 := HL2.out; exact ⟨by omega, by omega, by omega, by omega, HY2.out⟩⟩, HV2, HB⟩
        case round =>
          clear HB HV HV2 HL2 HY2 hc HI
          obtain ⟨k, xs, rfl, HI, HV, HB⟩ := hrel
          by_cases hk : k < a2
          · have hc : decide (k < a2) = true := decide_eq_true hk
            have HK := Aside0.mk hk
            clear hk
            go_wp2_with (first | ((with_reducible refine gate_builtin (b := .append) (xs := #[.tmp 66, .tmp 67]) rfl ?_); at_builtin; refine print_append_num (w0 := w) w.heap.size rfl (.tmp 66) (.tmp 67) 22 5 .u8 1 rfl Tryd.underlying22 info5 (by decide) u7 xs 32 rfl rfl HV.out ?aB ?aS ?aL ?_; (case aB => exact (by repeat (first | (with_reducible first | exact HB.out | apply below_alloc | apply pw_below_drewN | apply below_drew1) | exact HB.out))); (case aS => exact below_size (by repeat (first | (with_reducible first | exact HB.out | apply below_alloc | apply pw_below_drewN | apply below_drew1) | exact HB.out))); (case aL => have h1 := HI.out; have h2 := R.out; first | omega | (have h4 := HO.out; omega)); intro v1 w1 ho hb hg hat; obtain ⟨ys, hy, hyl, hyb⟩ := app_one HI.out.2.2.2.2 32 (by decide); rw [← hy] at ho; have HV2 := Aside0.mk ho; have HL2 := Aside0.mk hyl; have HY2 := Aside0.mk hyb; clear HB; have HB := Aside0.mk hb; clear ho hb hg hat hy hyl hyb))
            go_roundg (gk - 1)
            case measure => have := HI.out; have := HK.out; omega
            case rel => exact ⟨k + 1, ys, by rw [wrap64_inc k (by have := HI.out; omega) (by have := HI.out; have := R.out; omega)], ⟨by have h1 := HI.out; have h2 := HK.out; have h3 := HL2.out; have h4 := HY2.out; exact ⟨by omega, by omega, by omega, by omega, h4⟩⟩, HV2, HB⟩
          · have hc : decide (k < a2) = false := decide_eq_false hk
            clear hk
            go_upto_region 19 with (first | (at_builtin; refine print_append_str (w0 := w) w.heap.size rfl (.tmp 69) _ 22 9 5 rfl Tryd.underlying22 Tryd.underlying9 info5 u7 xs ⟨#[13, 10, 13, 10, 98, 111, 100, 121]⟩ rfl rfl HV.out ?aB ?aS ?aL ?_; (case aB => exact (by repeat (first | (with_reducible first | exact HB.out | apply below_alloc | apply pw_below_drewN | apply below_drew1) | exact HB.out))); (case aS => exact below_size (by repeat (first | (with_reducible first | exact HB.out | apply below_alloc | apply pw_below_drewN | apply below_drew1) | exact HB.out))); (case aL => have h1 := HI.out; have h2 := R.out; have h3 : (⟨#[13, 10, 13, 10, 98, 111, 100, 121]⟩ : ByteArray).size = 8 := rfl; first | omega | (have h4 := HO.out; omega)); intro v1 w1 ho hb hg; obtain ⟨ys, hy, hyl, hyb⟩ := app_str HI.out.2.2.2.2 ⟨#[13, 10, 13, 10, 98, 111, 100, 121]⟩ 8 rfl; rw [← hy] at ho; have HV2 := Aside0.mk ho; have HL2 := Aside0.mk hyl; have HY2 := Aside0.mk hyb; clear HB; have HB := Aside0.mk hb; clear ho hb hy hyl hyb hg))
            obtain ⟨A0, c0, hv, hc0, hC⟩ := own_C HV2.out
            subst hv
            have HR0 := Aside0.mk hC
            have HC0 := Aside0.mk hc0
            obtain ⟨t1, t2, t3, t4, t5, t6, hp, hq⟩ := HP.out ys HY2.out (by have := HI.out; have := HL2.out; have := R.out; omega)
            have HA := Aside0.mk hp
            have HQ := Aside0.mk hq
            have HG1 := Aside0.mk (Glob.below HG.out HB.out)
            have HB0 := HB
            clear HB
            have HB := Aside0.mk (Below.refl w1.heap.size w1)
            clear hC hc0 hp hq HV2 HL2 HY2 HI hc HP HG HV
            have E1 : (t1 == t1 && (t2 == t2 && (t3 == t3 && (t4 == t4)))) = true := by simp
            have E2 : (t5 == t5) = true := by simp
            have E3 : (t6 == t6) = true := by simp
            go_wp2_with (first | (go_at_call 21; (with_reducible refine (head_Parse.calls A0 c0 ys t1 t2 t3 t4 t5 t6 _ ?side1 ?side2 ?side3 HA.out).mono ?_); (case side1 => exact Kd.C_below HR0.out (by repeat (first | (with_reducible first | exact HB.out | apply below_alloc | apply pw_below_drewN | apply below_drew1) | exact HB.out))); (case side2 => exact HC0.out); (case side3 => exact Glob.below HG1.out (by repeat (first | (with_reducible first | exact HB.out | apply below_alloc | apply pw_below_drewN | apply below_drew1) | exact HB.out))); rintro x w2 ⟨rfl, hb⟩; have n1 := Aside0.mk (below_step (by repeat (first | (with_reducible first | exact HB.out | apply below_alloc | apply pw_below_drewN | apply below_drew1) | exact HB.out)) hb); clear HB hb; have HB := n1; clear n1) | ((with_reducible refine gate_dst (N := 11) rfl ?_); refine box_event ?hg (N := 11) ?hd (cs := #[.int .i64 0, .int .i64 0, .bool false, .bool false]) (t := 29) ?hr ?_; (case hd => rfl); (case hg => rfl); (case hr => first | (go_simp; done) | (go_simp; rfl)); intro gb11 hg w11 hbox hb; have n1 := Aside0.mk (below_step (by repeat (first | (with_reducible first | exact HB.out | apply below_alloc | apply pw_below_drewN | apply below_drew1) | exact HB.out)) hb); have BK11 := Aside0.mk hbox; have GE11 := Aside0.mk ((by rw [hg]; exact below_size (by repeat (first | (with_reducible first | exact HB.out | apply below_alloc | apply pw_below_drewN | apply below_drew1) | exact HB.out))) : w1.heap.size ≤ gb11); clear HB; have HB := n1; clear n1 hb hbox hg; have pc0 : w11.cell? ⟨gb11, 0, none⟩ = some (.int .i64 0) := (blk_cell BK11.out 0).trans rfl; have pc1 : w11.cell? ⟨gb11, 1, none⟩ = some (.int .i64 0) := (blk_cell BK11.out 1).trans rfl; have pc2 : w11.cell? ⟨gb11, 2, none⟩ = some (.bool false) := (blk_cell BK11.out 2).trans rfl; have pc3 : w11.cell? ⟨gb11, 3, none⟩ = some (.bool false) := (blk_cell BK11.out 3).trans rfl; have pf0 := blk_frozen BK11.out 0; have pf1 := blk_frozen BK11.out 1; have pf2 := blk_frozen BK11.out 2; have pf3 := blk_frozen BK11.out 3) | (go_at_call 22; (with_reducible refine (odometerref06_Parse.calls A0 c0 ys t1 t2 t3 t4 t5 t6 _ ?side1 ?side2 HQ.out).mono ?_); (case side1 => exact Kd.C_below HR0.out (by repeat (first | (with_reducible first | exact HB.out | apply below_alloc | apply pw_below_drewN | apply below_drew1 | refine below_set ?_ GE11.out) | exact HB.out))); (case side2 => exact HC0.out); rintro x w4 ⟨rfl, hb⟩; have n1 := Aside0.mk (blk_below (g := gb11) (o := .cells #[.int .i64 t1, .int .i64 t2, .bool t3, .bool t4] 29 (0, 0)) (by (with_reducible repeat (first | refine blk_drewN ?_ _ | refine blk_drew ?_ | refine blk_alloc ?_ _)); refine blk_put (cs := #[.int .i64 t1, .int .i64 t2, .bool t3, .bool false]) ?_ 3 _ rfl; (with_reducible repeat (first | refine blk_drewN ?_ _ | refine blk_drew ?_ | refine blk_alloc ?_ _)); refine blk_put (cs := #[.int .i64 t1, .int .i64 t2, .bool false, .bool false]) ?_ 2 _ rfl; (with_reducible repeat (first | refine blk_drewN ?_ _ | refine blk_drew ?_ | refine blk_alloc ?_ _)); refine blk_put (cs := #[.int .i64 t1, .int .i64 0, .bool false, .bool false]) ?_ 1 _ rfl; (with_reducible repeat (first | refine blk_drewN ?_ _ | refine blk_drew ?_ | refine blk_alloc ?_ _)); refine blk_put (cs := #[.int .i64 0, .int .i64 0, .bool false, .bool false]) ?_ 0 _ rfl; (with_reducible repeat (first | refine blk_drewN ?_ _ | refine blk_drew ?_ | refine blk_alloc ?_ _)); exact BK11.out) hb); have n2 := Aside0.mk (below_step (by repeat (first | (with_reducible first | exact HB.out | apply below_alloc | apply pw_below_drewN | apply below_drew1 | refine below_set ?_ GE11.out) | exact HB.out)) hb); clear HB BK11 hb; have HB := n2; have BK11 := n1; clear n1 n2) | ((with_reducible refine gate_dst (N := 14) rfl ?_); refine box_event ?hg (N := 14) ?hd (cs := #[.int .i64 0, .int .i64 0, .bool false, .bool false]) (t := 29) ?hr ?_; (case hd => rfl); (case hg => rfl); (case hr => first | (go_simp; done) | (go_simp; rfl)); intro gb14 hg w14 hbox hb; have n1 := Aside0.mk (blk_below (g := gb11) (o := .cells #[.int .i64 t1, .int .i64 t2, .bool t3, .bool t4] 29 (0, 0)) (by (with_reducible repeat (first | refine blk_drewN ?_ _ | refine blk_drew ?_ | refine blk_alloc ?_ _)); exact BK11.out) hb); have n2 := Aside0.mk (below_step (by repeat (first | (with_reducible first | exact HB.out | apply below_alloc | apply pw_below_drewN | apply below_drew1 | refine below_set ?_ GE11.out) | exact HB.out)) hb); have BK14 := Aside0.mk hbox; have GE14 := Aside0.mk ((by rw [hg]; exact below_size (by repeat (first | (with_reducible first | exact HB.out | apply below_alloc | apply pw_below_drewN | apply below_drew1 | refine below_set ?_ GE11.out) | exact HB.out))) : w1.heap.size ≤ gb14); have hnb := (by rw [hg]; exact Nat.ne_of_lt (blk_lt (g := gb11) (o := .cells #[.int .i64 t1, .int .i64 t2, .bool t3, .bool t4] 29 (0, 0)) (by (with_reducible repeat (first | refine blk_drewN ?_ _ | refine blk_drew ?_ | refine blk_alloc ?_ _)); exact BK11.out)) : gb11 ≠ gb14); have hnc := hnb.symm; clear HB BK11; have HB := n2; have BK11 := n1; clear n1 n2 hb hbox hg; have qc0 : w14.cell? ⟨gb14, 0, none⟩ = some (.int .i64 0) := (blk_cell BK14.out 0).trans rfl; have qc1 : w14.cell? ⟨gb14, 1, none⟩ = some (.int .i64 0) := (blk_cell BK14.out 1).trans rfl; have qc2 : w14.cell? ⟨gb14, 2, none⟩ = some (.bool false) := (blk_cell BK14.out 2).trans rfl; have qc3 : w14.cell? ⟨gb14, 3, none⟩ = some (.bool false) := (blk_cell BK14.out 3).trans rfl; have qf0 := blk_frozen BK14.out 0; have qf1 := blk_frozen BK14.out 1; have qf2 := blk_frozen BK14.out 2; have qf3 := blk_frozen BK14.out 3; have rc0 : w14.cell? ⟨gb11, 0, none⟩ = some (.int .i64 t1) := (blk_cell BK11.out 0).trans rfl; have rc1 : w14.cell? ⟨gb11, 1, none⟩ = some (.int .i64 t2) := (blk_cell BK11.out 1).trans rfl; have rc2 : w14.cell? ⟨gb11, 2, none⟩ = some (.bool t3) := (blk_cell BK11.out 2).trans rfl; have rc3 : w14.cell? ⟨gb11, 3, none⟩ = some (.bool t4) := (blk_cell BK11.out 3).trans rfl; have rf0 := blk_frozen BK11.out 0; have rf1 := blk_frozen BK11.out 1; have rf2 := blk_frozen BK11.out 2; have rf3 := blk_frozen BK11.out 3) | (go_at_call 20; (with_reducible refine (odometerlaw06_known.calls true _ (Glob.below HG1.out (by repeat (first | (with_reducible first | exact HB.out | apply below_alloc | apply pw_below_drewN | apply below_drew1 | refine below_set ?_ GE11.out | refine below_set ?_ GE14.out) | exact HB.out))) HKN.out).mono ?_); rintro x w6 ⟨rfl, hb⟩; have n1 := Aside0.mk (below_step (by repeat (first | (with_reducible first | exact HB.out | apply below_alloc | apply pw_below_drewN | apply below_drew1 | refine below_set ?_ GE11.out | refine below_set ?_ GE14.out) | exact HB.out)) hb); clear HB hb; have HB := n1; clear n1))
            go_ret
            exact ⟨rfl, below_step HB0.out (by repeat (first | (with_reducible first | exact HB.out | apply below_alloc | apply pw_below_drewN | apply below_drew1 | refine below_set ?_ GE11.out | refine below_set ?_ GE14.out) | exact HB.out))⟩
theorem odometerlaw06_HeadLarge.walk (P : odometerlaw06_HeadLarge.Pure) (a0 a1 a2 : Int) (w : World) (w0 : (Lit.int .i64 a0).wf = true) (w1 : (Lit.int .i64 a1).wf = true) (w2 : (Lit.int .i64 a2).wf = true) (hG : Glob w) :
    Calls Tryd.prog 8 #[.int .i64 a0, .int .i64 a1, .int .i64 a2] w fun e w' => e = .returned (.bool true) ∧ Below w.heap.size w w' := odometerlaw06_HeadLarge.calls P a0 a1 a2 w hG
end Go.Proofs.YtfpcoanlkfgagaaDoor.PB
