/- script.line: an entry's line. -/
import Derived.Test.YtjapnbghnnbamaaGreatDoorK
import Derived.Lib.AppendIntMem
import Derived.Lib.ItoaLen
import Derived.Test.YtjapnbghnnbamaaGreatDoorWTab
namespace Go.Proofs.YtjapnbghnnbamaaGreatDoor.L
open Go.RowKit Go.Proofs.YtjapnbghnnbamaaGreatDoorW.PrintWords Go.Proofs.YtjapnbghnnbamaaGreatDoorW.PrintLast Go.Proofs.YtjapnbghnnbamaaGreatDoor.Ext Go.Proofs.YtjapnbghnnbamaaGreatDoor.Q Go.Proofs.YtjapnbghnnbamaaGreatDoor.S Go.Proofs.YtjapnbghnnbamaaGreatDoor.K Go.Maps
open Go.Proofs.YtjapnbghnnbamaaGreatDoor.Plain (quote)
set_option linter.unusedVariables false
set_option linter.unusedSimpArgs false
/-- A text of bytes. -/
abbrev ba (l : List UInt8) : ByteArray := ⟨l.toArray⟩
/-- An entry's line. -/
def lineL (e : En) : List UInt8 :=
  (kn e.k).data.toList ++ 32 :: (if e.k = 1 then Lib.itoa e.n else if e.k = 7 then (if e.n = 0 then [110, 111] else [121, 101, 115]) else if e.k = 6 then Lib.itoa e.a ++ 32 :: quote e.b else Lib.itoa e.a)
/-- May an entry be? -/
def MayE (e : En) : Prop :=
  1 ≤ e.k ∧ e.k ≤ 7 ∧ 0 ≤ e.a ∧ e.a ≤ 2147483647 ∧ (e.k = 1 → e.a = 0 ∧ 0 ≤ e.n ∧ e.n ≤ 1125899906842624 ∧ e.b = []) ∧ (e.k = 7 → e.a = 0 ∧ (e.n = 0 ∨ e.n = 1) ∧ e.b = []) ∧ (e.k = 6 → e.n = 0 ∧ e.b.length ≤ 65536) ∧ (e.k ≠ 1 → e.k ≠ 7 → e.k ≠ 6 → e.n = 0 ∧ e.b = [])
theorem fmt_10 (n : Int) (h0 : -9223372036854775808 ≤ n) (h1 : n ≤ 9223372036854775807) (w : World) (hG : Glob w) :
    Calls Tryz.prog 40 #[.int .i64 n, .int .i64 10] w fun e w' => e = .returned (.string (ba (Lib.itoa n))) ∧ Below w.heap.size w w' :=
  (Tryz.strconv_FormatInt_10 n h0 h1 w hG.pow).mono fun e w' ⟨h, k, os, hw⟩ => ⟨h, hw ▸ Lib.below_grow _ _ (Nat.le_refl _) k os⟩
theorem itoa_10 (n : Int) (h0 : -9223372036854775808 ≤ n) (h1 : n ≤ 9223372036854775807) (w : World) (hG : Glob w) :
    Calls Tryz.prog 41 #[.int .i64 n] w fun e w' => e = .returned (.string (ba (Lib.itoa n))) ∧ Below w.heap.size w w' :=
  (Tryz.strconv_Itoa n h0 h1 w hG.pow).mono fun e w' ⟨h, k, os, hw⟩ => ⟨h, hw ▸ Lib.below_grow _ _ (Nat.le_refl _) k os⟩
theorem inv_str : ∀ key z, keyOf Tryz.prog 9 key = some z → ∃ x : ByteArray, key = .string x := fun key z h => by
  cases key <;> simp [keyOf, Tryz.underlying9, mapKey] at h
  exact ⟨_, rfl⟩
theorem inv_int : ∀ v y, RK v = some y → ∃ c : Int, v = .int .i64 c := fun v y h => by
  obtain ⟨c, rfl, _⟩ := plainElem_int_inv Tryz.underlying32 h
  exact ⟨c, rfl⟩
theorem elem_val {c : Int} {y : DataW Unit × List MemPlace} (h : RK (.int .i64 c) = some y) : y.1 = .lit (.int .i64 c) := by
  obtain ⟨a, e, rfl, _⟩ := plainElem_int_inv Tryz.underlying32 h
  cases e
  rfl
theorem ba_size (l : List UInt8) : (ba l).size = l.length := by simp [ba, ByteArray.size]
theorem kn_size (k : Int) : (kn k).size ≤ 7 := by
  unfold kn; repeat' split
  all_goals decide
theorem cat1 (k : ByteArray) (l : List UInt8) : k ++ (⟨#[32]⟩ : ByteArray) ++ ba l = ba (k.data.toList ++ 32 :: l) := ByteArray.ext (Array.toList_inj.1 (by simp))
theorem cat2 (k : ByteArray) (l m : List UInt8) : k ++ (⟨#[32]⟩ : ByteArray) ++ ba l ++ (⟨#[32]⟩ : ByteArray) ++ ba m = ba (k.data.toList ++ 32 :: (l ++ 32 :: m)) := ByteArray.ext (Array.toList_inj.1 (by simp))
theorem quote_len (b : List UInt8) : (quote b).length ≤ 4 * b.length + 2 := by
  have := acc_len b b.length
  rw [← acc_end, List.length_append]
  simp only [List.length_cons, List.length_nil]
  omega
theorem may_n {k a n : Int} {b : List UInt8} (h : MayE ⟨k, a, n, b⟩) : -9223372036854775808 ≤ n ∧ n ≤ 9223372036854775807 ∨ k ≠ 1 := by
  by_cases e : k = 1
  · have := h.2.2.2.2.1 e
    simp only at this
    exact .inl ⟨by omega, by omega⟩
  · exact .inr e
set_option maxHeartbeats 16000000 in
set_option maxRecDepth 100000 in
theorem line_calls (e : En) (v : Value) (w : World) (hG : Glob w) (hm : MayE e) (hv : Byt w v e.b) :
    Calls Tryz.prog 21 #[e.val v] w fun x w' => x = .returned (.string (ba (lineL e))) ∧ Below w.heap.size w w' := by
  obtain ⟨k, a, n, b⟩ := e
  obtain ⟨A, c, rfl, hc, hr⟩ := hv
  simp only at hc hr
  have HC := Aside0.mk hc
  have HRD := Aside0.mk hr
  have HG := Aside0.mk hG
  have HM := Aside0.mk hm
  have HK := Aside0.mk (kinds_calls)
  clear hG hm hc hr
  unfold En.val
  simp only
  go_enter Tryz.func21, Tryz.ntmps21
  go_upto_region 1 with (fail)
  obtain ⟨W0, hW0⟩ : ∃ W0, W0 = w.alloc (Obj.cells #[.int .i64 k, .int .i64 a, .int .i64 n, .slice A b.length c] 35) := ⟨_, rfl⟩
  obtain ⟨g, hg⟩ : ∃ g, g = w.heap.size := ⟨_, rfl⟩
  have HL := Aside0.mk (show W0.heap[g]? = some (.cells #[.int .i64 k, .int .i64 a, .int .i64 n, .slice A b.length c] 35 (0, 0)) from by rw [hW0, hg]; exact blk_new w _)
  have HB0 := Aside0.mk (show Below w.heap.size w W0 from by rw [hW0]; exact below_alloc (Below.refl _ _) _)
  rw [← hW0, ← hg]
  have HGG := Aside0.mk hg
  clear hW0 hg
  go_wp2_with (first | (go_at_call 28; (with_reducible refine (HK.out _).mono ?_); rintro e w1 ⟨rfl, ho, hb⟩; have HO := Aside0.mk ho; have HB := Aside0.mk hb; clear ho hb) | (at_range; refine wpList_range_own _ rfl _ 64 rfl 9 32 law Tryz.underlying64 RK _ 7 kindsD rfl HO.out ?_; intro w2 hrg hg2 hs2; have HR := Aside0.mk hrg; have HB2 := Aside0.mk (show Below W0.heap.size W0 w2 from HB.out.grown hg2 HB.out.size (fun j hj => by cases hj)); clear hrg hg2 hs2; go_frame))
  have HK17 := Aside0.mk (show 1 ≤ k ∧ k ≤ 7 from ⟨HM.out.1, HM.out.2.1⟩)
  obtain ⟨r, hr⟩ : ∃ r, r = w1.heap.size := ⟨_, rfl⟩
  have HRS := Aside0.mk (show W0.heap.size ≤ r from by rw [hr]; exact HB.out.size)
  rw [← hr] at HR ⊢
  clear hr HO HB HK
  go_loopg [3] (Maps.size kindsD) (fun kq v3 w' => ∃ left : Lit → Bool, v3 = wordV k left ∧ Aside0 (w'.ranges Tryz.prog 9 RK W0.heap.size r 7 kindsD left kq) ∧ Aside0 (Below W0.heap.size W0 w'))
  case atStart => exact ⟨Maps.has kindsD, by unfold wordV; rw [has_kn HK17.out]; rfl, HR, HB2⟩
  case round =>
    clear HR HB2
    obtain ⟨left, rfl, HR, HB⟩ := hrel
    go_wp2_with (first | (at_next; refine wpList_next_ranges _ rfl _ rfl 9 law RK Value.string (Value.int .i64) inv_str inv_int W0.heap.size r 7 kindsD left gk rfl HR.out ?_ ?_))
    · intro hc0 hl
      have hw : wordV k left = .string (kn k) := by unfold wordV; rw [hl]; rfl
      rw [hw]
      clear hw hl hc0
      obtain ⟨kw, hkw⟩ : ∃ kw, kw = kn k := ⟨_, rfl⟩
      rw [← hkw]
      have HKW := Aside0.mk hkw
      have hz0 : kw.size ≤ 7 := by rw [hkw]; exact kn_size k
      have hz1 : kw.size + 1 < 9223372036854775808 := by omega
      have hz1f : (9223372036854775807 < kw.size + 1) = False := eq_false (by omega)
      clear hkw
      have hlt : g < W0.heap.size := blk_lt HL.out
      have HLR := Aside0.mk ((HB.out.block g hlt).trans HL.out)
      have c0 : wr.cell? ⟨g, 0, none⟩ = some (.int .i64 k) := (blk_cell HLR.out 0).trans rfl
      have c1 : wr.cell? ⟨g, 1, none⟩ = some (.int .i64 a) := (blk_cell HLR.out 1).trans rfl
      have c2 : wr.cell? ⟨g, 2, none⟩ = some (.int .i64 n) := (blk_cell HLR.out 2).trans rfl
      have c3 : wr.cell? ⟨g, 3, none⟩ = some (.slice A b.length c) := (blk_cell HLR.out 3).trans rfl
      have HBW := Aside0.mk (show Below w.heap.size w wr from HB0.out.trans (HB.out.mono HB0.out.size))
      have HGW := Aside0.mk (HG.out.below HBW.out)
      have HNB := Aside0.mk (show -9223372036854775808 ≤ n ∧ n ≤ 9223372036854775807 ∨ k ≠ 1 from may_n HM.out)
      have HAB := Aside0.mk (show -9223372036854775808 ≤ a ∧ a ≤ 9223372036854775807 from ⟨by have := HM.out.2.2.1; simp only at this; omega, by have := HM.out.2.2.2.1; simp only at this; omega⟩)
      have HRW := Aside0.mk (HRD.out.below HBW.out)
      clear hlt
      by_cases e1 : k = 1
      · subst e1
        have hn := HNB.out.resolve_right (fun h => h rfl)
        have HF := Aside0.mk (fmt_10 n hn.1 hn.2 wr HGW.out)
        obtain ⟨D, hD⟩ : ∃ D, D = ba (Lib.itoa n) := ⟨_, rfl⟩
        have hz2 : kw.size + 1 + D.size < 9223372036854775808 := by have h2 := Lib.itoa_length_le n hn.1 hn.2; have h3 := ba_size (Lib.itoa n); rw [hD]; omega
        have hz2f : (9223372036854775807 < kw.size + 1 + D.size) = False := eq_false (by omega)
        have HZ := Aside0.mk (show kw ++ (⟨#[32]⟩ : ByteArray) ++ D = ba (lineL ⟨1, a, n, b⟩) from by rw [hD, HKW.out]; unfold lineL; exact cat1 _ _)
        rw [← hD] at HF
        clear hD hn
        go_wp2_with (first | (go_at_call 40; (with_reducible refine HF.out.mono ?_); rintro e w4 ⟨rfl, hb⟩; have HB4 := Aside0.mk hb; clear hb))
        go_ret
        exact ⟨by first | (rw [← HZ.out]; done) | (rw [← HZ.out]; rfl), HBW.out.trans (HB4.out.mono HBW.out.size)⟩
      · have n1 : (k == 1) = false := beq_eq_false_iff_ne.mpr e1
        by_cases e7 : k = 7
        · subst e7
          rcases (HM.out.2.2.2.2.2.1 rfl).2.1 with hn | hn
          · simp only at hn
            subst hn
            have hz2 : kw.size + 1 + 2 < 9223372036854775808 := by omega
            have hz2f : (9223372036854775807 < kw.size + 1 + 2) = False := eq_false (by omega)
            have HZ := Aside0.mk (show kw ++ (⟨#[32]⟩ : ByteArray) ++ (⟨#[110, 111]⟩ : ByteArray) = ba (lineL ⟨7, a, 0, b⟩) from by rw [HKW.out]; unfold lineL; exact cat1 _ _)
            have hgw : g < wr.heap.size := blk_lt HLR.out
            clear e1
            go_wp2
            go_ret
            exact ⟨by first | (rw [← HZ.out]; done) | (rw [← HZ.out]; rfl), HBW.out.trans (below_alloc (Below.refl _ _) _ |>.mono HBW.out.size)⟩
          · simp only at hn
            subst hn
            have hz2 : kw.size + 1 + 3 < 9223372036854775808 := by omega
            have hz2f : (9223372036854775807 < kw.size + 1 + 3) = False := eq_false (by omega)
            have HZ := Aside0.mk (show kw ++ (⟨#[32]⟩ : ByteArray) ++ (⟨#[121, 101, 115]⟩ : ByteArray) = ba (lineL ⟨7, a, 1, b⟩) from by rw [HKW.out]; unfold lineL; exact cat1 _ _)
            have hgw : g < wr.heap.size := blk_lt HLR.out
            clear e1
            go_wp2
            go_ret
            exact ⟨by first | (rw [← HZ.out]; done) | (rw [← HZ.out]; rfl), HBW.out.trans (below_alloc (Below.refl _ _) _ |>.mono HBW.out.size)⟩
        · have n7 : (k == 7) = false := beq_eq_false_iff_ne.mpr e7
          have HF := Aside0.mk (fun (W : World) (hW : Below wr.heap.size wr W) => itoa_10 a HAB.out.1 HAB.out.2 W (HGW.out.below hW))
          obtain ⟨D, hD⟩ : ∃ D, D = ba (Lib.itoa a) := ⟨_, rfl⟩
          have hzd : D.size ≤ 21 := by have h2 := Lib.itoa_length_le a HAB.out.1 HAB.out.2; have h3 := ba_size (Lib.itoa a); rw [hD]; omega
          have hz2 : kw.size + 1 + D.size < 9223372036854775808 := by omega
          have hz2f : (9223372036854775807 < kw.size + 1 + D.size) = False := eq_false (by omega)
          by_cases e6 : k = 6
          · subst e6
            have HBL := Aside0.mk ((HM.out.2.2.2.2.2.2.1 rfl).2)
            simp only at HBL
            have hz3 : kw.size + 1 + D.size + 1 < 9223372036854775808 := by omega
            have hz3f : (9223372036854775807 < kw.size + 1 + D.size + 1) = False := eq_false (by omega)
            obtain ⟨Q, hQ⟩ : ∃ Q, Q = ba (quote b) := ⟨_, rfl⟩
            have hz4 : kw.size + 1 + D.size + 1 + Q.size < 9223372036854775808 := by have h2 := quote_len b; have h4 := HBL.out; have h5 := ba_size (quote b); rw [hQ]; omega
            have hz4f : (9223372036854775807 < kw.size + 1 + D.size + 1 + Q.size) = False := eq_false (by omega)
            have HZ := Aside0.mk (show kw ++ (⟨#[32]⟩ : ByteArray) ++ D ++ (⟨#[32]⟩ : ByteArray) ++ Q = ba (lineL ⟨6, a, n, b⟩) from by rw [hQ, hD, HKW.out]; unfold lineL; exact cat2 _ _ _)
            have HQ := Aside0.mk (fun (W : World) (hW : Below wr.heap.size wr W) => show Calls Tryz.prog 42 #[.slice A b.length c] W fun e w' => e = .returned (.string Q) ∧ Below W.heap.size W w' from hQ ▸ quote_calls A c b W (HRW.out.below hW) HC.out (by have := HBL.out; omega) (HGW.out.below hW).t15)
            rw [← hD] at HF
            clear hD hQ hzd e1 e7
            go_upto_region 13 with (fail)
            refine start_ (n := 12) (S := fun w' => Below wr.heap.size wr w') (ds := []) #[false, false, false, false, false, false, false, false, false, false, false, false] (by kernel_rfl) rfl rfl (below_drew1 (Below.refl _ _)) (fun hHeld => ?_)
            have hS0 := Aside0.mk (show Below wr.heap.size wr wr.drew from below_drew1 (Below.refl _ _))
            refine pure_ (i := 0) (N := some 40) (v := ?_) (a' := ?_) #[true, false, false, false, false, false, false, false, false, false, false, false] rfl rfl (by kernel_rfl) (fun _ _ _ h => h) (Or.inl ⟨by rfl, ?_⟩) ?_ ?_
            rotate_left
            · intro w'
              go_simp
              with_reducible rfl
            rotate_left
            · simp only [Act.put, List.setIfInBounds_toArray, List.set_cons_zero, List.set_cons_succ, i64_w, i32_w]
              rfl
            refine pure_ (i := 1) (N := some 41) (v := ?_) (a' := ?_) #[true, true, false, false, false, false, false, false, false, false, false, false] rfl rfl (by kernel_rfl) (fun _ _ _ h => h) (Or.inl ⟨by rfl, ?_⟩) ?_ ?_
            rotate_left
            · intro w'
              go_simp
              with_reducible rfl
            rotate_left
            · simp only [Act.put, List.setIfInBounds_toArray, List.set_cons_zero, List.set_cons_succ, i64_w, i32_w]
              rfl
            refine pure_ (i := 2) (N := some 42) (v := ?_) (a' := ?_) #[true, true, true, false, false, false, false, false, false, false, false, false] rfl rfl (by kernel_rfl) (fun _ _ _ h => h) (Or.inl ⟨by rfl, ?_⟩) ?_ ?_
            rotate_left
            · intro w'
              go_simp
              with_reducible rfl
            rotate_left
            · simp only [Act.put, List.setIfInBounds_toArray, List.set_cons_zero, List.set_cons_succ, i64_w, i32_w]
              rfl
            refine pure_ (i := 7) (N := some 47) (v := ?_) (a' := ?_) #[true, true, true, false, false, false, false, true, false, false, false, false] rfl rfl (by kernel_rfl) (fun _ _ _ h => h) (Or.inl ⟨by rfl, ?_⟩) ?_ ?_
            rotate_left
            · intro w'
              go_simp
              with_reducible rfl
            rotate_left
            · simp only [Act.put, List.setIfInBounds_toArray, List.set_cons_zero, List.set_cons_succ, i64_w, i32_w]
              rfl
            refine take_ (i := 3) (N := some 43) (v := ?_) (a' := ?_) #[true, true, true, true, false, false, false, true, false, false, false, false] rfl rfl (by kernel_rfl) (fun _ _ _ h => h) (Or.inl ⟨by rfl, ?_⟩) hHeld ?_ ?_
            rotate_left
            · intro w' hS'
              have c1' := pw_cell_below hS' c1
              go_simp
              with_reducible rfl
            rotate_left
            · simp only [Act.put, List.setIfInBounds_toArray, List.set_cons_zero, List.set_cons_succ, i64_w, i32_w]
              rfl
            refine take_ (i := 8) (N := some 48) (v := ?_) (a' := ?_) #[true, true, true, true, false, false, false, true, true, false, false, false] rfl rfl (by kernel_rfl) (fun _ _ _ h => h) (Or.inl ⟨by rfl, ?_⟩) hHeld ?_ ?_
            rotate_left
            · intro w' hS'
              have c3' := pw_cell_below hS' c3
              go_simp
              with_reducible rfl
            rotate_left
            · simp only [Act.put, List.setIfInBounds_toArray, List.set_cons_zero, List.set_cons_succ, i64_w, i32_w]
              rfl
            refine one_ (i := 4) (N := some 44) #[true, true, true, true, true, false, false, true, true, false, false, false] rfl rfl (by kernel_rfl) (by decide) (fun K hK => ?_)
            refine goes_ Tryz.func41 (by kernel_rfl) rfl #[.int .i64 a] (by rfl) rfl rfl (by simp [Act.eval]) ?_
            refine (HF.out _ hS0.out).mono ?_
            rintro e x4 ⟨rfl, hb⟩
            refine ⟨_, rfl, ?_⟩
            have hSa := Aside0.mk (hS0.out.trans (hb.mono hS0.out.size))
            refine hK.out _ _ hSa.out (fun hHeld => ?_)
            clear hK K
            refine norm_ (a' := ?_) ?_ ?_
            rotate_left
            · show Act.put _ (some 44) _ = _
              simp only [Act.put, List.setIfInBounds_toArray, List.set_cons_zero, List.set_cons_succ, i64_w, i32_w]
              rfl
            refine pure_ (i := 5) (N := some 45) (v := ?_) (a' := ?_) #[true, true, true, true, true, true, false, true, true, false, false, false] rfl rfl (by kernel_rfl) (fun _ _ _ h => h) (Or.inl ⟨by rfl, ?_⟩) ?_ ?_
            rotate_left
            · intro w'
              go_simp
              with_reducible rfl
            rotate_left
            · simp only [Act.put, List.setIfInBounds_toArray, List.set_cons_zero, List.set_cons_succ, i64_w, i32_w]
              rfl
            refine pure_ (i := 6) (N := some 46) (v := ?_) (a' := ?_) #[true, true, true, true, true, true, true, true, true, false, false, false] rfl rfl (by kernel_rfl) (fun _ _ _ h => h) (Or.inl ⟨by rfl, ?_⟩) ?_ ?_
            rotate_left
            · intro w'
              go_simp
              with_reducible rfl
            rotate_left
            · simp only [Act.put, List.setIfInBounds_toArray, List.set_cons_zero, List.set_cons_succ, i64_w, i32_w]
              rfl
            refine one_ (i := 9) (N := some 49) #[true, true, true, true, true, true, true, true, true, true, false, false] rfl rfl (by kernel_rfl) (by decide) (fun K hK => ?_)
            refine goes_ Tryz.func42 (by kernel_rfl) rfl #[.slice A b.length c] (by rfl) rfl rfl (by simp [Act.eval]) ?_
            refine (HQ.out _ hSa.out).mono ?_
            rintro e x9 ⟨rfl, hb⟩
            refine ⟨_, rfl, ?_⟩
            have hSb := Aside0.mk (hSa.out.trans (hb.mono hSa.out.size))
            refine hK.out _ _ hSb.out (fun hHeld => ?_)
            clear hK K
            refine norm_ (a' := ?_) ?_ ?_
            rotate_left
            · show Act.put _ (some 49) _ = _
              simp only [Act.put, List.setIfInBounds_toArray, List.set_cons_zero, List.set_cons_succ, i64_w, i32_w]
              rfl
            refine pure_ (i := 10) (N := some 50) (v := ?_) (a' := ?_) #[true, true, true, true, true, true, true, true, true, true, true, false] rfl rfl (by kernel_rfl) (fun _ _ _ h => h) (Or.inl ⟨by rfl, ?_⟩) ?_ ?_
            rotate_left
            · intro w'
              go_simp
              with_reducible rfl
            rotate_left
            · simp only [Act.put, List.setIfInBounds_toArray, List.set_cons_zero, List.set_cons_succ, i64_w, i32_w]
              rfl
            refine pure_ (i := 11) (N := some 2) (v := ?_) (a' := ?_) #[true, true, true, true, true, true, true, true, true, true, true, true] rfl rfl (by kernel_rfl) (fun _ _ _ h => h) (Or.inl ⟨by rfl, ?_⟩) ?_ ?_
            rotate_left
            · intro w'
              go_simp
              with_reducible rfl
            rotate_left
            · simp only [Act.put, List.setIfInBounds_toArray, List.set_cons_zero, List.set_cons_succ, i64_w, i32_w]
              rfl
            refine done_ (by kernel_rfl) ?_
            go_wp2
            go_ret
            exact ⟨by first | (rw [← HZ.out]; done) | (rw [← HZ.out]; rfl), HBW.out.trans (hSb.out.mono HBW.out.size)⟩
          · have n6 : (k == 6) = false := beq_eq_false_iff_ne.mpr e6
            have HZ := Aside0.mk (show kw ++ (⟨#[32]⟩ : ByteArray) ++ D = ba (lineL ⟨k, a, n, b⟩) from by rw [hD, HKW.out]; unfold lineL; simp only [if_neg e1, if_neg e7, if_neg e6]; exact cat1 _ _)
            rw [← hD] at HF
            clear hD hzd e1 e7 e6
            go_wp2_with (first | (go_at_call 41; (with_reducible refine (HF.out _ (Below.refl _ _)).mono ?_); rintro e w4 ⟨rfl, hb⟩; have HB4 := Aside0.mk hb; clear hb))
            go_ret
            exact ⟨by first | (rw [← HZ.out]; done) | (rw [← HZ.out]; rfl), HBW.out.trans (HB4.out.mono HBW.out.size)⟩
    · intro x c2 z y ps w3 cnt hkey hlk hv hat hrg hlt hgr hsz hen
      have hz := kinds_key (z := z) (c := c2) (fun zd => by rw [hat zd]; exact elem_val hv)
      have hB3 : Below W0.heap.size W0 w3 := HB.out.grown hgr HB.out.size (fun j hj => by cases hj; exact HRS.out)
      have HR3 := Aside0.mk hrg
      have HB3 := Aside0.mk hB3
      have HLT := Aside0.mk hlt
      have hlg : g < W0.heap.size := blk_lt HL.out
      have c0 : w3.cell? ⟨g, 0, none⟩ = some (.int .i64 k) := (blk_cell ((hB3.block g hlg).trans HL.out) 0).trans rfl
      by_cases e : c2 = k
      · subst e
        have HW := Aside0.mk (word_hit c2 left x z hkey hz.1)
        clear hz hkey hlk hv hat hrg hlt hgr hsz hB3 hlg
        go_wp2
        go_roundg cnt
        case measure => exact HLT.out
        case rel => exact ⟨_, HW.out.symm, HR3, HB3⟩
      · have hne : (c2 == k) = false := beq_eq_false_iff_ne.mpr e
        have HW := Aside0.mk (word_miss k left z (fun h => e (kn_inj hz.2 HK17.out (hz.1 ▸ h.symm))))
        clear e hz hkey hlk hv hat hrg hlt hgr hsz hB3 hlg
        go_wp2
        go_roundg cnt
        case measure => exact HLT.out
        case rel => exact ⟨_, HW.out.symm, HR3, HB3⟩
end Go.Proofs.YtjapnbghnnbamaaGreatDoor.L
