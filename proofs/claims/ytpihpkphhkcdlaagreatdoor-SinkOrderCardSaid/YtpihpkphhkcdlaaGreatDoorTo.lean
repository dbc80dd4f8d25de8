/- The sink's Total. -/
import Derived.Test.YtpihpkphhkcdlaaGreatDoorAd
namespace Go.Proofs.YtpihpkphhkcdlaaGreatDoor.To
open Go.RowKit Go.Maps Go.Proofs.YtpihpkphhkcdlaaGreatDoorW.PrintWords Go.Proofs.YtpihpkphhkcdlaaGreatDoorW.PrintLast Go.Proofs.YtpihpkphhkcdlaaGreatDoor.Tab Go.Proofs.YtpihpkphhkcdlaaGreatDoor.Kp Go.Proofs.YtpihpkphhkcdlaaGreatDoor.Pd Go.Proofs.YtpihpkphhkcdlaaGreatDoor.Fr Go.Proofs.YtpihpkphhkcdlaaGreatDoor.May Go.Proofs.YtpihpkphhkcdlaaGreatDoor.De Go.Proofs.YtpihpkphhkcdlaaGreatDoor.Sk Go.Proofs.YtpihpkphhkcdlaaGreatDoor.Eq Go.Proofs.YtpihpkphhkcdlaaGreatDoor.Lk Go.Proofs.YtpihpkphhkcdlaaGreatDoor.It Go.Proofs.YtpihpkphhkcdlaaGreatDoor.Ad
set_option linter.unusedVariables false
set_option linter.unusedSimpArgs false
theorem f71 (a b c d : Value) (W : World) : (Instr.field 71 (.agg #[a, b, c, d]) 0).run Tryz.prog W = .ok (.agg #[a, b, c]) W := by kernel_rfl
theorem f44 (a b : Value) (A : Option Addr) (n c : Nat) (W : World) : (Instr.field 44 (.agg #[a, b, .slice A n c]) 2).run Tryz.prog W = .ok (.slice A n c) W := by kernel_rfl
theorem perm_mem {k : K} {ws : List Int} (h : ws.Perm (k.map fun e => e.1.win)) (q : Int) (hq : q ∈ ws) : ∃ e ∈ k, e.1.win = q ∧ ofWin k q = (Option.getD (k.find? (fun e => decide (e.1.win = q))) e).1.recs ∧ ∃ e', k.find? (fun e => decide (e.1.win = q)) = some e' ∧ e' ∈ k ∧ e'.1.win = q := by
  obtain ⟨e, he, hw⟩ := List.mem_map.1 (h.mem_iff.1 hq)
  cases hf : k.find? (fun e => decide (e.1.win = q)) with
  | none =>
    have := List.find?_eq_none.1 hf e he
    simp at this
    exact absurd hw this
  | some e' =>
    refine ⟨e, he, hw, by unfold ofWin; rw [hf]; rfl, e', rfl, List.mem_of_find?_eq_some hf, ?_⟩
    have := List.find?_some hf
    simpa using this
set_option maxHeartbeats 4000000 in
set_option maxRecDepth 1000000 in
theorem total_calls (ok : Nat → Prop) (g ml mw : Nat) (k : K) (cs : List Int) (name : ByteArray) (fr tt : Int) (w : World) (hS : IsS w ok g ml mw k cs) (hI : Incs k) (hk : k.length ≤ 1000000) :
    Calls Tryz.prog 10 #[.pointer (some ⟨g, 0, none⟩), .string name, .int .i64 fr, .int .i64 tt] w fun e w' => ∃ ws : List Int, ws.Perm (k.map fun e => e.1.win) ∧ e = .returned (.tuple #[.int .i64 (totP k name fr tt ws).1, .bool (totP k name fr tt ws).2]) ∧ Below w.heap.size w w' := by
  obtain ⟨hblk, ⟨D, D2, hm1, hm2, hsy⟩, hap, hnok⟩ := hS
  have s0 : w.cell? ⟨g, 0, none⟩ = some (.map (some ml)) := (blk_cell hblk 0).trans rfl
  have s1 : w.cell? ⟨g, 1, none⟩ = some (.map (some mw)) := (blk_cell hblk 1).trans rfl
  have HKP := Aside0.mk (keys_perm hm2 hsy)
  have HSO := Aside0.mk (sorted_calls mw k.length D2 idR w hm2 (by rw [hsy.size2]; unfold maxLen; omega) (by rw [hsy.size2]; omega))
  have HM1 := Aside0.mk hm1
  have HM2 := Aside0.mk hm2
  have HY := Aside0.mk hsy
  have HI := Aside0.mk hI
  have HXB := Aside0.mk hblk
  clear hblk hm1 hm2 hsy hap hnok hI hk
  go_enter Tryz.func10, Tryz.ntmps10
  go_wp2_with (first | (go_at_call 25; (with_reducible refine (keys_calls _ _).mono ?_); rintro e_ w1 ⟨rfl, rfl⟩) | (go_at_call 24; (with_reducible refine HSO.out.mono ?_); rintro e_ w2 ⟨v, ss, rfl, h1, h2, h3⟩; have HSS := Aside0.mk (And.intro h1 (And.intro h2 h3)); obtain ⟨Av, cv, rfl, h4⟩ := own_reads h2; have HRV := Aside0.mk h4; clear h1 h2 h3 h4))
  obtain ⟨S, hSd⟩ : ∃ S, S = ss.mergeSort (fun x y => decide (x ≤ y)) := ⟨_, rfl⟩
  rw [← hSd] at HRV
  have hlen : S.length = ss.length := by rw [hSd]; exact (List.mergeSort_perm _ _).length_eq
  rw [← hlen] at HRV ⊢
  have HSP := Aside0.mk (show S.Perm (k.map fun e => e.1.win) from by rw [hSd]; exact (List.mergeSort_perm _ _).trans (HSS.out.1.trans HKP.out.symm))
  have HB2 := Aside0.mk (((below_alloc (Below.refl w.heap.size w) (.cells #[.map (some mw)] 52)).trans (HSS.out.2.2.mono (by omega))))
  clear hlen hSd HSS HKP HSO
  obtain ⟨T, hT⟩ : ∃ T, T = totP k name fr tt S := ⟨_, rfl⟩
  have HT := Aside0.mk hT
  clear hT
  go_wp2
  go_loopg [8, 9, 25] (S.length + 1) (fun kq v8 v9 v25 w' => ∃ (i : Nat) (a : Int) (b : Bool), v8 = .int .i64 a ∧ v9 = .bool b ∧ v25 = .int .i64 (i : Int) ∧ Aside0 (S.length - i < kq ∧ i ≤ S.length) ∧ Aside0 ((0 ≤ a ∧ a ≤ 9223372036854775807) ∧ (S.drop i).foldl (totW k name fr tt) (a, b) = T) ∧ Aside0 (Below w.heap.size w w' ∧ Below w2.heap.size w2 w'))
  case atStart => exact ⟨0, 0, false, rfl, rfl, rfl, ⟨by omega, by omega⟩, ⟨by decide, HT.out.symm⟩, ⟨HB2.out, Below.refl _ _⟩⟩
  case round =>
    obtain ⟨i, a, b, rfl, rfl, rfl, HIX, HE, HB⟩ := hrel
    obtain ⟨gq, hgq⟩ : ∃ gq : Nat, gq = gk := ⟨_, rfl⟩
    have HGQ := Aside0.mk hgq
    clear hgq
    by_cases hi : i < S.length
    · have d0 : ((i : Int) < (S.length : Int)) = True := eq_true (by omega)
      have d1 : decide ((i : Int) < (S.length : Int)) = true := decide_eq_true (by omega)
      have hwi : wrap64 ((i : Int) + 1) = ((i + 1 : Nat) : Int) := by unfold wrap64; have := HRV.out.2.1; omega
      have HWI := Aside0.mk hwi
      obtain ⟨ad, eA, hcell⟩ := (HRV.out.below HB.out.2).2.2 (by omega)
      subst eA
      obtain ⟨q, hq⟩ : ∃ q, q = S[i] := ⟨_, rfl⟩
      have y0 : wr.cell? (ad.add i) = some (.int .i64 q) := by rw [hcell i hi, hq]; simp [List.getD, hi]
      have hE := HE.out.2
      rw [List.drop_eq_getElem_cons hi, ← hq, List.foldl_cons] at hE
      have HE2 := Aside0.mk hE
      have HQM := Aside0.mk (perm_mem HSP.out q (hq ▸ List.getElem_mem hi))
      have HII := Aside0.mk hi
      clear hE hcell hq hi hwi
      by_cases hr : q < fr ∨ tt < q
      · have HSK := Aside0.mk (show totW k name fr tt (a, b) q = (a, b) from if_pos hr)
        by_cases h1 : q < fr
        · have e1 : decide (q < fr) = true := decide_eq_true h1
          clear h1 hr
          go_wp2
          go_roundg (gk - 1)
          case measure => have := HIX.out; have := HII.out; omega
          case rel => exact ⟨i + 1, a, b, rfl, rfl, by first | rfl | (rw [HWI.out]), ⟨by have := HIX.out; have := HII.out; omega, HII.out⟩, ⟨HE.out.1, by have := HE2.out; rw [HSK.out] at this; exact this⟩, HB⟩
        · have e1 : decide (q < fr) = false := decide_eq_false h1
          have h2 : tt < q := hr.resolve_left h1
          have e2 : decide (q > tt) = true := decide_eq_true h2
          have e3 : decide (tt < q) = true := decide_eq_true h2
          clear h1 h2 hr
          go_wp2
          go_roundg (gk - 1)
          case measure => have := HIX.out; have := HII.out; omega
          case rel => exact ⟨i + 1, a, b, rfl, rfl, by first | rfl | (rw [HWI.out]), ⟨by have := HIX.out; have := HII.out; omega, HII.out⟩, ⟨HE.out.1, by have := HE2.out; rw [HSK.out] at this; exact this⟩, HB⟩
      · have e1 : decide (q < fr) = false := decide_eq_false (fun h => hr (.inl h))
        have e2 : decide (q > tt) = false := decide_eq_false (fun h => hr (.inr h))
        have e3 : decide (tt < q) = false := decide_eq_false (fun h => hr (.inr h))
        have HSK := Aside0.mk (show totW k name fr tt (a, b) q = (ofWin k q).foldl (totR name) (a, b) from if_neg hr)
        obtain ⟨e0, hf, hmem, hwq⟩ : ∃ e', k.find? (fun e => decide (e.1.win = q)) = some e' ∧ e' ∈ k ∧ e'.1.win = q := by
          obtain ⟨_, _, _, _, h⟩ := HQM.out
          exact h
        have hof : ofWin k q = e0.1.recs := by unfold ofWin; rw [hf]
        rw [hof] at HSK
        obtain ⟨v, hv1, hv2⟩ := HY.out.val1 e0 hmem
        obtain ⟨Aq, cq, Ab, cb, rfl, hq1, hq2, hq3, hq4, hq5, hq6⟩ := hv2
        have hfit := HY.out.fits e0 hmem
        have HLA := Aside0.mk (fun (W' : World) (h : Below w.heap.size w W') => look1v (own_map_keep HM1.out (Keep.of_below (F := fun _ => False) h) id) e0.1.seq hfit.1)
        have HLB := Aside0.mk (fun (W' : World) (h : Below w.heap.size w W') => look2v (own_map_keep HM2.out (Keep.of_below (F := fun _ => False) h) id) q (hwq ▸ hfit.2.1) (hwq ▸ hfit.2.2))
        have hv3 := HY.out.val2 e0 hmem (.held (.int .u64 0))
        rw [hwq] at hv3
        rw [hv3] at HLB
        rw [hv1] at HLA
        simp only [unheld] at HLA HLB
        have HRA := Aside0.mk hq2
        have HEM := Aside0.mk hmem
        have hnl := hq2.1
        have s0' : wr.cell? ⟨g, 0, none⟩ = some (.map (some ml)) := pw_cell_below HB.out.1 s0
        have s1' : wr.cell? ⟨g, 1, none⟩ = some (.map (some mw)) := pw_cell_below HB.out.1 s1
        obtain ⟨sq, hsq⟩ : ∃ sq, sq = e0.1.seq := ⟨_, rfl⟩
        rw [← hsq] at HLA HLB
        have HSQ := Aside0.mk hsq
        clear hr hf hmem hwq hof hv1 hq1 hq2 hq3 hq4 hq5 hq6 hfit hv3 hsq
        go_upto_region 7 with (fail)
        refine start_ (n := 15) (S := fun w' => Below wr.heap.size wr w') (ds := []) #[false, false, false, false, false, false, false, false, false, false, false, false, false, false, false] (by kernel_rfl) rfl rfl (below_drew1 (Below.refl _ _)) (fun hHeld => ?_)
        have hS0 := Aside0.mk (show Below wr.heap.size wr wr.drew from below_drew1 (Below.refl _ _))
        refine pure_ (i := 0) (N := some 37) (v := ?_) (a' := ?_) #[true, false, false, false, false, false, false, false, false, false, false, false, false, false, false] rfl rfl (by kernel_rfl) (fun _ _ _ h => h) (Or.inl ⟨by rfl, ?_⟩) ?_ ?_
        rotate_left
        · intro w'
          go_simp
          with_reducible rfl
        rotate_left
        · simp only [Act.put, List.setIfInBounds_toArray, List.set_cons_zero, List.set_cons_succ, i64_w, i32_w]
          rfl
        refine pure_ (i := 1) (N := some 38) (v := ?_) (a' := ?_) #[true, true, false, false, false, false, false, false, false, false, false, false, false, false, false] rfl rfl (by kernel_rfl) (fun _ _ _ h => h) (Or.inl ⟨by rfl, ?_⟩) ?_ ?_
        rotate_left
        · intro w'
          go_simp
          with_reducible rfl
        rotate_left
        · simp only [Act.put, List.setIfInBounds_toArray, List.set_cons_zero, List.set_cons_succ, i64_w, i32_w]
          rfl
        refine pure_ (i := 2) (N := some 39) (v := ?_) (a' := ?_) #[true, true, true, false, false, false, false, false, false, false, false, false, false, false, false] rfl rfl (by kernel_rfl) (fun _ _ _ h => h) (Or.inl ⟨by rfl, ?_⟩) ?_ ?_
        rotate_left
        · intro w'
          go_simp
          with_reducible rfl
        rotate_left
        · simp only [Act.put, List.setIfInBounds_toArray, List.set_cons_zero, List.set_cons_succ, i64_w, i32_w]
          rfl
        refine pure_ (i := 4) (N := some 41) (v := ?_) (a' := ?_) #[true, true, true, false, true, false, false, false, false, false, false, false, false, false, false] rfl rfl (by kernel_rfl) (fun _ _ _ h => h) (Or.inl ⟨by rfl, ?_⟩) ?_ ?_
        rotate_left
        · intro w'
          go_simp
          with_reducible rfl
        rotate_left
        · simp only [Act.put, List.setIfInBounds_toArray, List.set_cons_zero, List.set_cons_succ, i64_w, i32_w]
          rfl
        refine pure_ (i := 5) (N := some 42) (v := ?_) (a' := ?_) #[true, true, true, false, true, true, false, false, false, false, false, false, false, false, false] rfl rfl (by kernel_rfl) (fun _ _ _ h => h) (Or.inl ⟨by rfl, ?_⟩) ?_ ?_
        rotate_left
        · intro w'
          go_simp
          with_reducible rfl
        rotate_left
        · simp only [Act.put, List.setIfInBounds_toArray, List.set_cons_zero, List.set_cons_succ, i64_w, i32_w]
          rfl
        refine pure_ (i := 6) (N := some 43) (v := ?_) (a' := ?_) #[true, true, true, false, true, true, true, false, false, false, false, false, false, false, false] rfl rfl (by kernel_rfl) (fun _ _ _ h => h) (Or.inl ⟨by rfl, ?_⟩) ?_ ?_
        rotate_left
        · intro w'
          go_simp
          with_reducible rfl
        rotate_left
        · simp only [Act.put, List.setIfInBounds_toArray, List.set_cons_zero, List.set_cons_succ, i64_w, i32_w]
          rfl
        refine pure_ (i := 8) (N := some 45) (v := ?_) (a' := ?_) #[true, true, true, false, true, true, true, false, true, false, false, false, false, false, false] rfl rfl (by kernel_rfl) (fun _ _ _ h => h) (Or.inl ⟨by rfl, ?_⟩) ?_ ?_
        rotate_left
        · intro w'
          go_simp
          with_reducible rfl
        rotate_left
        · simp only [Act.put, List.setIfInBounds_toArray, List.set_cons_zero, List.set_cons_succ, i64_w, i32_w]
          rfl
        refine pure_ (i := 14) (N := some 51) (v := ?_) (a' := ?_) #[true, true, true, false, true, true, true, false, true, false, false, false, false, false, true] rfl rfl (by kernel_rfl) (fun _ _ _ h => h) (Or.inl ⟨by rfl, ?_⟩) ?_ ?_
        rotate_left
        · intro w'
          go_simp
          with_reducible rfl
        rotate_left
        · simp only [Act.put, List.setIfInBounds_toArray, List.set_cons_zero, List.set_cons_succ, i64_w, i32_w]
          rfl
        refine take_ (i := 3) (N := some 40) (v := ?_) (a' := ?_) #[true, true, true, true, true, true, true, false, true, false, false, false, false, false, true] rfl rfl (by kernel_rfl) (fun _ _ _ h => h) (Or.inl ⟨by rfl, ?_⟩) hHeld ?_ ?_
        rotate_left
        · intro w' hS'
          have z0 := pw_cell_below hS' s0'; have z1 := pw_cell_below hS' s1'; have lka := HLA.out w' (HB.out.1.trans (hS'.mono HB.out.1.size)); have lkb := HLB.out w' (HB.out.1.trans (hS'.mono HB.out.1.size))
          go_simp
          with_reducible rfl
        rotate_left
        · simp only [Act.put, List.setIfInBounds_toArray, List.set_cons_zero, List.set_cons_succ, i64_w, i32_w]
          rfl
        refine take_ (i := 7) (N := some 44) (v := ?_) (a' := ?_) #[true, true, true, true, true, true, true, true, true, false, false, false, false, false, true] rfl rfl (by kernel_rfl) (fun _ _ _ h => h) (Or.inl ⟨by rfl, ?_⟩) hHeld ?_ ?_
        rotate_left
        · intro w' hS'
          have z0 := pw_cell_below hS' s0'; have z1 := pw_cell_below hS' s1'; have lka := HLA.out w' (HB.out.1.trans (hS'.mono HB.out.1.size)); have lkb := HLB.out w' (HB.out.1.trans (hS'.mono HB.out.1.size))
          go_simp
          with_reducible rfl
        rotate_left
        · simp only [Act.put, List.setIfInBounds_toArray, List.set_cons_zero, List.set_cons_succ, i64_w, i32_w]
          rfl
        refine take_ (i := 9) (N := some 46) (v := ?_) (a' := ?_) #[true, true, true, true, true, true, true, true, true, true, false, false, false, false, true] rfl rfl (by kernel_rfl) (fun _ _ _ h => h) (Or.inl ⟨by rfl, ?_⟩) hHeld ?_ ?_
        rotate_left
        · intro w' hS'
          have z0 := pw_cell_below hS' s0'; have z1 := pw_cell_below hS' s1'; have lka := HLA.out w' (HB.out.1.trans (hS'.mono HB.out.1.size)); have lkb := HLB.out w' (HB.out.1.trans (hS'.mono HB.out.1.size))
          go_simp
          with_reducible rfl
        rotate_left
        · simp only [Act.put, List.setIfInBounds_toArray, List.set_cons_zero, List.set_cons_succ, i64_w, i32_w]
          rfl
        refine take_ (i := 10) (N := some 47) (v := ?_) (a' := ?_) #[true, true, true, true, true, true, true, true, true, true, true, false, false, false, true] rfl rfl (by kernel_rfl) (fun _ _ _ h => h) (Or.inl ⟨by rfl, ?_⟩) hHeld ?_ ?_
        rotate_left
        · intro w' hS'
          have z0 := pw_cell_below hS' s0'; have z1 := pw_cell_below hS' s1'; have lka := HLA.out w' (HB.out.1.trans (hS'.mono HB.out.1.size)); have lkb := HLB.out w' (HB.out.1.trans (hS'.mono HB.out.1.size))
          go_simp
          with_reducible rfl
        rotate_left
        · simp only [Act.put, List.setIfInBounds_toArray, List.set_cons_zero, List.set_cons_succ, i64_w, i32_w]
          rfl
        have hf1 := f71; have hf2 := f44
        refine pure_ (i := 11) (N := some 48) (v := ?_) (a' := ?_) #[true, true, true, true, true, true, true, true, true, true, true, true, false, false, true] rfl rfl (by kernel_rfl) (fun _ _ _ h => h) (Or.inl ⟨by rfl, ?_⟩) ?_ ?_
        rotate_left
        · intro w'
          go_simp
          with_reducible rfl
        rotate_left
        · simp only [Act.put, List.setIfInBounds_toArray, List.set_cons_zero, List.set_cons_succ, i64_w, i32_w]
          rfl
        refine pure_ (i := 12) (N := some 49) (v := ?_) (a' := ?_) #[true, true, true, true, true, true, true, true, true, true, true, true, true, false, true] rfl rfl (by kernel_rfl) (fun _ _ _ h => h) (Or.inl ⟨by rfl, ?_⟩) ?_ ?_
        rotate_left
        · intro w'
          go_simp
          with_reducible rfl
        rotate_left
        · simp only [Act.put, List.setIfInBounds_toArray, List.set_cons_zero, List.set_cons_succ, i64_w, i32_w]
          rfl
        refine pure_ (i := 13) (N := some 50) (v := ?_) (a' := ?_) #[true, true, true, true, true, true, true, true, true, true, true, true, true, true, true] rfl rfl (by kernel_rfl) (fun _ _ _ h => h) (Or.inl ⟨by rfl, ?_⟩) ?_ ?_
        rotate_left
        · intro w'
          go_simp
          with_reducible rfl
        rotate_left
        · simp only [Act.put, List.setIfInBounds_toArray, List.set_cons_zero, List.set_cons_succ, i64_w, i32_w]
          rfl
        refine done_ (by kernel_rfl) ?_
        have HB7 := Aside0.mk (And.intro (HB.out.1.trans (hS0.out.mono HB.out.1.size)) (HB.out.2.trans (hS0.out.mono HB.out.2.size)))
        have HR7 := Aside0.mk (RecsAt.below HRA.out HB7.out.1)
        obtain ⟨rs, hrs⟩ : ∃ rs, rs = e0.1.recs := ⟨_, rfl⟩
        obtain ⟨wn, hwn⟩ : ∃ wn, wn = e0.1.win := ⟨_, rfl⟩
        rw [← hrs, ← hwn] at HR7
        rw [← hrs] at HSK hnl ⊢
        rw [← hwn]
        have HRI := Aside0.mk (show ∀ r ∈ rs, 0 ≤ r.inc ∧ r.inc ≤ 9223372036854775807 from hrs ▸ HI.out e0 HEM.out)
        clear s0' s1' hS0 hHeld HLA HLB HRA HSQ HEM hf1 hf2 hrs hwn
        generalize wr.drew = W7 at HB7 HR7 ⊢
        obtain ⟨U, hU⟩ : ∃ U, U = rs.foldl (totR name) (a, b) := ⟨_, rfl⟩
        rw [← hU] at HSK
        have HU := Aside0.mk hU
        clear hU
        go_wp2
        go_loopg [8, 9, 51] (rs.length + 1) (fun kq v8 v9 v51 w' => ∃ (j : Nat) (a1 : Int) (b1 : Bool), v8 = .int .i64 a1 ∧ v9 = .bool b1 ∧ v51 = .int .i64 (j : Int) ∧ Aside0 (rs.length - j < kq ∧ j ≤ rs.length) ∧ Aside0 ((0 ≤ a1 ∧ a1 ≤ 9223372036854775807) ∧ (rs.drop j).foldl (totR name) (a1, b1) = U) ∧ Aside0 (Below W7.heap.size W7 w'))
        case atStart => exact ⟨0, a, b, rfl, rfl, rfl, ⟨by omega, by omega⟩, ⟨HE.out.1, HU.out.symm⟩, ⟨Below.refl _ _⟩⟩
        case round =>
          obtain ⟨j, a1, b1, rfl, rfl, rfl, HJX, HF, HC⟩ := hrel
          by_cases hj : j < rs.length
          · have d0 : ((j : Int) < (rs.length : Int)) = True := eq_true (by omega)
            have d1 : decide ((j : Int) < (rs.length : Int)) = true := decide_eq_true (by omega)
            have hwj : wrap64 ((j : Int) + 1) = ((j + 1 : Nat) : Int) := by unfold wrap64; omega
            have HWJ := Aside0.mk hwj
            obtain ⟨gr, eA, hgr, hcell⟩ := HR7.out.2 (by omega)
            subst eA
            obtain ⟨r, hr⟩ : ∃ r, r = rs[j] := ⟨_, rfl⟩
            have hc : ∀ (kk : Nat) (v : Value), (recC wn r)[kk]? = some v → wr.cell? ⟨gr, j * 5 + kk, none⟩ = some v := fun kk v hv => pw_cell_below HC.out (hcell j hj kk v (hr ▸ hv))
            have y0 : wr.cell? ⟨gr, j * 5, none⟩ = some (.string r.name) := hc 0 _ rfl
            have y1 : wr.cell? ⟨gr, j * 5 + 1, none⟩ = some (.int .i64 wn) := hc 1 _ rfl
            have y2 : wr.cell? ⟨gr, j * 5 + 2, none⟩ = some (.int .i64 r.inc) := hc 2 _ rfl
            have y3 : wr.cell? ⟨gr, j * 5 + 3, none⟩ = some (.int .i64 r.rate) := hc 3 _ rfl
            have y4 : wr.cell? ⟨gr, j * 5 + 4, none⟩ = some (.bool r.over) := hc 4 _ rfl
            have hE := HF.out.2
            rw [List.drop_eq_getElem_cons hj, ← hr, List.foldl_cons] at hE
            have HF2 := Aside0.mk hE
            have HRR := Aside0.mk (HRI.out r (hr ▸ List.getElem_mem hj))
            have HJJ := Aside0.mk hj
            have HX := Aside0.mk (blk_new wr (.cells #[.string r.name, .int .i64 wn, .int .i64 r.inc, .int .i64 r.rate, .bool r.over] 73))
            have HBX := Aside0.mk (below_alloc HC.out (.cells #[.string r.name, .int .i64 wn, .int .i64 r.inc, .int .i64 r.rate, .bool r.over] 73))
            clear hE hcell hc hr hj hwj hgr
            by_cases hn : r.name = name
            · rw [hn] at y0 HX HBX
              have HN := Aside0.mk hn
              clear hn
              go_upto_region 11 with (fail)
              clear y0 y1 y2 y3 y4
              generalize wr.alloc (.cells #[.string name, .int .i64 wn, .int .i64 r.inc, .int .i64 r.rate, .bool r.over] 73) = W8 at HX HBX ⊢
              generalize wr.heap.size = gx at HX ⊢
              have x2 : W8.cell? ⟨gx, 2, none⟩ = some (.int .i64 r.inc) := (blk_cell HX.out 2).trans rfl
              have HAD := Aside0.mk (add_calls a1 r.inc HF.out.1 HRR.out W8)
              have HBD := Aside0.mk (addP_bd a1 r.inc HF.out.1 HRR.out)
              obtain ⟨⟨n2, m2⟩, hnm⟩ : ∃ z, z = addP a1 r.inc := ⟨_, rfl⟩
              rw [← hnm] at HAD HBD
              have HNM := Aside0.mk hnm
              clear hnm
              go_upto_region 12 with (first | (go_at_call 26; (with_reducible refine HAD.out.mono ?_); rintro e_ w9 ⟨rfl, hb⟩; have HB9 := Aside0.mk (HBX.out.trans (hb.mono HBX.out.size)); have HX9 := Aside0.mk ((hb.block _ (blk_lt HX.out)).trans HX.out); clear hb))
              have x4 : w9.cell? ⟨gx, 4, none⟩ = some (.bool r.over) := (blk_cell HX9.out 4).trans rfl
              have x4' : w9.drew.cell? ⟨gx, 4, none⟩ = some (.bool r.over) := x4
              have HST := Aside0.mk (show totR name (a1, b1) r = (n2, b1 || m2 || r.over) from by unfold totR; rw [if_pos HN.out, ← HNM.out])
              cases b1 <;> cases m2 <;> (
                go_region
                clear x4 x4' x2
                go_wp2
                go_roundg (gk - 1)
                case measure => have := HJX.out; have := HJJ.out; omega
                case rel => exact ⟨j + 1, n2, _, rfl, by first | rfl | (simp; done), by first | rfl | (rw [HWJ.out]), ⟨by have := HJX.out; have := HJJ.out; omega, HJJ.out⟩, ⟨HBD.out, by have h := HF2.out; rw [HST.out] at h; simpa using h⟩, ⟨below_drew1 HB9.out⟩⟩)
            · have hne : (r.name.toList == name.toList) = false := beq_eq_false_iff_ne.2 (fun h => hn (ByteArray.ext (Array.toList_inj.1 (by rw [← ba_toList, ← ba_toList]; exact h))))
              have HST := Aside0.mk (show totR name (a1, b1) r = (a1, b1) from if_neg hn)
              clear hn
              go_wp2
              go_roundg (gk - 1)
              case measure => have := HJX.out; have := HJJ.out; omega
              case rel => exact ⟨j + 1, a1, b1, rfl, rfl, by first | rfl | (rw [HWJ.out]), ⟨by have := HJX.out; have := HJJ.out; omega, HJJ.out⟩, ⟨HF.out.1, by have h := HF2.out; rw [HST.out] at h; exact h⟩, ⟨HBX.out⟩⟩
          · have hjj : j = rs.length := by have := HJX.out; omega
            have d0 : ((j : Int) < (rs.length : Int)) = False := eq_false (by omega)
            have d1 : decide ((j : Int) < (rs.length : Int)) = false := decide_eq_false (by omega)
            have HFIN := Aside0.mk (show (a1, b1) = U from by have h := HF.out.2; rw [hjj, List.drop_length] at h; exact h)
            clear hj hjj
            go_wp2
            go_roundg (gq - 1)
            case measure => have := HIX.out; have := HII.out; have := HGQ.out; omega
            case rel => exact ⟨i + 1, a1, b1, rfl, rfl, by first | rfl | (rw [HWI.out]), ⟨by have := HIX.out; have := HII.out; have := HGQ.out; omega, HII.out⟩, ⟨HF.out.1, by have h := HE2.out; rw [HSK.out, ← HFIN.out] at h; exact h⟩, ⟨HB7.out.1.trans (HC.out.mono HB7.out.1.size), HB7.out.2.trans (HC.out.mono HB7.out.2.size)⟩⟩
    · have hii : i = S.length := by have := HIX.out; omega
      have d0 : ((i : Int) < (S.length : Int)) = False := eq_false (by omega)
      have d1 : decide ((i : Int) < (S.length : Int)) = false := decide_eq_false (by omega)
      have HFIN := Aside0.mk (show (a, b) = T from by have h := HE.out.2; rw [hii, List.drop_length] at h; exact h)
      clear hi hii
      go_wp2
      refine bodyPost_ret (results_tmp2 rfl _ _ _) rfl ?_
      exact ⟨S, HSP.out, by rw [← HT.out, ← HFIN.out]; rfl, HB.out.1⟩
end Go.Proofs.YtpihpkphhkcdlaaGreatDoor.To
