/- The sink's took. -/
import Derived.Test.YtpihpkphhkcdlaaGreatDoorSc
namespace Go.Proofs.YtpihpkphhkcdlaaGreatDoor.Tk
open Go.RowKit Go.Maps Go.Proofs.YtpihpkphhkcdlaaGreatDoorW.PrintWords Go.Proofs.YtpihpkphhkcdlaaGreatDoorW.PrintLast Go.Proofs.YtpihpkphhkcdlaaGreatDoor.Tab Go.Proofs.YtpihpkphhkcdlaaGreatDoor.Kp Go.Proofs.YtpihpkphhkcdlaaGreatDoor.Pd Go.Proofs.YtpihpkphhkcdlaaGreatDoor.Pk Go.Proofs.YtpihpkphhkcdlaaGreatDoor.Fr Go.Proofs.YtpihpkphhkcdlaaGreatDoor.May Go.Proofs.YtpihpkphhkcdlaaGreatDoor.De Go.Proofs.YtpihpkphhkcdlaaGreatDoor.Sk Go.Proofs.YtpihpkphhkcdlaaGreatDoor.Eq Go.Proofs.YtpihpkphhkcdlaaGreatDoor.Lk Go.Proofs.YtpihpkphhkcdlaaGreatDoor.Cl Go.Proofs.YtpihpkphhkcdlaaGreatDoor.Sc
set_option linter.unusedVariables false
set_option linter.unusedSimpArgs false
/-- The blocks that took writes. -/
abbrev G2 (ml mw : Nat) : Nat → Prop := fun j => j = ml ∨ j = mw
theorem eq_map (ml : Nat) (W : World) : (binOp .eql 51 (.map (some ml)) (.map none)).run Tryz.prog W = .ok (.bool false) W := by kernel_rfl
theorem decP_len {bs : List UInt8} {f : Frm} (h : (f, (0 : Int)) = decP bs) : 8 ≤ bs.length := by
  unfold decP at h
  split at h
  · exact absurd (show (0 : Int) = 25 from congrArg Prod.snd h) (by decide)
  · split at h
    · exact absurd (show (0 : Int) = 11 from congrArg Prod.snd h) (by decide)
    · omega
set_option maxHeartbeats 4000000 in
set_option maxRecDepth 1000000 in
theorem took_calls (ok : Nat → Prop) (g ml mw : Nat) (k : K) (cs : List Int) (A : Option Addr) (cp : Nat) (bs : List UInt8) (hl : bs.length ≤ 1000000) (hcp : bs.length ≤ cp) (w : World) (hG : Glob w) (hr : ReadsInt w .u8 A bs.length (nb bs)) (hS : IsS w ok g ml mw k cs) (hok : ∀ j, w.heap.size ≤ j → ok j) (hk : k.length ≤ 1000000) :
    Calls Tryz.prog 23 #[.pointer (some ⟨g, 0, none⟩), .slice A bs.length cp] w fun e w' => e = .returned (.int .i64 (tookP k bs).1) ∧ IsS w' ok g ml mw (tookP k bs).2 cs ∧ Keep (G2 ml mw) w w' := by
  have HD := Aside0.mk (decode_calls A cp bs hl hcp w hG hr)
  have HBD := Aside0.mk (decP_bd bs)
  have HS0 := Aside0.mk hS
  have HR := Aside0.mk hr
  have HOK := Aside0.mk hok
  have HL := Aside0.mk (And.intro hl (And.intro hcp hk))
  obtain ⟨T, hT⟩ : ∃ T, T = tookP k bs := ⟨_, rfl⟩
  rw [← hT]
  unfold tookP at hT
  obtain ⟨⟨⟨seq, win, recs⟩, e⟩, hf⟩ : ∃ f, f = decP bs := ⟨_, rfl⟩
  rw [← hf] at HD HBD hT
  dsimp only at HD HBD hT
  have HDF := Aside0.mk hf
  clear hf hG hr hS hok hl hcp hk
  have g00 := HS0.out.blk
  have HGL := Aside0.mk (blk_lt g00)
  clear g00
  go_enter Tryz.func23, Tryz.ntmps23
  go_upto_region 2 with (first | (go_at_call 41; (with_reducible refine HD.out.mono ?_); rintro e_ w1 ⟨rv, rfl, ho, hb⟩; obtain ⟨Ar, cr, rfl⟩ := row_form ho; have HO1 := Aside0.mk ho; have HB1 := Aside0.mk hb; clear ho hb; simp only [FrmV]))
  have HX := Aside0.mk (blk_new w1 (.cells #[.int .u64 (seq : Nat), .int .i64 win, .slice Ar recs.length cr] 44))
  have HBA := Aside0.mk (below_alloc (Below.refl w1.heap.size w1) (.cells #[.int .u64 (seq : Nat), .int .i64 win, .slice Ar recs.length cr] 44))
  have HB := Aside0.mk (HB1.out.trans (HBA.out.mono HB1.out.size))
  have HO := Aside0.mk (pw_own_below HO1.out HBA.out)
  have HGF := Aside0.mk HB1.out.size
  try generalize w1.alloc (.cells #[.int .u64 (seq : Nat), .int .i64 win, .slice Ar recs.length cr] 44) = W at HX HB HO ⊢
  try generalize w1.heap.size = gf at HX HGF ⊢
  clear HO1 HB1 HD
  clear HBA
  have HS := Aside0.mk (HS0.out.below HB.out)
  by_cases he : e = 0
  · subst he
    rw [if_neg (by decide)] at hT
    obtain ⟨hblk, ⟨D, D2, hm1, hm2, hsy⟩, hap, hnok⟩ := HS.out
    have HM1 := Aside0.mk hm1
    have HM2 := Aside0.mk hm2
    have HY := Aside0.mk hsy
    have HXB := Aside0.mk hblk
    have x0 : W.cell? ⟨gf, 0, none⟩ = some (.int .u64 (seq : Nat)) := (blk_cell HX.out 0).trans rfl
    have x1 : W.cell? ⟨gf, 1, none⟩ = some (.int .i64 win) := (blk_cell HX.out 1).trans rfl
    have x2 : W.cell? ⟨gf, 2, none⟩ = some (.slice Ar recs.length cr) := (blk_cell HX.out 2).trans rfl
    have s0 : W.cell? ⟨g, 0, none⟩ = some (.map (some ml)) := (blk_cell hblk 0).trans rfl
    have s1 : W.cell? ⟨g, 1, none⟩ = some (.map (some mw)) := (blk_cell hblk 1).trans rfl
    have HLK1 := Aside0.mk (fun (W' : World) (h : Below W.heap.size W W') => look1 (own_map_keep hm1 (Keep.of_below (F := fun _ => False) h) id) seq HBD.out.1)
    have HLK2 := Aside0.mk (fun (W' : World) (h : Below W.heap.size W W') => look2 (own_map_keep hm2 (Keep.of_below (F := fun _ => False) h) id) win HBD.out.2.1 HBD.out.2.2)
    rw [HY.out.has1] at HLK1
    rw [HY.out.has2] at HLK2
    clear hblk hm1 hm2 hsy
    go_upto_region 4 with (fail)
    cases hfd : k.find? (fun e => decide (e.1.seq = seq)) with
    | some e0 =>
      rw [hfd] at hT
      dsimp only at hT
      have hmem := List.mem_of_find?_eq_some hfd
      have hsq : e0.1.seq = seq := by have := List.find?_some hfd; simpa using this
      obtain ⟨v, hv1, hv2⟩ := HY.out.val1 e0 hmem
      rw [hsq] at hv1
      have hany : (k.any fun e => decide (e.1.seq = seq)) = true := List.any_eq_true.2 ⟨e0, hmem, by simpa using hsq⟩
      rw [hany, hv1] at HLK1
      obtain ⟨Aq, cq, Ab, cb, rfl, hq1, hq2, hq3, hq4, hq5, hq6⟩ := hv2
      have HQ := Aside0.mk (And.intro hq3 (And.intro hq4 hq6))
      simp only [unheld] at HLK1
      clear hfd hmem hsq hv1 hany hq1 hq2 hq3 hq4 hq5 hq6
      refine start_ (n := 13) (S := fun w' => Below W.heap.size W w') (ds := []) #[false, false, false, false, false, false, false, false, false, false, false, false, false] (by kernel_rfl) rfl rfl (below_drew1 (Below.refl _ _)) (fun hHeld => ?_)
      have hS0 := Aside0.mk (show Below W.heap.size W W.drew from below_drew1 (Below.refl _ _))
      refine pure_ (i := 0) (N := some 19) (v := ?_) (a' := ?_) #[true, false, false, false, false, false, false, false, false, false, false, false, false] rfl rfl (by kernel_rfl) (fun _ _ _ h => h) (Or.inl ⟨by rfl, ?_⟩) ?_ ?_
      rotate_left
      · intro w'
        go_simp
        with_reducible rfl
      rotate_left
      · simp only [Act.put, List.setIfInBounds_toArray, List.set_cons_zero, List.set_cons_succ, i64_w, i32_w]
        rfl
      refine pure_ (i := 1) (N := some 20) (v := ?_) (a' := ?_) #[true, true, false, false, false, false, false, false, false, false, false, false, false] rfl rfl (by kernel_rfl) (fun _ _ _ h => h) (Or.inl ⟨by rfl, ?_⟩) ?_ ?_
      rotate_left
      · intro w'
        go_simp
        with_reducible rfl
      rotate_left
      · simp only [Act.put, List.setIfInBounds_toArray, List.set_cons_zero, List.set_cons_succ, i64_w, i32_w]
        rfl
      refine pure_ (i := 2) (N := some 21) (v := ?_) (a' := ?_) #[true, true, true, false, false, false, false, false, false, false, false, false, false] rfl rfl (by kernel_rfl) (fun _ _ _ h => h) (Or.inl ⟨by rfl, ?_⟩) ?_ ?_
      rotate_left
      · intro w'
        go_simp
        with_reducible rfl
      rotate_left
      · simp only [Act.put, List.setIfInBounds_toArray, List.set_cons_zero, List.set_cons_succ, i64_w, i32_w]
        rfl
      refine pure_ (i := 4) (N := some 23) (v := ?_) (a' := ?_) #[true, true, true, false, true, false, false, false, false, false, false, false, false] rfl rfl (by kernel_rfl) (fun _ _ _ h => h) (Or.inl ⟨by rfl, ?_⟩) ?_ ?_
      rotate_left
      · intro w'
        go_simp
        with_reducible rfl
      rotate_left
      · simp only [Act.put, List.setIfInBounds_toArray, List.set_cons_zero, List.set_cons_succ, i64_w, i32_w]
        rfl
      refine take_ (i := 3) (N := some 22) (v := ?_) (a' := ?_) #[true, true, true, true, true, false, false, false, false, false, false, false, false] rfl rfl (by kernel_rfl) (fun _ _ _ h => h) (Or.inl ⟨by rfl, ?_⟩) hHeld ?_ ?_
      rotate_left
      · intro w' hS'
        have x0' := pw_cell_below hS' x0; have x1' := pw_cell_below hS' x1; have x2' := pw_cell_below hS' x2; have s0' := pw_cell_below hS' s0; have s1' := pw_cell_below hS' s1; have lk1 := HLK1.out w' hS'; have lk2 := HLK2.out w' hS'
        go_simp
        with_reducible rfl
      rotate_left
      · simp only [Act.put, List.setIfInBounds_toArray, List.set_cons_zero, List.set_cons_succ, i64_w, i32_w]
        rfl
      refine take_ (i := 5) (N := some 24) (v := ?_) (a' := ?_) #[true, true, true, true, true, true, false, false, false, false, false, false, false] rfl rfl (by kernel_rfl) (fun _ _ _ h => h) (Or.inl ⟨by rfl, ?_⟩) hHeld ?_ ?_
      rotate_left
      · intro w' hS'
        have x0' := pw_cell_below hS' x0; have x1' := pw_cell_below hS' x1; have x2' := pw_cell_below hS' x2; have s0' := pw_cell_below hS' s0; have s1' := pw_cell_below hS' s1; have lk1 := HLK1.out w' hS'; have lk2 := HLK2.out w' hS'
        go_simp
        with_reducible rfl
      rotate_left
      · simp only [Act.put, List.setIfInBounds_toArray, List.set_cons_zero, List.set_cons_succ, i64_w, i32_w]
        rfl
      refine take_ (i := 6) (N := some 25) (v := ?_) (a' := ?_) #[true, true, true, true, true, true, true, false, false, false, false, false, false] rfl rfl (by kernel_rfl) (fun _ _ _ h => h) (Or.inl ⟨by rfl, ?_⟩) hHeld ?_ ?_
      rotate_left
      · intro w' hS'
        have x0' := pw_cell_below hS' x0; have x1' := pw_cell_below hS' x1; have x2' := pw_cell_below hS' x2; have s0' := pw_cell_below hS' s0; have s1' := pw_cell_below hS' s1; have lk1 := HLK1.out w' hS'; have lk2 := HLK2.out w' hS'
        go_simp
        with_reducible rfl
      rotate_left
      · simp only [Act.put, List.setIfInBounds_toArray, List.set_cons_zero, List.set_cons_succ, i64_w, i32_w]
        rfl
      refine pure_ (i := 7) (N := some 18) (v := ?_) (a' := ?_) #[true, true, true, true, true, true, true, true, false, false, false, false, false] rfl rfl (by kernel_rfl) (fun _ _ _ h => h) (Or.inl ⟨by rfl, ?_⟩) ?_ ?_
      rotate_left
      · intro w'
        go_simp
        with_reducible rfl
      rotate_left
      · simp only [Act.put, List.setIfInBounds_toArray, List.set_cons_zero, List.set_cons_succ, i64_w, i32_w]
        rfl
      refine pure_ (i := 8) (N := some 26) (v := ?_) (a' := ?_) #[true, true, true, true, true, true, true, true, true, false, false, false, false] rfl rfl (by kernel_rfl) (fun _ _ _ h => h) (Or.inl ⟨by rfl, ?_⟩) ?_ ?_
      rotate_left
      · intro w'
        go_simp
        with_reducible rfl
      rotate_left
      · simp only [Act.put, List.setIfInBounds_toArray, List.set_cons_zero, List.set_cons_succ, i64_w, i32_w]
        rfl
      refine pure_ (i := 9) (N := some 27) (v := ?_) (a' := ?_) #[true, true, true, true, true, true, true, true, true, true, false, false, false] rfl rfl (by kernel_rfl) (fun _ _ _ h => h) (Or.inl ⟨by rfl, ?_⟩) ?_ ?_
      rotate_left
      · intro w'
        go_simp
        with_reducible rfl
      rotate_left
      · simp only [Act.put, List.setIfInBounds_toArray, List.set_cons_zero, List.set_cons_succ, i64_w, i32_w]
        rfl
      refine one_ (i := 10) (N := some 7) #[true, true, true, true, true, true, true, true, true, true, true, false, false] rfl rfl (by kernel_rfl) (by decide) (fun K hK => ?_)
      refine value_ (w1 := W.drew.alloc (.cells #[.int .u64 0, .int .i64 0, .slice none 0 0, .slice none 0 0] 71)) (v := .pointer (some ⟨W.heap.size, 0, none⟩)) (by rfl) rfl (by go_simp <;> rfl) ?_
      have hS1 := Aside0.mk (show Below W.heap.size W (W.drew.alloc (.cells #[.int .u64 0, .int .i64 0, .slice none 0 0, .slice none 0 0] 71)) from below_alloc hS0.out _)
      refine hK.out _ _ hS1.out (fun hHeld => ?_)
      clear hK K
      refine norm_ (a' := ?_) ?_ ?_
      rotate_left
      · show Act.put _ (some 7) _ = _
        simp only [Act.put, List.setIfInBounds_toArray, List.set_cons_zero, List.set_cons_succ, i64_w, i32_w]
        rfl
      refine one_ (i := 11) (N := none) #[true, true, true, true, true, true, true, true, true, true, true, true, false] rfl rfl (by kernel_rfl) (by decide) (fun K hK => ?_)
      refine skip_ (w1 := W.drew.alloc (.cells #[.int .u64 (e0.1.seq : Nat), .int .i64 e0.1.win, .slice Aq e0.1.recs.length cq, .slice Ab e0.2.length cb] 71)) (by rfl) rfl (by go_simp; first | done | rfl) ?_
      have hS2 := Aside0.mk (show Below W.heap.size W (W.drew.alloc (.cells #[.int .u64 (e0.1.seq : Nat), .int .i64 e0.1.win, .slice Aq e0.1.recs.length cq, .slice Ab e0.2.length cb] 71)) from below_alloc hS0.out _)
      refine hK.out _ _ hS2.out (fun hHeld => ?_)
      clear hK K
      refine pure_ (i := 12) (N := some 8) (v := ?_) (a' := ?_) #[true, true, true, true, true, true, true, true, true, true, true, true, true] rfl rfl (by kernel_rfl) (fun _ _ _ h => h) (Or.inl ⟨by rfl, ?_⟩) ?_ ?_
      rotate_left
      · intro w'
        go_simp
        with_reducible rfl
      rotate_left
      · simp only [Act.put, List.setIfInBounds_toArray, List.set_cons_zero, List.set_cons_succ, i64_w, i32_w]
        rfl
      refine done_ (by kernel_rfl) ?_
      have HXK := Aside0.mk (show (W.drew.alloc (.cells #[.int .u64 (e0.1.seq : Nat), .int .i64 e0.1.win, .slice Aq e0.1.recs.length cq, .slice Ab e0.2.length cb] 71)).heap[W.heap.size]? = some (.cells #[.int .u64 (e0.1.seq : Nat), .int .i64 e0.1.win, .slice Aq e0.1.recs.length cq, .slice Ab e0.2.length cb] 71 (0, 0)) from blk_new W.drew _)
      clear hS0 hS1
      generalize W.drew.alloc (.cells #[.int .u64 (e0.1.seq : Nat), .int .i64 e0.1.win, .slice Aq e0.1.recs.length cq, .slice Ab e0.2.length cb] 71) = W4 at hS2 HXK ⊢
      have HQR := Aside0.mk (HQ.out.2.1.below hS2.out)
      have HB4 := Aside0.mk (HB.out.trans (hS2.out.mono HB.out.size))
      have HX4 := Aside0.mk ((hS2.out.block _ (blk_lt HX.out)).trans HX.out)
      have HO4 := Aside0.mk (pw_own_below HO.out hS2.out)
      have HXB4 := Aside0.mk ((hS2.out.block _ (blk_lt HXB.out)).trans HXB.out)
      have HS4 := Aside0.mk (HS0.out.below HB4.out)
      have HM1b := Aside0.mk (own_map_keep HM1.out (Keep.of_below (F := fun _ => False) hS2.out) id)
      have HM2b := Aside0.mk (own_map_keep HM2.out (Keep.of_below (F := fun _ => False) hS2.out) id)
      have HLK3 := Aside0.mk (fun (W' : World) (h : Below W4.heap.size W4 W') => HLK2.out W' (hS2.out.trans (h.mono hS2.out.size)))
      have HYS := Aside0.mk (HY.out.keep (Keep.of_below (F := fun _ => False) hS2.out) fun _ _ => id)
      clear x0 x1 x2 s0 s1 HLK1 HLK2 HX HO HXB HS hS2 HM1 HM2 HY hHeld
      have x0 : W4.cell? ⟨gf, 0, none⟩ = some (.int .u64 (seq : Nat)) := (blk_cell HX4.out 0).trans rfl
      have x1 : W4.cell? ⟨gf, 1, none⟩ = some (.int .i64 win) := (blk_cell HX4.out 1).trans rfl
      have x2 : W4.cell? ⟨gf, 2, none⟩ = some (.slice Ar recs.length cr) := (blk_cell HX4.out 2).trans rfl
      have s0 : W4.cell? ⟨g, 0, none⟩ = some (.map (some ml)) := (blk_cell HXB4.out 0).trans rfl
      have s1 : W4.cell? ⟨g, 1, none⟩ = some (.map (some mw)) := (blk_cell HXB4.out 1).trans rfl
      go_upto_region 5 with (fail)
      obtain ⟨u2, hu2⟩ : ∃ u2, u2 = unheld (D2.atKey (iL win) (.held (.int .u64 0))) := ⟨_, rfl⟩
      rw [← hu2] at HLK3
      clear hu2
      refine start_ (n := 12) (S := fun w' => Below W4.heap.size W4 w') (ds := []) #[false, false, false, false, false, false, false, false, false, false, false, false] (by kernel_rfl) rfl rfl (below_drew1 (Below.refl _ _)) (fun hHeld => ?_)
      have hS0 := Aside0.mk (show Below W4.heap.size W4 W4.drew from below_drew1 (Below.refl _ _))
      refine pure_ (i := 0) (N := some 29) (v := ?_) (a' := ?_) #[true, false, false, false, false, false, false, false, false, false, false, false] rfl rfl (by kernel_rfl) (fun _ _ _ h => h) (Or.inl ⟨by rfl, ?_⟩) ?_ ?_
      rotate_left
      · intro w'
        go_simp
        with_reducible rfl
      rotate_left
      · simp only [Act.put, List.setIfInBounds_toArray, List.set_cons_zero, List.set_cons_succ, i64_w, i32_w]
        rfl
      refine pure_ (i := 1) (N := some 30) (v := ?_) (a' := ?_) #[true, true, false, false, false, false, false, false, false, false, false, false] rfl rfl (by kernel_rfl) (fun _ _ _ h => h) (Or.inl ⟨by rfl, ?_⟩) ?_ ?_
      rotate_left
      · intro w'
        go_simp
        with_reducible rfl
      rotate_left
      · simp only [Act.put, List.setIfInBounds_toArray, List.set_cons_zero, List.set_cons_succ, i64_w, i32_w]
        rfl
      refine pure_ (i := 2) (N := some 31) (v := ?_) (a' := ?_) #[true, true, true, false, false, false, false, false, false, false, false, false] rfl rfl (by kernel_rfl) (fun _ _ _ h => h) (Or.inl ⟨by rfl, ?_⟩) ?_ ?_
      rotate_left
      · intro w'
        go_simp
        with_reducible rfl
      rotate_left
      · simp only [Act.put, List.setIfInBounds_toArray, List.set_cons_zero, List.set_cons_succ, i64_w, i32_w]
        rfl
      refine pure_ (i := 4) (N := some 33) (v := ?_) (a' := ?_) #[true, true, true, false, true, false, false, false, false, false, false, false] rfl rfl (by kernel_rfl) (fun _ _ _ h => h) (Or.inl ⟨by rfl, ?_⟩) ?_ ?_
      rotate_left
      · intro w'
        go_simp
        with_reducible rfl
      rotate_left
      · simp only [Act.put, List.setIfInBounds_toArray, List.set_cons_zero, List.set_cons_succ, i64_w, i32_w]
        rfl
      refine take_ (i := 3) (N := some 32) (v := ?_) (a' := ?_) #[true, true, true, true, true, false, false, false, false, false, false, false] rfl rfl (by kernel_rfl) (fun _ _ _ h => h) (Or.inl ⟨by rfl, ?_⟩) hHeld ?_ ?_
      rotate_left
      · intro w' hS'
        have x0' := pw_cell_below hS' x0; have x1' := pw_cell_below hS' x1; have s0' := pw_cell_below hS' s0; have s1' := pw_cell_below hS' s1; have lk2 := HLK3.out w' hS'
        go_simp
        with_reducible rfl
      rotate_left
      · simp only [Act.put, List.setIfInBounds_toArray, List.set_cons_zero, List.set_cons_succ, i64_w, i32_w]
        rfl
      refine take_ (i := 5) (N := some 34) (v := ?_) (a' := ?_) #[true, true, true, true, true, true, false, false, false, false, false, false] rfl rfl (by kernel_rfl) (fun _ _ _ h => h) (Or.inl ⟨by rfl, ?_⟩) hHeld ?_ ?_
      rotate_left
      · intro w' hS'
        have x0' := pw_cell_below hS' x0; have x1' := pw_cell_below hS' x1; have s0' := pw_cell_below hS' s0; have s1' := pw_cell_below hS' s1; have lk2 := HLK3.out w' hS'
        go_simp
        with_reducible rfl
      rotate_left
      · simp only [Act.put, List.setIfInBounds_toArray, List.set_cons_zero, List.set_cons_succ, i64_w, i32_w]
        rfl
      refine take_ (i := 6) (N := some 35) (v := ?_) (a' := ?_) #[true, true, true, true, true, true, true, false, false, false, false, false] rfl rfl (by kernel_rfl) (fun _ _ _ h => h) (Or.inl ⟨by rfl, ?_⟩) hHeld ?_ ?_
      rotate_left
      · intro w' hS'
        have x0' := pw_cell_below hS' x0; have x1' := pw_cell_below hS' x1; have s0' := pw_cell_below hS' s0; have s1' := pw_cell_below hS' s1; have lk2 := HLK3.out w' hS'
        go_simp
        with_reducible rfl
      rotate_left
      · simp only [Act.put, List.setIfInBounds_toArray, List.set_cons_zero, List.set_cons_succ, i64_w, i32_w]
        rfl
      refine pure_ (i := 7) (N := some 28) (v := ?_) (a' := ?_) #[true, true, true, true, true, true, true, true, false, false, false, false] rfl rfl (by kernel_rfl) (fun _ _ _ h => h) (Or.inl ⟨by rfl, ?_⟩) ?_ ?_
      rotate_left
      · intro w'
        go_simp
        with_reducible rfl
      rotate_left
      · simp only [Act.put, List.setIfInBounds_toArray, List.set_cons_zero, List.set_cons_succ, i64_w, i32_w]
        rfl
      refine pure_ (i := 8) (N := some 36) (v := ?_) (a' := ?_) #[true, true, true, true, true, true, true, true, true, false, false, false] rfl rfl (by kernel_rfl) (fun _ _ _ h => h) (Or.inl ⟨by rfl, ?_⟩) ?_ ?_
      rotate_left
      · intro w'
        go_simp
        with_reducible rfl
      rotate_left
      · simp only [Act.put, List.setIfInBounds_toArray, List.set_cons_zero, List.set_cons_succ, i64_w, i32_w]
        rfl
      refine pure_ (i := 9) (N := some 37) (v := ?_) (a' := ?_) #[true, true, true, true, true, true, true, true, true, true, false, false] rfl rfl (by kernel_rfl) (fun _ _ _ h => h) (Or.inl ⟨by rfl, ?_⟩) ?_ ?_
      rotate_left
      · intro w'
        go_simp
        with_reducible rfl
      rotate_left
      · simp only [Act.put, List.setIfInBounds_toArray, List.set_cons_zero, List.set_cons_succ, i64_w, i32_w]
        rfl
      refine pure_ (i := 10) (N := some 9) (v := ?_) (a' := ?_) #[true, true, true, true, true, true, true, true, true, true, true, false] rfl rfl (by kernel_rfl) (fun _ _ _ h => h) (Or.inl ⟨by rfl, ?_⟩) ?_ ?_
      rotate_left
      · intro w'
        go_simp
        with_reducible rfl
      rotate_left
      · simp only [Act.put, List.setIfInBounds_toArray, List.set_cons_zero, List.set_cons_succ, i64_w, i32_w]
        rfl
      refine pure_ (i := 11) (N := some 10) (v := ?_) (a' := ?_) #[true, true, true, true, true, true, true, true, true, true, true, true] rfl rfl (by kernel_rfl) (fun _ _ _ h => h) (Or.inl ⟨by rfl, ?_⟩) ?_ ?_
      rotate_left
      · intro w'
        go_simp
        with_reducible rfl
      rotate_left
      · simp only [Act.put, List.setIfInBounds_toArray, List.set_cons_zero, List.set_cons_succ, i64_w, i32_w]
        rfl
      refine done_ (by kernel_rfl) ?_
      have HB5 := Aside0.mk (below_drew1 HB4.out)
      have HS5 := Aside0.mk (HS0.out.below HB5.out)
      have HX5 := Aside0.mk (show W4.drew.heap[gf]? = some (.cells #[.int .u64 (seq : Nat), .int .i64 win, .slice Ar recs.length cr] 44 (0, 0)) from HX4.out)
      have HO5 := Aside0.mk (pw_own_below HO4.out hS0.out)
      have HXB5 := Aside0.mk (show W4.drew.heap[g]? = some (.cells (skC (some ml) (some mw) cs) 54 (0, 0)) from HXB4.out)
      have HXK5 := Aside0.mk (show W4.drew.heap[W.heap.size]? = _ from HXK.out)
      have HM5 := Aside0.mk (own_map_keep HM1b.out (Keep.of_below (F := fun _ => False) hS0.out) id)
      have HN5 := Aside0.mk (own_map_keep HM2b.out (Keep.of_below (F := fun _ => False) hS0.out) id)
      have HY5 := Aside0.mk (HYS.out.keep (Keep.of_below (F := fun _ => False) hS0.out) fun _ _ => id)
      have HQS := Aside0.mk (HQR.out.below hS0.out)
      clear x0 x1 x2 s0 s1 HLK3 HB4 HX4 HO4 HXB4 HS4 HXK HM1b HM2b HYS hS0 hHeld
      generalize W4.drew = W5 at HB5 HS5 HX5 HO5 HXB5 HXK5 HM5 HN5 HY5 HQS ⊢
      generalize W.heap.size = gk at HXK5 ⊢
      have y3 : W5.cell? ⟨gk, 3, none⟩ = some (.slice Ab e0.2.length cb) := (blk_cell HXK5.out 3).trans rfl
      have HEQ := Aside0.mk (equal_calls (c0 := cb) (c1 := cp) e0.2 bs HQS.out HQ.out.1 (HR.out.below HB5.out) HL.out.2.1)
      obtain ⟨q, hq⟩ : ∃ q, q = decide (e0.2 = bs) := ⟨_, rfl⟩
      rw [← hq] at HEQ
      have HT := Aside0.mk hT
      have HQQ := Aside0.mk hq
      clear hq hT
      cases q with
      | false =>
        go_wp2_with (first | (go_at_call 40; (with_reducible refine HEQ.out.mono ?_); rintro e_ w6 ⟨rfl, hb⟩; have HB6 := Aside0.mk (HB5.out.trans (hb.mono HB5.out.size)); clear hb))
        go_ret
        rw [HT.out, if_neg (of_decide_eq_false HQQ.out.symm)]
        exact ⟨rfl, HS0.out.below HB6.out, Keep.of_below HB6.out⟩
      | true =>
        go_wp2_with (first | (go_at_call 40; (with_reducible refine HEQ.out.mono ?_); rintro e_ w6 ⟨rfl, hb⟩; have HB6 := Aside0.mk (HB5.out.trans (hb.mono HB5.out.size)); clear hb))
        go_ret
        rw [HT.out, if_pos (of_decide_eq_true HQQ.out.symm)]
        exact ⟨rfl, HS0.out.below HB6.out, Keep.of_below HB6.out⟩
    | none =>
      rw [hfd] at hT
      dsimp only at hT
      have hnone : ∀ e ∈ k, e.1.seq ≠ seq := fun e he h => by
        have := List.find?_eq_none.1 hfd e he
        simp [h] at this
      have hany : (k.any fun e => decide (e.1.seq = seq)) = false := by
        rw [List.any_eq_false]
        intro e he
        simpa using hnone e he
      have hhas := HY.out.has1 seq
      rw [hany] at hhas
      rw [hany, atKey_of_not_has hhas] at HLK1
      have HNO := Aside0.mk hnone
      simp only [unheld] at HLK1
      unfold zeroKept at HLK1
      clear hfd hnone hany hhas
      refine start_ (n := 13) (S := fun w' => Below W.heap.size W w') (ds := []) #[false, false, false, false, false, false, false, false, false, false, false, false, false] (by kernel_rfl) rfl rfl (below_drew1 (Below.refl _ _)) (fun hHeld => ?_)
      have hS0 := Aside0.mk (show Below W.heap.size W W.drew from below_drew1 (Below.refl _ _))
      refine pure_ (i := 0) (N := some 19) (v := ?_) (a' := ?_) #[true, false, false, false, false, false, false, false, false, false, false, false, false] rfl rfl (by kernel_rfl) (fun _ _ _ h => h) (Or.inl ⟨by rfl, ?_⟩) ?_ ?_
      rotate_left
      · intro w'
        go_simp
        with_reducible rfl
      rotate_left
      · simp only [Act.put, List.setIfInBounds_toArray, List.set_cons_zero, List.set_cons_succ, i64_w, i32_w]
        rfl
      refine pure_ (i := 1) (N := some 20) (v := ?_) (a' := ?_) #[true, true, false, false, false, false, false, false, false, false, false, false, false] rfl rfl (by kernel_rfl) (fun _ _ _ h => h) (Or.inl ⟨by rfl, ?_⟩) ?_ ?_
      rotate_left
      · intro w'
        go_simp
        with_reducible rfl
      rotate_left
      · simp only [Act.put, List.setIfInBounds_toArray, List.set_cons_zero, List.set_cons_succ, i64_w, i32_w]
        rfl
      refine pure_ (i := 2) (N := some 21) (v := ?_) (a' := ?_) #[true, true, true, false, false, false, false, false, false, false, false, false, false] rfl rfl (by kernel_rfl) (fun _ _ _ h => h) (Or.inl ⟨by rfl, ?_⟩) ?_ ?_
      rotate_left
      · intro w'
        go_simp
        with_reducible rfl
      rotate_left
      · simp only [Act.put, List.setIfInBounds_toArray, List.set_cons_zero, List.set_cons_succ, i64_w, i32_w]
        rfl
      refine pure_ (i := 4) (N := some 23) (v := ?_) (a' := ?_) #[true, true, true, false, true, false, false, false, false, false, false, false, false] rfl rfl (by kernel_rfl) (fun _ _ _ h => h) (Or.inl ⟨by rfl, ?_⟩) ?_ ?_
      rotate_left
      · intro w'
        go_simp
        with_reducible rfl
      rotate_left
      · simp only [Act.put, List.setIfInBounds_toArray, List.set_cons_zero, List.set_cons_succ, i64_w, i32_w]
        rfl
      refine take_ (i := 3) (N := some 22) (v := ?_) (a' := ?_) #[true, true, true, true, true, false, false, false, false, false, false, false, false] rfl rfl (by kernel_rfl) (fun _ _ _ h => h) (Or.inl ⟨by rfl, ?_⟩) hHeld ?_ ?_
      rotate_left
      · intro w' hS'
        have x0' := pw_cell_below hS' x0; have x1' := pw_cell_below hS' x1; have x2' := pw_cell_below hS' x2; have s0' := pw_cell_below hS' s0; have s1' := pw_cell_below hS' s1; have lk1 := HLK1.out w' hS'; have lk2 := HLK2.out w' hS'
        go_simp
        with_reducible rfl
      rotate_left
      · simp only [Act.put, List.setIfInBounds_toArray, List.set_cons_zero, List.set_cons_succ, i64_w, i32_w]
        rfl
      refine take_ (i := 5) (N := some 24) (v := ?_) (a' := ?_) #[true, true, true, true, true, true, false, false, false, false, false, false, false] rfl rfl (by kernel_rfl) (fun _ _ _ h => h) (Or.inl ⟨by rfl, ?_⟩) hHeld ?_ ?_
      rotate_left
      · intro w' hS'
        have x0' := pw_cell_below hS' x0; have x1' := pw_cell_below hS' x1; have x2' := pw_cell_below hS' x2; have s0' := pw_cell_below hS' s0; have s1' := pw_cell_below hS' s1; have lk1 := HLK1.out w' hS'; have lk2 := HLK2.out w' hS'
        go_simp
        with_reducible rfl
      rotate_left
      · simp only [Act.put, List.setIfInBounds_toArray, List.set_cons_zero, List.set_cons_succ, i64_w, i32_w]
        rfl
      refine take_ (i := 6) (N := some 25) (v := ?_) (a' := ?_) #[true, true, true, true, true, true, true, false, false, false, false, false, false] rfl rfl (by kernel_rfl) (fun _ _ _ h => h) (Or.inl ⟨by rfl, ?_⟩) hHeld ?_ ?_
      rotate_left
      · intro w' hS'
        have x0' := pw_cell_below hS' x0; have x1' := pw_cell_below hS' x1; have x2' := pw_cell_below hS' x2; have s0' := pw_cell_below hS' s0; have s1' := pw_cell_below hS' s1; have lk1 := HLK1.out w' hS'; have lk2 := HLK2.out w' hS'
        go_simp
        with_reducible rfl
      rotate_left
      · simp only [Act.put, List.setIfInBounds_toArray, List.set_cons_zero, List.set_cons_succ, i64_w, i32_w]
        rfl
      refine pure_ (i := 7) (N := some 18) (v := ?_) (a' := ?_) #[true, true, true, true, true, true, true, true, false, false, false, false, false] rfl rfl (by kernel_rfl) (fun _ _ _ h => h) (Or.inl ⟨by rfl, ?_⟩) ?_ ?_
      rotate_left
      · intro w'
        go_simp
        with_reducible rfl
      rotate_left
      · simp only [Act.put, List.setIfInBounds_toArray, List.set_cons_zero, List.set_cons_succ, i64_w, i32_w]
        rfl
      refine pure_ (i := 8) (N := some 26) (v := ?_) (a' := ?_) #[true, true, true, true, true, true, true, true, true, false, false, false, false] rfl rfl (by kernel_rfl) (fun _ _ _ h => h) (Or.inl ⟨by rfl, ?_⟩) ?_ ?_
      rotate_left
      · intro w'
        go_simp
        with_reducible rfl
      rotate_left
      · simp only [Act.put, List.setIfInBounds_toArray, List.set_cons_zero, List.set_cons_succ, i64_w, i32_w]
        rfl
      refine pure_ (i := 9) (N := some 27) (v := ?_) (a' := ?_) #[true, true, true, true, true, true, true, true, true, true, false, false, false] rfl rfl (by kernel_rfl) (fun _ _ _ h => h) (Or.inl ⟨by rfl, ?_⟩) ?_ ?_
      rotate_left
      · intro w'
        go_simp
        with_reducible rfl
      rotate_left
      · simp only [Act.put, List.setIfInBounds_toArray, List.set_cons_zero, List.set_cons_succ, i64_w, i32_w]
        rfl
      refine one_ (i := 10) (N := some 7) #[true, true, true, true, true, true, true, true, true, true, true, false, false] rfl rfl (by kernel_rfl) (by decide) (fun K hK => ?_)
      refine value_ (w1 := W.drew.alloc (.cells #[.int .u64 0, .int .i64 0, .slice none 0 0, .slice none 0 0] 71)) (v := .pointer (some ⟨W.heap.size, 0, none⟩)) (by rfl) rfl (by go_simp <;> rfl) ?_
      have hS1 := Aside0.mk (show Below W.heap.size W (W.drew.alloc (.cells #[.int .u64 0, .int .i64 0, .slice none 0 0, .slice none 0 0] 71)) from below_alloc hS0.out _)
      refine hK.out _ _ hS1.out (fun hHeld => ?_)
      clear hK K
      refine norm_ (a' := ?_) ?_ ?_
      rotate_left
      · show Act.put _ (some 7) _ = _
        simp only [Act.put, List.setIfInBounds_toArray, List.set_cons_zero, List.set_cons_succ, i64_w, i32_w]
        rfl
      refine one_ (i := 11) (N := none) #[true, true, true, true, true, true, true, true, true, true, true, true, false] rfl rfl (by kernel_rfl) (by decide) (fun K hK => ?_)
      refine skip_ (w1 := W.drew.alloc (.cells #[.int .u64 0, .int .i64 0, .slice none 0 0, .slice none 0 0] 71)) (by rfl) rfl (by go_simp; first | done | rfl) ?_
      have hS2 := Aside0.mk (show Below W.heap.size W (W.drew.alloc (.cells #[.int .u64 0, .int .i64 0, .slice none 0 0, .slice none 0 0] 71)) from below_alloc hS0.out _)
      refine hK.out _ _ hS2.out (fun hHeld => ?_)
      clear hK K
      refine pure_ (i := 12) (N := some 8) (v := ?_) (a' := ?_) #[true, true, true, true, true, true, true, true, true, true, true, true, true] rfl rfl (by kernel_rfl) (fun _ _ _ h => h) (Or.inl ⟨by rfl, ?_⟩) ?_ ?_
      rotate_left
      · intro w'
        go_simp
        with_reducible rfl
      rotate_left
      · simp only [Act.put, List.setIfInBounds_toArray, List.set_cons_zero, List.set_cons_succ, i64_w, i32_w]
        rfl
      refine done_ (by kernel_rfl) ?_
      have HXK := Aside0.mk (show (W.drew.alloc (.cells #[.int .u64 0, .int .i64 0, .slice none 0 0, .slice none 0 0] 71)).heap[W.heap.size]? = some (.cells #[.int .u64 0, .int .i64 0, .slice none 0 0, .slice none 0 0] 71 (0, 0)) from blk_new W.drew _)
      clear hS0 hS1
      generalize W.drew.alloc (.cells #[.int .u64 0, .int .i64 0, .slice none 0 0, .slice none 0 0] 71) = W4 at hS2 HXK ⊢
      have HB4 := Aside0.mk (HB.out.trans (hS2.out.mono HB.out.size))
      have HX4 := Aside0.mk ((hS2.out.block _ (blk_lt HX.out)).trans HX.out)
      have HO4 := Aside0.mk (pw_own_below HO.out hS2.out)
      have HXB4 := Aside0.mk ((hS2.out.block _ (blk_lt HXB.out)).trans HXB.out)
      have HS4 := Aside0.mk (HS0.out.below HB4.out)
      have HM1b := Aside0.mk (own_map_keep HM1.out (Keep.of_below (F := fun _ => False) hS2.out) id)
      have HM2b := Aside0.mk (own_map_keep HM2.out (Keep.of_below (F := fun _ => False) hS2.out) id)
      have HLK3 := Aside0.mk (fun (W' : World) (h : Below W4.heap.size W4 W') => HLK2.out W' (hS2.out.trans (h.mono hS2.out.size)))
      have HYS := Aside0.mk (HY.out.keep (Keep.of_below (F := fun _ => False) hS2.out) fun _ _ => id)
      clear x0 x1 x2 s0 s1 HLK1 HLK2 HX HO HXB HS hS2 HM1 HM2 HY hHeld
      have x0 : W4.cell? ⟨gf, 0, none⟩ = some (.int .u64 (seq : Nat)) := (blk_cell HX4.out 0).trans rfl
      have x1 : W4.cell? ⟨gf, 1, none⟩ = some (.int .i64 win) := (blk_cell HX4.out 1).trans rfl
      have x2 : W4.cell? ⟨gf, 2, none⟩ = some (.slice Ar recs.length cr) := (blk_cell HX4.out 2).trans rfl
      have s0 : W4.cell? ⟨g, 0, none⟩ = some (.map (some ml)) := (blk_cell HXB4.out 0).trans rfl
      have s1 : W4.cell? ⟨g, 1, none⟩ = some (.map (some mw)) := (blk_cell HXB4.out 1).trans rfl
      go_upto_region 5 with (fail)
      have HT := Aside0.mk hT
      clear hT
      obtain ⟨b2, hb2⟩ : ∃ b2, b2 = (k.any fun e => decide (e.1.win = win)) := ⟨_, rfl⟩
      rw [← hb2] at HLK3 HT
      have HB2 := Aside0.mk hb2
      clear hb2
      obtain ⟨u2, hu2⟩ : ∃ u2, u2 = unheld (D2.atKey (iL win) (.held (.int .u64 0))) := ⟨_, rfl⟩
      rw [← hu2] at HLK3
      clear hu2
      refine start_ (n := 12) (S := fun w' => Below W4.heap.size W4 w') (ds := []) #[false, false, false, false, false, false, false, false, false, false, false, false] (by kernel_rfl) rfl rfl (below_drew1 (Below.refl _ _)) (fun hHeld => ?_)
      have hS0 := Aside0.mk (show Below W4.heap.size W4 W4.drew from below_drew1 (Below.refl _ _))
      refine pure_ (i := 0) (N := some 29) (v := ?_) (a' := ?_) #[true, false, false, false, false, false, false, false, false, false, false, false] rfl rfl (by kernel_rfl) (fun _ _ _ h => h) (Or.inl ⟨by rfl, ?_⟩) ?_ ?_
      rotate_left
      · intro w'
        go_simp
        with_reducible rfl
      rotate_left
      · simp only [Act.put, List.setIfInBounds_toArray, List.set_cons_zero, List.set_cons_succ, i64_w, i32_w]
        rfl
      refine pure_ (i := 1) (N := some 30) (v := ?_) (a' := ?_) #[true, true, false, false, false, false, false, false, false, false, false, false] rfl rfl (by kernel_rfl) (fun _ _ _ h => h) (Or.inl ⟨by rfl, ?_⟩) ?_ ?_
      rotate_left
      · intro w'
        go_simp
        with_reducible rfl
      rotate_left
      · simp only [Act.put, List.setIfInBounds_toArray, List.set_cons_zero, List.set_cons_succ, i64_w, i32_w]
        rfl
      refine pure_ (i := 2) (N := some 31) (v := ?_) (a' := ?_) #[true, true, true, false, false, false, false, false, false, false, false, false] rfl rfl (by kernel_rfl) (fun _ _ _ h => h) (Or.inl ⟨by rfl, ?_⟩) ?_ ?_
      rotate_left
      · intro w'
        go_simp
        with_reducible rfl
      rotate_left
      · simp only [Act.put, List.setIfInBounds_toArray, List.set_cons_zero, List.set_cons_succ, i64_w, i32_w]
        rfl
      refine pure_ (i := 4) (N := some 33) (v := ?_) (a' := ?_) #[true, true, true, false, true, false, false, false, false, false, false, false] rfl rfl (by kernel_rfl) (fun _ _ _ h => h) (Or.inl ⟨by rfl, ?_⟩) ?_ ?_
      rotate_left
      · intro w'
        go_simp
        with_reducible rfl
      rotate_left
      · simp only [Act.put, List.setIfInBounds_toArray, List.set_cons_zero, List.set_cons_succ, i64_w, i32_w]
        rfl
      refine take_ (i := 3) (N := some 32) (v := ?_) (a' := ?_) #[true, true, true, true, true, false, false, false, false, false, false, false] rfl rfl (by kernel_rfl) (fun _ _ _ h => h) (Or.inl ⟨by rfl, ?_⟩) hHeld ?_ ?_
      rotate_left
      · intro w' hS'
        have x0' := pw_cell_below hS' x0; have x1' := pw_cell_below hS' x1; have s0' := pw_cell_below hS' s0; have s1' := pw_cell_below hS' s1; have lk2 := HLK3.out w' hS'
        go_simp
        with_reducible rfl
      rotate_left
      · simp only [Act.put, List.setIfInBounds_toArray, List.set_cons_zero, List.set_cons_succ, i64_w, i32_w]
        rfl
      refine take_ (i := 5) (N := some 34) (v := ?_) (a' := ?_) #[true, true, true, true, true, true, false, false, false, false, false, false] rfl rfl (by kernel_rfl) (fun _ _ _ h => h) (Or.inl ⟨by rfl, ?_⟩) hHeld ?_ ?_
      rotate_left
      · intro w' hS'
        have x0' := pw_cell_below hS' x0; have x1' := pw_cell_below hS' x1; have s0' := pw_cell_below hS' s0; have s1' := pw_cell_below hS' s1; have lk2 := HLK3.out w' hS'
        go_simp
        with_reducible rfl
      rotate_left
      · simp only [Act.put, List.setIfInBounds_toArray, List.set_cons_zero, List.set_cons_succ, i64_w, i32_w]
        rfl
      refine take_ (i := 6) (N := some 35) (v := ?_) (a' := ?_) #[true, true, true, true, true, true, true, false, false, false, false, false] rfl rfl (by kernel_rfl) (fun _ _ _ h => h) (Or.inl ⟨by rfl, ?_⟩) hHeld ?_ ?_
      rotate_left
      · intro w' hS'
        have x0' := pw_cell_below hS' x0; have x1' := pw_cell_below hS' x1; have s0' := pw_cell_below hS' s0; have s1' := pw_cell_below hS' s1; have lk2 := HLK3.out w' hS'
        go_simp
        with_reducible rfl
      rotate_left
      · simp only [Act.put, List.setIfInBounds_toArray, List.set_cons_zero, List.set_cons_succ, i64_w, i32_w]
        rfl
      refine pure_ (i := 7) (N := some 28) (v := ?_) (a' := ?_) #[true, true, true, true, true, true, true, true, false, false, false, false] rfl rfl (by kernel_rfl) (fun _ _ _ h => h) (Or.inl ⟨by rfl, ?_⟩) ?_ ?_
      rotate_left
      · intro w'
        go_simp
        with_reducible rfl
      rotate_left
      · simp only [Act.put, List.setIfInBounds_toArray, List.set_cons_zero, List.set_cons_succ, i64_w, i32_w]
        rfl
      refine pure_ (i := 8) (N := some 36) (v := ?_) (a' := ?_) #[true, true, true, true, true, true, true, true, true, false, false, false] rfl rfl (by kernel_rfl) (fun _ _ _ h => h) (Or.inl ⟨by rfl, ?_⟩) ?_ ?_
      rotate_left
      · intro w'
        go_simp
        with_reducible rfl
      rotate_left
      · simp only [Act.put, List.setIfInBounds_toArray, List.set_cons_zero, List.set_cons_succ, i64_w, i32_w]
        rfl
      refine pure_ (i := 9) (N := some 37) (v := ?_) (a' := ?_) #[true, true, true, true, true, true, true, true, true, true, false, false] rfl rfl (by kernel_rfl) (fun _ _ _ h => h) (Or.inl ⟨by rfl, ?_⟩) ?_ ?_
      rotate_left
      · intro w'
        go_simp
        with_reducible rfl
      rotate_left
      · simp only [Act.put, List.setIfInBounds_toArray, List.set_cons_zero, List.set_cons_succ, i64_w, i32_w]
        rfl
      refine pure_ (i := 10) (N := some 9) (v := ?_) (a' := ?_) #[true, true, true, true, true, true, true, true, true, true, true, false] rfl rfl (by kernel_rfl) (fun _ _ _ h => h) (Or.inl ⟨by rfl, ?_⟩) ?_ ?_
      rotate_left
      · intro w'
        go_simp
        with_reducible rfl
      rotate_left
      · simp only [Act.put, List.setIfInBounds_toArray, List.set_cons_zero, List.set_cons_succ, i64_w, i32_w]
        rfl
      refine pure_ (i := 11) (N := some 10) (v := ?_) (a' := ?_) #[true, true, true, true, true, true, true, true, true, true, true, true] rfl rfl (by kernel_rfl) (fun _ _ _ h => h) (Or.inl ⟨by rfl, ?_⟩) ?_ ?_
      rotate_left
      · intro w'
        go_simp
        with_reducible rfl
      rotate_left
      · simp only [Act.put, List.setIfInBounds_toArray, List.set_cons_zero, List.set_cons_succ, i64_w, i32_w]
        rfl
      refine done_ (by kernel_rfl) ?_
      have HB5 := Aside0.mk (below_drew1 HB4.out)
      have HS5 := Aside0.mk (HS0.out.below HB5.out)
      have HX5 := Aside0.mk (show W4.drew.heap[gf]? = some (.cells #[.int .u64 (seq : Nat), .int .i64 win, .slice Ar recs.length cr] 44 (0, 0)) from HX4.out)
      have HO5 := Aside0.mk (pw_own_below HO4.out hS0.out)
      have HXB5 := Aside0.mk (show W4.drew.heap[g]? = some (.cells (skC (some ml) (some mw) cs) 54 (0, 0)) from HXB4.out)
      have HXK5 := Aside0.mk (show W4.drew.heap[W.heap.size]? = _ from HXK.out)
      have HM5 := Aside0.mk (own_map_keep HM1b.out (Keep.of_below (F := fun _ => False) hS0.out) id)
      have HN5 := Aside0.mk (own_map_keep HM2b.out (Keep.of_below (F := fun _ => False) hS0.out) id)
      have HY5 := Aside0.mk (HYS.out.keep (Keep.of_below (F := fun _ => False) hS0.out) fun _ _ => id)
      skip
      clear x0 x1 x2 s0 s1 HLK3 HB4 HX4 HO4 HXB4 HS4 HXK HM1b HM2b HYS hS0 hHeld
      generalize W4.drew = W5 at HB5 HS5 HX5 HO5 HXB5 HXK5 HM5 HN5 HY5  ⊢
      generalize W.heap.size = gk at HXK5 ⊢
      cases b2 with
      | true =>
        rw [if_pos rfl] at HT
        go_wp2
        go_ret
        rw [HT.out]
        exact ⟨rfl, HS5.out, Keep.of_below HB5.out⟩
      | false =>
        rw [if_neg (by decide)] at HT
        have s0 : W5.cell? ⟨g, 0, none⟩ = some (.map (some ml)) := (blk_cell HXB5.out 0).trans rfl
        have s1 : W5.cell? ⟨g, 1, none⟩ = some (.map (some mw)) := (blk_cell HXB5.out 1).trans rfl
        have hln := lenL HM5.out
        rw [HY5.out.size1] at hln
        by_cases hbig : 65536 ≤ k.length
        · have z1 : decide ((k.length : Int) ≥ 65536) = true := decide_eq_true (by omega)
          have z2 : decide ((65536 : Int) ≤ (k.length : Int)) = true := decide_eq_true (by omega)
          have z3 : decide (65536 ≤ k.length) = true := decide_eq_true hbig
          rw [if_pos hbig] at HT
          clear hbig
          go_wp2
          go_ret
          rw [HT.out]
          exact ⟨rfl, HS5.out, Keep.of_below HB5.out⟩
        · have z1 : decide ((k.length : Int) ≥ 65536) = false := decide_eq_false (by omega)
          have z2 : decide ((65536 : Int) ≤ (k.length : Int)) = false := decide_eq_false (by omega)
          have z3 : decide (65536 ≤ k.length) = false := decide_eq_false hbig
          rw [if_neg hbig] at HT
          clear hbig
          have heqm := eq_map
          obtain ⟨ad, hA, _⟩ := HR.out.2.2 (by have := decP_len HDF.out; omega)
          subst hA
          go_upto_region 16 with (fail)
          have x0 : W5.cell? ⟨gf, 0, none⟩ = some (.int .u64 (seq : Nat)) := (blk_cell HX5.out 0).trans rfl
          have x1 : W5.cell? ⟨gf, 1, none⟩ = some (.int .i64 win) := (blk_cell HX5.out 1).trans rfl
          have x2 : W5.cell? ⟨gf, 2, none⟩ = some (.slice Ar recs.length cr) := (blk_cell HX5.out 2).trans rfl
          refine start_ (n := 11) (S := fun w' => Below W5.heap.size W5 w') (ds := [10]) #[false, false, false, false, false, false, false, false, false, false, false] (by kernel_rfl) rfl rfl (below_drew1 (Below.refl _ _)) (fun hHeld => ?_)
          have hS0 := Aside0.mk (show Below W5.heap.size W5 W5.drew from below_drew1 (Below.refl _ _))
          refine pure_ (i := 0) (N := some 70) (v := ?_) (a' := ?_) #[true, false, false, false, false, false, false, false, false, false, false] rfl rfl (by kernel_rfl) (fun _ _ _ h => h) (Or.inl ⟨by rfl, ?_⟩) ?_ ?_
          rotate_left
          · intro w'
            go_simp
            with_reducible rfl
          rotate_left
          · simp only [Act.put, List.setIfInBounds_toArray, List.set_cons_zero, List.set_cons_succ, i64_w, i32_w]
            rfl
          refine pure_ (i := 1) (N := some 71) (v := ?_) (a' := ?_) #[true, true, false, false, false, false, false, false, false, false, false] rfl rfl (by kernel_rfl) (fun _ _ _ h => h) (Or.inl ⟨by rfl, ?_⟩) ?_ ?_
          rotate_left
          · intro w'
            go_simp
            with_reducible rfl
          rotate_left
          · simp only [Act.put, List.setIfInBounds_toArray, List.set_cons_zero, List.set_cons_succ, i64_w, i32_w]
            rfl
          refine pure_ (i := 2) (N := some 72) (v := ?_) (a' := ?_) #[true, true, true, false, false, false, false, false, false, false, false] rfl rfl (by kernel_rfl) (fun _ _ _ h => h) (Or.inl ⟨by rfl, ?_⟩) ?_ ?_
          rotate_left
          · intro w'
            go_simp
            with_reducible rfl
          rotate_left
          · simp only [Act.put, List.setIfInBounds_toArray, List.set_cons_zero, List.set_cons_succ, i64_w, i32_w]
            rfl
          refine pure_ (i := 4) (N := some 74) (v := ?_) (a' := ?_) #[true, true, true, false, true, false, false, false, false, false, false] rfl rfl (by kernel_rfl) (fun _ _ _ h => h) (Or.inl ⟨by rfl, ?_⟩) ?_ ?_
          rotate_left
          · intro w'
            go_simp
            with_reducible rfl
          rotate_left
          · simp only [Act.put, List.setIfInBounds_toArray, List.set_cons_zero, List.set_cons_succ, i64_w, i32_w]
            rfl
          refine pure_ (i := 7) (N := some 77) (v := ?_) (a' := ?_) #[true, true, true, false, true, false, false, true, false, false, false] rfl rfl (by kernel_rfl) (fun _ _ _ h => h) (Or.inl ⟨by rfl, ?_⟩) ?_ ?_
          rotate_left
          · intro w'
            go_simp
            with_reducible rfl
          rotate_left
          · simp only [Act.put, List.setIfInBounds_toArray, List.set_cons_zero, List.set_cons_succ, i64_w, i32_w]
            rfl
          refine take_ (i := 3) (N := some 73) (v := ?_) (a' := ?_) #[true, true, true, true, true, false, false, true, false, false, false] rfl rfl (by kernel_rfl) (fun _ _ _ h => h) (Or.inl ⟨by rfl, ?_⟩) hHeld ?_ ?_
          rotate_left
          · intro w' hS'
            have x0' := pw_cell_below hS' x0; have x1' := pw_cell_below hS' x1; have x2' := pw_cell_below hS' x2; have s0' := pw_cell_below hS' s0; have s1' := pw_cell_below hS' s1
            go_simp
            with_reducible rfl
          rotate_left
          · simp only [Act.put, List.setIfInBounds_toArray, List.set_cons_zero, List.set_cons_succ, i64_w, i32_w]
            rfl
          refine take_ (i := 5) (N := some 75) (v := ?_) (a' := ?_) #[true, true, true, true, true, true, false, true, false, false, false] rfl rfl (by kernel_rfl) (fun _ _ _ h => h) (Or.inl ⟨by rfl, ?_⟩) hHeld ?_ ?_
          rotate_left
          · intro w' hS'
            have x0' := pw_cell_below hS' x0; have x1' := pw_cell_below hS' x1; have x2' := pw_cell_below hS' x2; have s0' := pw_cell_below hS' s0; have s1' := pw_cell_below hS' s1
            go_simp
            with_reducible rfl
          rotate_left
          · simp only [Act.put, List.setIfInBounds_toArray, List.set_cons_zero, List.set_cons_succ, i64_w, i32_w]
            rfl
          refine take_ (i := 6) (N := some 76) (v := ?_) (a' := ?_) #[true, true, true, true, true, true, true, true, false, false, false] rfl rfl (by kernel_rfl) (fun _ _ _ h => h) (Or.inl ⟨by rfl, ?_⟩) hHeld ?_ ?_
          rotate_left
          · intro w' hS'
            have x0' := pw_cell_below hS' x0; have x1' := pw_cell_below hS' x1; have x2' := pw_cell_below hS' x2; have s0' := pw_cell_below hS' s0; have s1' := pw_cell_below hS' s1
            go_simp
            with_reducible rfl
          rotate_left
          · simp only [Act.put, List.setIfInBounds_toArray, List.set_cons_zero, List.set_cons_succ, i64_w, i32_w]
            rfl
          refine one_ (i := 8) (N := some 78) #[true, true, true, true, true, true, true, true, true, false, false] rfl rfl (by kernel_rfl) (by decide) (fun K hK => ?_)
          refine goes_ Tryz.func42 (by kernel_rfl) rfl #[.slice (some ad) bs.length cp] (by rfl) rfl rfl (by simp [Act.eval]) ?_
          refine (clone_calls ad bs cp ((HR.out.below HB5.out).below hS0.out) HL.out.1).mono ?_
          rintro e_ w8 ⟨Ac, cc, rfl, hc1, hc2, hc3, hb⟩
          refine ⟨_, rfl, ?_⟩
          have hSa := Aside0.mk (hS0.out.trans (hb.mono hS0.out.size))
          have HCL := Aside0.mk (And.intro hc1 (And.intro hc2 hc3))
          refine hK.out _ _ hSa.out (fun hHeld => ?_)
          clear hK K hb hc1 hc2 hc3
          refine norm_ (a' := ?_) ?_ ?_
          rotate_left
          · show Act.put _ (some 78) _ = _
            simp only [Act.put, List.setIfInBounds_toArray, List.set_cons_zero, List.set_cons_succ, i64_w, i32_w]
            rfl
          refine pure_ (i := 9) (N := some 79) (v := ?_) (a' := ?_) #[true, true, true, true, true, true, true, true, true, true, false] rfl rfl (by kernel_rfl) (fun _ _ _ h => h) (Or.inl ⟨by rfl, ?_⟩) ?_ ?_
          rotate_left
          · intro w'
            go_simp
            with_reducible rfl
          rotate_left
          · simp only [Act.put, List.setIfInBounds_toArray, List.set_cons_zero, List.set_cons_succ, i64_w, i32_w]
            rfl
          have hM8 := own_map_keep HM5.out (Keep.of_below (F := fun _ => False) hSa.out) id
          obtain ⟨w9, hrun, h9, hg9⟩ := hM8.update kL Tryz.underlying51 (by have := HL.out.2.2; unfold maxLen; omega) (keyOf_int_mk Tryz.underlying40 (wf_u HBD.out.1)) (show kR (.agg #[.int .u64 (seq : Nat), .int .i64 win, .slice Ar recs.length cr, .slice Ac bs.length cc]) = some (.held (.agg #[.int .u64 (seq : Nat), .int .i64 win, .slice Ar recs.length cr, .slice Ac bs.length cc]), []) from kR_mk _ _ _ _ (by simp [Value.oneCell']))
          have H9 := Aside0.mk (And.intro h9 hg9)
          clear hM8 h9 hg9
          refine last_ (i := 10) (N := none) #[true, true, true, true, true, true, true, true, true, true, true] rfl rfl (by kernel_rfl) (by decide) (fun K hK => ?_)
          refine skip_ (w1 := w9) (by rfl) rfl (by go_simp <;> rfl) ?_
          refine hK.out _ _ ?_
          clear hK K hrun
          refine done_ (by kernel_rfl) ?_
          have hml := HM5.out.lt
          have hmw := HN5.out.lt
          have HAP := Aside0.mk (And.intro hap hnok)
          clear hap hnok
          have K9 := Aside0.mk (((Keep.of_below (F := G2 ml mw) hSa.out).grown (row := some ml) H9.out.2 (fun j hj _ => by cases hj; exact Or.inl rfl)))
          have HB9 := Aside0.mk ((Keep.of_below (F := G2 ml mw) HB5.out).trans K9.out (fun _ _ => id))
          have hgf : ¬ G2 ml mw gf := by
            rintro (e | e)
            · obtain ⟨_, _, hb, _⟩ := HM5.out
              have h2 := HX5.out
              rw [e, hb] at h2
              cases h2
            · obtain ⟨_, _, hb, _⟩ := HN5.out
              have h2 := HX5.out
              rw [e, hb] at h2
              cases h2
          have hgg : ¬ G2 ml mw g := by
            rintro (e | e)
            · exact HAP.out.1.1 e
            · exact HAP.out.1.2.1 e
          have HX9 := Aside0.mk (K9.out.blk HX5.out hgf)
          have HXB9 := Aside0.mk (K9.out.blk HXB5.out hgg)
          have HN9 := Aside0.mk ((own_map_keep HN5.out (Keep.of_below (F := fun _ => False) hSa.out) id).kept H9.out.2 (fun e => HAP.out.1.2.2 (by injection e with e; exact e.symm)))
          have HGG := Aside0.mk (And.intro hgf hgg)
          have hNR : ∀ j, ok j → ¬ G2 ml mw j := by
            rintro j hj (e | e)
            · exact HAP.out.2.2.1 (e ▸ hj)
            · exact HAP.out.2.2.2 (e ▸ hj)
          have HNR := Aside0.mk hNR
          have HY9 := Aside0.mk (HY5.out.keep K9.out hNR)
          have HC9 := Aside0.mk (reads_keepF HCL.out.2.1 ((Keep.refl (G2 ml mw) w8).grown (row := some ml) H9.out.2 (fun j hj _ => by cases hj; exact Or.inl rfl)) (fun a ha _ => by
            have h1 := HCL.out.2.2 a ha
            have h2 := hS0.out.size
            rintro (e | e)
            · have : a.block = ml := e; have : W5.drew.heap.size = W5.heap.size := rfl; omega
            · have : a.block = mw := e; have : W5.drew.heap.size = W5.heap.size := rfl; omega))
          have HO9 := Aside0.mk (own_move HO5.out (w1 := w9) (fun j hj => K9.out.block j (own_lt HO5.out j hj) (by
            obtain ⟨cs', hcs⟩ := own_typed HO5.out j hj
            rintro (e | e)
            · obtain ⟨_, _, hb, _⟩ := HM5.out
              rw [show j = ml from e, hb] at hcs
              cases hcs
            · obtain ⟨_, _, hb, _⟩ := HN5.out
              rw [show j = mw from e, hb] at hcs
              cases hcs)))
          clear hgf hgg hNR x0 x1 x2 s0 s1 hln hS0
          have x0 : w9.cell? ⟨gf, 0, none⟩ = some (.int .u64 (seq : Nat)) := (blk_cell HX9.out 0).trans rfl
          have x1 : w9.cell? ⟨gf, 1, none⟩ = some (.int .i64 win) := (blk_cell HX9.out 1).trans rfl
          have s1 : w9.cell? ⟨g, 1, none⟩ = some (.map (some mw)) := (blk_cell HXB9.out 1).trans rfl
          go_upto_region 17 with (fail)
          refine start_ (n := 9) (S := fun w' => Below w9.heap.size w9 w') (ds := [8]) #[false, false, false, false, false, false, false, false, false] (by kernel_rfl) rfl rfl (below_drew1 (Below.refl _ _)) (fun hHeld => ?_)
          have hS0 := Aside0.mk (show Below w9.heap.size w9 w9.drew from below_drew1 (Below.refl _ _))
          refine pure_ (i := 0) (N := some 80) (v := ?_) (a' := ?_) #[true, false, false, false, false, false, false, false, false] rfl rfl (by kernel_rfl) (fun _ _ _ h => h) (Or.inl ⟨by rfl, ?_⟩) ?_ ?_
          rotate_left
          · intro w'
            go_simp
            with_reducible rfl
          rotate_left
          · simp only [Act.put, List.setIfInBounds_toArray, List.set_cons_zero, List.set_cons_succ, i64_w, i32_w]
            rfl
          refine pure_ (i := 1) (N := some 81) (v := ?_) (a' := ?_) #[true, true, false, false, false, false, false, false, false] rfl rfl (by kernel_rfl) (fun _ _ _ h => h) (Or.inl ⟨by rfl, ?_⟩) ?_ ?_
          rotate_left
          · intro w'
            go_simp
            with_reducible rfl
          rotate_left
          · simp only [Act.put, List.setIfInBounds_toArray, List.set_cons_zero, List.set_cons_succ, i64_w, i32_w]
            rfl
          refine pure_ (i := 2) (N := some 82) (v := ?_) (a' := ?_) #[true, true, true, false, false, false, false, false, false] rfl rfl (by kernel_rfl) (fun _ _ _ h => h) (Or.inl ⟨by rfl, ?_⟩) ?_ ?_
          rotate_left
          · intro w'
            go_simp
            with_reducible rfl
          rotate_left
          · simp only [Act.put, List.setIfInBounds_toArray, List.set_cons_zero, List.set_cons_succ, i64_w, i32_w]
            rfl
          refine pure_ (i := 4) (N := some 84) (v := ?_) (a' := ?_) #[true, true, true, false, true, false, false, false, false] rfl rfl (by kernel_rfl) (fun _ _ _ h => h) (Or.inl ⟨by rfl, ?_⟩) ?_ ?_
          rotate_left
          · intro w'
            go_simp
            with_reducible rfl
          rotate_left
          · simp only [Act.put, List.setIfInBounds_toArray, List.set_cons_zero, List.set_cons_succ, i64_w, i32_w]
            rfl
          refine pure_ (i := 6) (N := some 86) (v := ?_) (a' := ?_) #[true, true, true, false, true, false, true, false, false] rfl rfl (by kernel_rfl) (fun _ _ _ h => h) (Or.inl ⟨by rfl, ?_⟩) ?_ ?_
          rotate_left
          · intro w'
            go_simp
            with_reducible rfl
          rotate_left
          · simp only [Act.put, List.setIfInBounds_toArray, List.set_cons_zero, List.set_cons_succ, i64_w, i32_w]
            rfl
          refine take_ (i := 3) (N := some 83) (v := ?_) (a' := ?_) #[true, true, true, true, true, false, true, false, false] rfl rfl (by kernel_rfl) (fun _ _ _ h => h) (Or.inl ⟨by rfl, ?_⟩) hHeld ?_ ?_
          rotate_left
          · intro w' hS'
            have x0' := pw_cell_below hS' x0; have x1' := pw_cell_below hS' x1; have s1' := pw_cell_below hS' s1
            go_simp
            with_reducible rfl
          rotate_left
          · simp only [Act.put, List.setIfInBounds_toArray, List.set_cons_zero, List.set_cons_succ, i64_w, i32_w]
            rfl
          refine take_ (i := 5) (N := some 85) (v := ?_) (a' := ?_) #[true, true, true, true, true, true, true, false, false] rfl rfl (by kernel_rfl) (fun _ _ _ h => h) (Or.inl ⟨by rfl, ?_⟩) hHeld ?_ ?_
          rotate_left
          · intro w' hS'
            have x0' := pw_cell_below hS' x0; have x1' := pw_cell_below hS' x1; have s1' := pw_cell_below hS' s1
            go_simp
            with_reducible rfl
          rotate_left
          · simp only [Act.put, List.setIfInBounds_toArray, List.set_cons_zero, List.set_cons_succ, i64_w, i32_w]
            rfl
          refine take_ (i := 7) (N := some 87) (v := ?_) (a' := ?_) #[true, true, true, true, true, true, true, true, false] rfl rfl (by kernel_rfl) (fun _ _ _ h => h) (Or.inl ⟨by rfl, ?_⟩) hHeld ?_ ?_
          rotate_left
          · intro w' hS'
            have x0' := pw_cell_below hS' x0; have x1' := pw_cell_below hS' x1; have s1' := pw_cell_below hS' s1
            go_simp
            with_reducible rfl
          rotate_left
          · simp only [Act.put, List.setIfInBounds_toArray, List.set_cons_zero, List.set_cons_succ, i64_w, i32_w]
            rfl
          have hN10 := own_map_keep HN9.out (Keep.of_below (F := fun _ => False) hS0.out) id
          obtain ⟨w10, hrun, h10, hg10⟩ := hN10.update kW Tryz.underlying52 (by have := HL.out.2.2; unfold maxLen; omega) (keyOf_int_mk Tryz.underlying2 (wf_i HBD.out.2.1 HBD.out.2.2)) (show idR (.int .u64 (seq : Nat)) = some (.held (.int .u64 (seq : Nat)), []) from rfl)
          have H10 := Aside0.mk (And.intro h10 hg10)
          clear hN10 h10 hg10
          refine last_ (i := 8) (N := none) #[true, true, true, true, true, true, true, true, true] rfl rfl (by kernel_rfl) (by decide) (fun K hK => ?_)
          refine skip_ (w1 := w10) (by rfl) rfl (by go_simp <;> rfl) ?_
          refine hK.out _ _ ?_
          clear hK K hrun
          refine done_ (by kernel_rfl) ?_
          have K10 := Aside0.mk (((Keep.of_below (F := G2 ml mw) hS0.out).grown (row := some mw) H10.out.2 (fun j hj _ => by cases hj; exact Or.inr rfl)))
          go_wp2
          go_ret
          rw [HT.out]
          refine ⟨rfl, ⟨K10.out.blk HXB9.out HGG.out.2, ⟨D.put (uL seq) (.held (.agg #[.int .u64 (seq : Nat), .int .i64 win, .slice Ar recs.length cr, .slice Ac bs.length cc])), D2.put (iL win) (.held (.int .u64 (seq : Nat))), ?_, H10.out.1, ?_⟩, HAP.out.1, HAP.out.2⟩, HB9.out.trans K10.out fun _ _ => id⟩
          · exact ((own_map_keep H9.out.1 (Keep.of_below (F := fun _ => False) hS0.out) id).kept H10.out.2 (fun e => HAP.out.1.2.2 (Option.some.inj e)))
          · refine Says.cons (HY9.out.keep K10.out HNR.out) (HM5.out.tidy kL) (HN5.out.tidy kW) ⟨seq, win, recs⟩ bs (.agg #[.int .u64 (seq : Nat), .int .i64 win, .slice Ar recs.length cr, .slice Ac bs.length cc]) HBD.out HNO.out (fun e he h => ?_) ?_
            · have := HB2.out.symm
              rw [List.any_eq_false] at this
              have := this e he
              simp [h] at this
            · have hln2 : recs.length ≤ 9223372036854775807 := by
                rcases HO9.out.2 with ⟨_, h⟩ | ⟨_, _, _, _, _, _, h, h', _⟩
                · omega
                · unfold maxLen at h'; omega
              refine ⟨Ar, cr, Ac, cc, rfl, own_le HO9.out, RecsAt.keep (recsAt_of_row HO9.out hln2) K10.out (fun a ha hn => HNR.out _ ?_), HCL.out.1, reads_keepF HC9.out K10.out (fun a ha hn => HNR.out _ ?_), fun a ha hn => ?_, fun a ha hn => ?_⟩
              all_goals first
                | exact HOK.out _ (own_base HO9.out a.block (by rw [ha]; rfl))
                | exact HOK.out _ (Nat.le_trans HB5.out.size (by have := HCL.out.2.2 a ha; have : W5.drew.heap.size = W5.heap.size := rfl; omega))
  · skip
    rw [if_pos he] at hT
    have he1 : (e == 0) = false := beq_eq_false_iff_ne.2 he
    have HT := Aside0.mk hT
    clear he hT
    go_wp2
    go_ret
    rw [HT.out]
    exact ⟨rfl, HS.out, Keep.of_below HB.out⟩
end Go.Proofs.YtpihpkphhkcdlaaGreatDoor.Tk
