/- maps.Copy of the sink's maps into empty ones. -/
import Derived.Test.YtpihpkphhkcdlaaGreatDoorTo
namespace Go.Proofs.YtpihpkphhkcdlaaGreatDoor.Mc
open Go.RowKit Go.Maps Go.Proofs.YtpihpkphhkcdlaaGreatDoorW.PrintWords Go.Proofs.YtpihpkphhkcdlaaGreatDoorW.PrintLast Go.Proofs.YtpihpkphhkcdlaaGreatDoor.Tab Go.Proofs.YtpihpkphhkcdlaaGreatDoor.Kp Go.Proofs.YtpihpkphhkcdlaaGreatDoor.Pd Go.Proofs.YtpihpkphhkcdlaaGreatDoor.Sk Go.Proofs.YtpihpkphhkcdlaaGreatDoor.Lk
set_option linter.unusedVariables false
set_option linter.unusedSimpArgs false
set_option maxHeartbeats 4000000 in
set_option maxRecDepth 1000000 in
theorem copyL_calls (bd bs n : Nat) (D0 : DataW Value) (w : World) (hs : w.ownsMap Tryz.prog 40 kR bs n D0) (hd : w.ownsMap Tryz.prog 40 kR bd 0 (.map [])) (hne : bd ≠ bs) (hn : n ≤ 1000000) :
    Calls Tryz.prog 36 #[.map (some bd), .map (some bs)] w fun e w' => e = .returned (.tuple #[]) ∧ w'.ownsMap Tryz.prog 40 kR bd (Maps.size D0) D0 ∧ Keep (fun j => j = bd) w w' := by
  have HS := Aside0.mk hs
  have HD := Aside0.mk hd
  have HN := Aside0.mk (And.intro hne hn)
  clear hs hd hne hn
  go_enter Tryz.func36, Tryz.ntmps36
  go_wp2_with (first | (at_range; refine wpList_range_own _ rfl _ _ rfl 40 71 kL Tryz.underlying51 kR bs n D0 rfl HS.out ?_; intro w1 h1 h2 h3; have HR1 := Aside0.mk (And.intro h1 (And.intro h2 h3)); clear h1 h2 h3))
  go_frame
  obtain ⟨r, hr⟩ : ∃ r, r = w.heap.size := ⟨_, rfl⟩
  rw [← hr] at HR1 ⊢
  have HRR := Aside0.mk hr
  clear hr
  have hbd := HD.out.lt
  have HO1 := Aside0.mk (HD.out.kept HR1.out.2.1 (by simp))
  have HK1 := Aside0.mk (show Keep (fun j => j = bd) w w1 from (Keep.refl (fun j => j = bd) w).grown (row := none) HR1.out.2.1 (fun _ h => by cases h))
  have HBD := Aside0.mk hbd
  clear hbd
  go_loopg [4] (Maps.size D0) (fun kq v4 w' => ∃ (left : Lit → Bool) (Do : DataW Value), Aside0 (w'.ranges Tryz.prog 40 kR bs r n D0 left kq) ∧ Aside0 (w'.ownsMap Tryz.prog 40 kR bd (Maps.size D0 - kq) Do ∧ kq ≤ Maps.size D0 ∧ Agree Do D0 left ∧ IsMap Do) ∧ Aside0 (Keep (fun j => j = bd) w w'))
  case atStart => exact ⟨Maps.has D0, .map [], ⟨HR1.out.1⟩, ⟨HO1.out.mono (Nat.zero_le _), Nat.le_refl _, agree_start D0, isMap_empty⟩, HK1⟩
  case round =>
    clear HR1 HO1 HK1
    obtain ⟨left, Do, HR, HO, HK⟩ := hrel
    go_wp2_with (first | (at_next; refine wpList_next_ranges _ rfl _ rfl 40 kL kR (fun x : Int => Value.int .u64 x) (fun q : Value × Value × Value × Value => Value.agg #[q.1, q.2.1, q.2.2.1, q.2.2.2]) (fun key kl h => by obtain ⟨x, e, _⟩ := Maps.keyOf_int_inv Tryz.underlying40 h; exact ⟨x, e⟩) kR_inv bs r n D0 left gk rfl HR.out ?_ ?_))
    · intro hc0 hl
      have HF := Aside0.mk (agree_end HO.out.2.2.1 hl (HO.out.1.canon kL) (HR.out.owns.canon kL))
      clear hc0 hl
      go_wp2
      go_end0
      exact ⟨rfl, by have h := HO.out.1.mono (Nat.sub_le _ _); rw [HF.out] at h; exact h, HK.out⟩
    · rintro x q0 q1 q2 q3 kl y yp w2 cnt2 hkey hlk hy hat hrg hlt hgr hsz hen
      try dsimp only at hy hen ⊢
      have HX := Aside0.mk (And.intro hkey (And.intro hy (And.intro hat (And.intro hrg hlt))))
      have HY := Aside0.mk (kR_held hy)
      have HON := Aside0.mk (kR_one hy)
      have HO2 := Aside0.mk (HO.out.1.kept hgr (by rw [HRR.out]; have := HBD.out; simp; omega))
      have HK2 := Aside0.mk (HK.out.grown (row := some r) hgr (fun j hj hlt => by cases hj; rw [HRR.out] at hlt; omega))
      have HSZ := Aside0.mk (show (Tryz.prog.info? 71).map (·.size) = some (#[q0, q1, q2, q3] : Array Value).size from by rw [show (#[q0, q1, q2, q3] : Array Value).size = 4 from rfl]; kernel_rfl)
      clear hkey hy hat hrg hlt hlk hgr hsz
      go_upto_region 3 with (first | (refine wpList_store_row rfl 71 (.tmp 5) (.tmp 12) rfl w2.heap.size #[q0, q1, q2, q3] rfl rfl 71 #[.int .u64 0, .int .i64 0, .slice none 0 0, .slice none 0 0] (blk_new w2 _) HSZ.out rfl HON.out ?_))
      simp only [Act.put]
      have HX3 := Aside0.mk (setRow_heap (w2.alloc (.cells #[.int .u64 0, .int .i64 0, .slice none 0 0, .slice none 0 0] 71)) w2.heap.size _ #[q0, q1, q2, q3] 71 (0, 0) (blk_new w2 _))
      have HB3 := Aside0.mk (below_setRow (below_alloc (Below.refl w2.heap.size w2) (.cells #[.int .u64 0, .int .i64 0, .slice none 0 0, .slice none 0 0] 71)) (Nat.le_refl _) #[q0, q1, q2, q3])
      generalize (w2.alloc (.cells #[.int .u64 0, .int .i64 0, .slice none 0 0, .slice none 0 0] 71)).setRow w2.heap.size #[q0, q1, q2, q3] = W3 at HX3 HB3 ⊢
      have HO3 := Aside0.mk (own_map_keep HO2.out (Keep.of_below (F := fun _ => False) HB3.out) id)
      have HR3 := Aside0.mk (HX.out.2.2.2.1.kept (grown_of_below HB3.out none) (by simp) (by simp))
      have HK3 := Aside0.mk (HK2.out.step HB3.out)
      go_wp2_with (first | (refine wpList_load_row rfl 71 (.tmp 5) rfl w2.heap.size rfl 71 #[q0, q1, q2, q3] (0, 0) _ HX3.out Tryz.underlying71 rfl HSZ.out ?_) | (at_mapUpdate; refine wpList_mapUpdate_own _ rfl _ _ _ 51 rfl 40 71 kL Tryz.underlying51 kR bd (Maps.size D0 - gk) Do rfl HO3.out ?hn _ _ kl rfl rfl HX.out.1 y yp HX.out.2.1 ?_; (case hn => have := HN.out.2; have := HR.out.owns.size_le; unfold maxLen; omega); intro w4 ho4 hg4; have H4 := Aside0.mk (And.intro ho4 hg4); clear ho4 hg4))
      go_roundg cnt2
      case measure => exact HX.out.2.2.2.2
      case rel =>
        refine ⟨_, Do.put kl y, ⟨HR3.out.kept H4.out.2 (fun e => HN.out.1 (Option.some.inj e).symm) (fun e => by have h := Option.some.inj e; have := HBD.out; have := HRR.out; omega)⟩, ⟨H4.out.1.mono (by have := HX.out.2.2.2.2; have := HO.out.2.1; omega), by have := HX.out.2.2.2.2; have := HO.out.2.1; omega, agree_step HO.out.2.2.1 HO.out.2.2.2 ?_ HX.out.2.2.1, HO.out.2.2.2.put _ _⟩, ⟨HK3.out.grown (row := some bd) H4.out.2 (fun j hj _ => by cases hj; rfl)⟩⟩
        obtain ⟨x', e, rfl, _⟩ := Maps.keyOf_int_inv Tryz.underlying40 HX.out.1
        trivial
set_option maxHeartbeats 4000000 in
set_option maxRecDepth 1000000 in
theorem copyW_calls (bd bs n : Nat) (D0 : DataW Value) (w : World) (hs : w.ownsMap Tryz.prog 2 idR bs n D0) (hd : w.ownsMap Tryz.prog 2 idR bd 0 (.map [])) (hne : bd ≠ bs) (hn : n ≤ 1000000) :
    Calls Tryz.prog 37 #[.map (some bd), .map (some bs)] w fun e w' => e = .returned (.tuple #[]) ∧ w'.ownsMap Tryz.prog 2 idR bd (Maps.size D0) D0 ∧ Keep (fun j => j = bd) w w' := by
  have HS := Aside0.mk hs
  have HD := Aside0.mk hd
  have HN := Aside0.mk (And.intro hne hn)
  clear hs hd hne hn
  go_enter Tryz.func37, Tryz.ntmps37
  go_wp2_with (first | (at_range; refine wpList_range_own _ rfl _ _ rfl 2 40 kW Tryz.underlying52 idR bs n D0 rfl HS.out ?_; intro w1 h1 h2 h3; have HR1 := Aside0.mk (And.intro h1 (And.intro h2 h3)); clear h1 h2 h3))
  go_frame
  obtain ⟨r, hr⟩ : ∃ r, r = w.heap.size := ⟨_, rfl⟩
  rw [← hr] at HR1 ⊢
  have HRR := Aside0.mk hr
  clear hr
  have hbd := HD.out.lt
  have HO1 := Aside0.mk (HD.out.kept HR1.out.2.1 (by simp))
  have HK1 := Aside0.mk (show Keep (fun j => j = bd) w w1 from (Keep.refl (fun j => j = bd) w).grown (row := none) HR1.out.2.1 (fun _ h => by cases h))
  have HBD := Aside0.mk hbd
  clear hbd
  go_loopg [4] (Maps.size D0) (fun kq v4 w' => ∃ (left : Lit → Bool) (Do : DataW Value), Aside0 (w'.ranges Tryz.prog 2 idR bs r n D0 left kq) ∧ Aside0 (w'.ownsMap Tryz.prog 2 idR bd (Maps.size D0 - kq) Do ∧ kq ≤ Maps.size D0 ∧ Agree Do D0 left ∧ IsMap Do) ∧ Aside0 (Keep (fun j => j = bd) w w'))
  case atStart => exact ⟨Maps.has D0, .map [], ⟨HR1.out.1⟩, ⟨HO1.out.mono (Nat.zero_le _), Nat.le_refl _, agree_start D0, isMap_empty⟩, HK1⟩
  case round =>
    clear HR1 HO1 HK1
    obtain ⟨left, Do, HR, HO, HK⟩ := hrel
    go_wp2_with (first | (at_next; refine wpList_next_ranges _ rfl _ rfl 2 kW idR (fun x : Int => Value.int .i64 x) (fun q : Value => q) (fun key kl h => by obtain ⟨x, e, _⟩ := Maps.keyOf_int_inv Tryz.underlying2 h; exact ⟨x, e⟩) (fun v _ _ => ⟨v, rfl⟩) bs r n D0 left gk rfl HR.out ?_ ?_))
    · intro hc0 hl
      have HF := Aside0.mk (agree_end HO.out.2.2.1 hl (HO.out.1.canon kW) (HR.out.owns.canon kW))
      clear hc0 hl
      go_wp2
      go_end0
      exact ⟨rfl, by have h := HO.out.1.mono (Nat.sub_le _ _); rw [HF.out] at h; exact h, HK.out⟩
    · rintro x q kl y yp w2 cnt2 hkey hlk hy hat hrg hlt hgr hsz hen
      have HX := Aside0.mk (And.intro hkey (And.intro hy (And.intro hat (And.intro hrg hlt))))
      have HO2 := Aside0.mk (HO.out.1.kept hgr (by rw [HRR.out]; have := HBD.out; simp; omega))
      have HK2 := Aside0.mk (HK.out.grown (row := some r) hgr (fun j hj hlt => by cases hj; rw [HRR.out] at hlt; omega))
      clear hkey hy hat hrg hlt hlk hgr hsz
      go_wp2_with (first | (at_mapUpdate; refine wpList_mapUpdate_own _ rfl _ _ _ 52 rfl 2 40 kW Tryz.underlying52 idR bd (Maps.size D0 - gk) Do rfl HO2.out ?hn _ _ kl rfl rfl HX.out.1 y yp HX.out.2.1 ?_; (case hn => have := HN.out.2; have := HR.out.owns.size_le; unfold maxLen; omega); intro w4 ho4 hg4; have H4 := Aside0.mk (And.intro ho4 hg4); clear ho4 hg4))
      go_roundg cnt2
      case measure => exact HX.out.2.2.2.2
      case rel =>
        refine ⟨_, Do.put kl y, ⟨HX.out.2.2.2.1.kept H4.out.2 (fun e => HN.out.1 (Option.some.inj e).symm) (fun e => by have h := Option.some.inj e; have := HBD.out; have := HRR.out; omega)⟩, ⟨H4.out.1.mono (by have := HX.out.2.2.2.2; have := HO.out.2.1; omega), by have := HX.out.2.2.2.2; have := HO.out.2.1; omega, agree_step HO.out.2.2.1 HO.out.2.2.2 ?_ HX.out.2.2.1, HO.out.2.2.2.put _ _⟩, ⟨HK2.out.grown (row := some bd) H4.out.2 (fun j hj _ => by cases hj; rfl)⟩⟩
        obtain ⟨x', e, rfl, _⟩ := Maps.keyOf_int_inv Tryz.underlying2 HX.out.1
        trivial
end Go.Proofs.YtpihpkphhkcdlaaGreatDoor.Mc
namespace Go.Proofs.YtpihpkphhkcdlaaGreatDoor.Cp
open Go.RowKit Go.Maps Go.Proofs.YtpihpkphhkcdlaaGreatDoorW.PrintWords Go.Proofs.YtpihpkphhkcdlaaGreatDoorW.PrintLast Go.Proofs.YtpihpkphhkcdlaaGreatDoor.Tab Go.Proofs.YtpihpkphhkcdlaaGreatDoor.Kp Go.Proofs.YtpihpkphhkcdlaaGreatDoor.Pd Go.Proofs.YtpihpkphhkcdlaaGreatDoor.May Go.Proofs.YtpihpkphhkcdlaaGreatDoor.De Go.Proofs.YtpihpkphhkcdlaaGreatDoor.Sk Go.Proofs.YtpihpkphhkcdlaaGreatDoor.Lk Go.Proofs.YtpihpkphhkcdlaaGreatDoor.Mc
set_option linter.unusedVariables false
set_option linter.unusedSimpArgs false
theorem _root_.Go.Proofs.YtpihpkphhkcdlaaGreatDoor.Sk.KeptV.low {w : World} {ok : Nat → Prop} {v : Value} {f : Frm} {b : List UInt8} (h : KeptV w ok v f b) : KeptV w (fun j => ok j ∧ j < w.heap.size) v f b := by
  obtain ⟨Ar, cr, Ab, cb, e, h1, h2, h3, h4, h5, h6⟩ := h
  refine ⟨Ar, cr, Ab, cb, e, h1, h2, h3, h4, fun ad e hn => ⟨h5 ad e hn, ?_⟩, fun ad e hn => ⟨h6 ad e hn, reads_lt h4 ad e hn⟩⟩
  obtain ⟨gr, e2, hl, _⟩ := h2.2 hn
  rw [e] at e2
  injection e2 with e2
  rw [e2]
  exact hl
theorem _root_.Go.Proofs.YtpihpkphhkcdlaaGreatDoor.Sk.Says.low {w : World} {ok : Nat → Prop} {D D2 : DataW Value} {k : K} (h : Says w ok D D2 k) : Says w (fun j => ok j ∧ j < w.heap.size) D D2 k :=
  ⟨h.has1, fun e he => by
    obtain ⟨v, h1, h2⟩ := h.val1 e he
    exact ⟨v, h1, h2.low⟩, h.has2, h.val2, h.size1, h.size2, h.seqs, h.wins, h.fits⟩
theorem own0 {P : Program} {kt : TypeId} {R : Value → Option (DataW Value × List MemPlace)} {w : World} {b : Nat} {D : DataW Value} (h : w.ownsMap P kt R b 0 D) : D = .map [] := by
  obtain ⟨es, clock, _, _, hs, hD⟩ := h
  have : es = #[] := Array.size_eq_zero_iff.1 (by omega)
  subst this
  exact hD
theorem empty_maps {w : World} {ok : Nat → Prop} {g ml mw : Nat} {c : List Int} (h : IsS w ok g ml mw [] c) : w.ownsMap Tryz.prog 40 kR ml 0 (.map []) ∧ w.ownsMap Tryz.prog 2 idR mw 0 (.map []) := by
  obtain ⟨_, ⟨D, D2, h1, h2, _⟩, _, _⟩ := h
  have e1 := own0 h1
  have e2 := own0 h2
  rw [e1] at h1
  rw [e2] at h2
  exact ⟨h1, h2⟩
theorem copy_nil (w : World) : Calls Tryz.prog 21 #[.pointer none] w fun e w' => e = .returned (.pointer none) ∧ w' = w := by
  go_enter Tryz.func21, Tryz.ntmps21
  go_wp2
  go_ret
  exact ⟨rfl, rfl⟩
set_option maxHeartbeats 4000000 in
set_option maxRecDepth 1000000 in
theorem copy_calls (ok : Nat → Prop) (g ml mw : Nat) (k : K) (c : List Int) (w : World) (hS : IsS w ok g ml mw k c) (hk : k.length ≤ 1000000) :
    Calls Tryz.prog 21 #[.pointer (some ⟨g, 0, none⟩)] w fun e w' => e = .returned (.pointer (some ⟨w.heap.size + 1 + 1, 0, none⟩)) ∧ IsS w' (fun j => ok j ∧ j < w.heap.size) (w.heap.size + 1 + 1) w.heap.size (w.heap.size + 1) k c ∧ Below w.heap.size w w' := by
  obtain ⟨hblk, ⟨D, D2, hm1, hm2, hsy⟩, hap, hnok⟩ := hS
  have HY := Aside0.mk hsy
  have HM1 := Aside0.mk hm1
  have HM2 := Aside0.mk hm2
  have HX := Aside0.mk hblk
  have HK := Aside0.mk hk
  have hlg := blk_lt hblk
  have HLL := Aside0.mk (And.intro hlg (And.intro hm1.lt hm2.lt))
  clear hblk hm1 hm2 hsy hap hnok hk hlg
  go_enter Tryz.func21, Tryz.ntmps21
  go_upto_region 4 with (first | (go_at_call 8; (with_reducible refine (new_calls w).mono ?_); rintro e_ w1 ⟨rfl, h1, h2⟩; have HN := Aside0.mk (h1 (fun j => j < w.heap.size) ⟨by omega, by omega, by omega⟩); have HB := Aside0.mk h2; clear h1 h2))
  obtain ⟨g2, hg2⟩ : ∃ g2, g2 = w.heap.size + 1 + 1 := ⟨_, rfl⟩
  obtain ⟨m2, hm2⟩ : ∃ m2, m2 = w.heap.size := ⟨_, rfl⟩
  obtain ⟨q2, hq2⟩ : ∃ q2, q2 = w.heap.size + 1 := ⟨_, rfl⟩
  rw [← hg2, ← hq2, ← hm2] at HN
  rw [← hg2]
  have HG := Aside0.mk (And.intro hg2 (And.intro hm2 hq2))
  clear hg2 hm2 hq2
  have nb := HN.out.blk
  have s0 : w1.cell? ⟨g, 0, none⟩ = some (.map (some ml)) := (blk_cell ((HB.out.block _ HLL.out.1).trans HX.out) 0).trans rfl
  have t0 : w1.cell? ⟨g2, 0, none⟩ = some (.map (some m2)) := (blk_cell nb 0).trans rfl
  clear nb
  refine start_ (n := 9) (S := fun w' => Below w1.heap.size w1 w') (ds := [8]) #[false, false, false, false, false, false, false, false, false] (by kernel_rfl) rfl rfl (below_drew1 (Below.refl _ _)) (fun hHeld => ?_)
  have hS0 := Aside0.mk (show Below w1.heap.size w1 w1.drew from below_drew1 (Below.refl _ _))
  refine pure_ (i := 0) (N := some 7) (v := ?_) (a' := ?_) #[true, false, false, false, false, false, false, false, false] rfl rfl (by kernel_rfl) (fun _ _ _ h => h) (Or.inl ⟨by rfl, ?_⟩) ?_ ?_
  rotate_left
  · intro w'
    go_simp
    with_reducible rfl
  rotate_left
  · simp only [Act.put, List.setIfInBounds_toArray, List.set_cons_zero, List.set_cons_succ, i64_w, i32_w]
    rfl
  refine pure_ (i := 1) (N := some 8) (v := ?_) (a' := ?_) #[true, true, false, false, false, false, false, false, false] rfl rfl (by kernel_rfl) (fun _ _ _ h => h) (Or.inl ⟨by rfl, ?_⟩) ?_ ?_
  rotate_left
  · intro w'
    go_simp
    with_reducible rfl
  rotate_left
  · simp only [Act.put, List.setIfInBounds_toArray, List.set_cons_zero, List.set_cons_succ, i64_w, i32_w]
    rfl
  refine pure_ (i := 2) (N := some 9) (v := ?_) (a' := ?_) #[true, true, true, false, false, false, false, false, false] rfl rfl (by kernel_rfl) (fun _ _ _ h => h) (Or.inl ⟨by rfl, ?_⟩) ?_ ?_
  rotate_left
  · intro w'
    go_simp
    with_reducible rfl
  rotate_left
  · simp only [Act.put, List.setIfInBounds_toArray, List.set_cons_zero, List.set_cons_succ, i64_w, i32_w]
    rfl
  refine pure_ (i := 4) (N := some 11) (v := ?_) (a' := ?_) #[true, true, true, false, true, false, false, false, false] rfl rfl (by kernel_rfl) (fun _ _ _ h => h) (Or.inl ⟨by rfl, ?_⟩) ?_ ?_
  rotate_left
  · intro w'
    go_simp
    with_reducible rfl
  rotate_left
  · simp only [Act.put, List.setIfInBounds_toArray, List.set_cons_zero, List.set_cons_succ, i64_w, i32_w]
    rfl
  refine pure_ (i := 5) (N := some 12) (v := ?_) (a' := ?_) #[true, true, true, false, true, true, false, false, false] rfl rfl (by kernel_rfl) (fun _ _ _ h => h) (Or.inl ⟨by rfl, ?_⟩) ?_ ?_
  rotate_left
  · intro w'
    go_simp
    with_reducible rfl
  rotate_left
  · simp only [Act.put, List.setIfInBounds_toArray, List.set_cons_zero, List.set_cons_succ, i64_w, i32_w]
    rfl
  refine pure_ (i := 6) (N := some 13) (v := ?_) (a' := ?_) #[true, true, true, false, true, true, true, false, false] rfl rfl (by kernel_rfl) (fun _ _ _ h => h) (Or.inl ⟨by rfl, ?_⟩) ?_ ?_
  rotate_left
  · intro w'
    go_simp
    with_reducible rfl
  rotate_left
  · simp only [Act.put, List.setIfInBounds_toArray, List.set_cons_zero, List.set_cons_succ, i64_w, i32_w]
    rfl
  refine take_ (i := 3) (N := some 10) (v := ?_) (a' := ?_) #[true, true, true, true, true, true, true, false, false] rfl rfl (by kernel_rfl) (fun _ _ _ h => h) (Or.inl ⟨by rfl, ?_⟩) hHeld ?_ ?_
  rotate_left
  · intro w' hS'
    have s0' := pw_cell_below hS' s0; have t0' := pw_cell_below hS' t0
    go_simp
    with_reducible rfl
  rotate_left
  · simp only [Act.put, List.setIfInBounds_toArray, List.set_cons_zero, List.set_cons_succ, i64_w, i32_w]
    rfl
  refine take_ (i := 7) (N := some 14) (v := ?_) (a' := ?_) #[true, true, true, true, true, true, true, true, false] rfl rfl (by kernel_rfl) (fun _ _ _ h => h) (Or.inl ⟨by rfl, ?_⟩) hHeld ?_ ?_
  rotate_left
  · intro w' hS'
    have s0' := pw_cell_below hS' s0; have t0' := pw_cell_below hS' t0
    go_simp
    with_reducible rfl
  rotate_left
  · simp only [Act.put, List.setIfInBounds_toArray, List.set_cons_zero, List.set_cons_succ, i64_w, i32_w]
    rfl
  refine last_ (i := 8) (N := some 15) #[true, true, true, true, true, true, true, true, true] rfl rfl (by kernel_rfl) (by decide) (fun K hK => ?_)
  have HDM : w1.drew.ownsMap Tryz.prog 40 kR m2 0 (.map []) := own_map_keep (empty_maps HN.out).1 (Keep.of_below (F := fun _ => False) hS0.out) id
  refine goes_ Tryz.func36 (by kernel_rfl) rfl #[.map (some m2), .map (some ml)] (by rfl) rfl rfl (by simp [Act.eval]) ?_
  refine (copyL_calls m2 ml k.length D w1.drew (own_map_keep HM1.out (Keep.of_below (F := fun _ => False) (HB.out.trans (hS0.out.mono HB.out.size))) id) HDM (by have := HLL.out; have := HG.out; omega) HK.out).mono ?_
  rintro e_ w2 ⟨rfl, h1, h2⟩
  refine ⟨_, rfl, ?_⟩
  have HC1 := Aside0.mk (And.intro h1 h2)
  refine hK.out _ _ ?_
  clear hK K h1 h2
  refine done_ (by kernel_rfl) ?_
  have HB2 := Aside0.mk (((Keep.of_below (F := fun j => j = m2) hS0.out).trans HC1.out.2 (fun _ _ => id)))
  have HN2 := Aside0.mk (HB2.out.blk HN.out.blk (fun e => HN.out.apart.1 e))
  have HQ2 := Aside0.mk (own_map_keep (empty_maps HN.out).2 HB2.out (fun e => HN.out.apart.2.2 (show m2 = q2 from e.symm)))
  have HX2 := Aside0.mk (HB2.out.blk ((HB.out.block _ HLL.out.1).trans HX.out) (fun e => by have : g = m2 := e; have := HLL.out; have := HG.out; omega))
  have HM2b := Aside0.mk (own_map_keep (own_map_keep HM2.out (Keep.of_below (F := fun _ => False) HB.out) id) HB2.out (fun e => by have : mw = m2 := e; have := HLL.out; have := HG.out; omega))
  clear s0 t0 hS0 HDM
  have s1 : w2.cell? ⟨g, 1, none⟩ = some (.map (some mw)) := (blk_cell HX2.out 1).trans rfl
  have t1 : w2.cell? ⟨g2, 1, none⟩ = some (.map (some q2)) := (blk_cell HN2.out 1).trans rfl
  go_upto_region 5 with (fail)
  refine start_ (n := 9) (S := fun w' => Below w2.heap.size w2 w') (ds := [8]) #[false, false, false, false, false, false, false, false, false] (by kernel_rfl) rfl rfl (below_drew1 (Below.refl _ _)) (fun hHeld => ?_)
  have hS0 := Aside0.mk (show Below w2.heap.size w2 w2.drew from below_drew1 (Below.refl _ _))
  refine pure_ (i := 0) (N := some 16) (v := ?_) (a' := ?_) #[true, false, false, false, false, false, false, false, false] rfl rfl (by kernel_rfl) (fun _ _ _ h => h) (Or.inl ⟨by rfl, ?_⟩) ?_ ?_
  rotate_left
  · intro w'
    go_simp
    with_reducible rfl
  rotate_left
  · simp only [Act.put, List.setIfInBounds_toArray, List.set_cons_zero, List.set_cons_succ, i64_w, i32_w]
    rfl
  refine pure_ (i := 1) (N := some 17) (v := ?_) (a' := ?_) #[true, true, false, false, false, false, false, false, false] rfl rfl (by kernel_rfl) (fun _ _ _ h => h) (Or.inl ⟨by rfl, ?_⟩) ?_ ?_
  rotate_left
  · intro w'
    go_simp
    with_reducible rfl
  rotate_left
  · simp only [Act.put, List.setIfInBounds_toArray, List.set_cons_zero, List.set_cons_succ, i64_w, i32_w]
    rfl
  refine pure_ (i := 2) (N := some 18) (v := ?_) (a' := ?_) #[true, true, true, false, false, false, false, false, false] rfl rfl (by kernel_rfl) (fun _ _ _ h => h) (Or.inl ⟨by rfl, ?_⟩) ?_ ?_
  rotate_left
  · intro w'
    go_simp
    with_reducible rfl
  rotate_left
  · simp only [Act.put, List.setIfInBounds_toArray, List.set_cons_zero, List.set_cons_succ, i64_w, i32_w]
    rfl
  refine pure_ (i := 4) (N := some 20) (v := ?_) (a' := ?_) #[true, true, true, false, true, false, false, false, false] rfl rfl (by kernel_rfl) (fun _ _ _ h => h) (Or.inl ⟨by rfl, ?_⟩) ?_ ?_
  rotate_left
  · intro w'
    go_simp
    with_reducible rfl
  rotate_left
  · simp only [Act.put, List.setIfInBounds_toArray, List.set_cons_zero, List.set_cons_succ, i64_w, i32_w]
    rfl
  refine pure_ (i := 5) (N := some 21) (v := ?_) (a' := ?_) #[true, true, true, false, true, true, false, false, false] rfl rfl (by kernel_rfl) (fun _ _ _ h => h) (Or.inl ⟨by rfl, ?_⟩) ?_ ?_
  rotate_left
  · intro w'
    go_simp
    with_reducible rfl
  rotate_left
  · simp only [Act.put, List.setIfInBounds_toArray, List.set_cons_zero, List.set_cons_succ, i64_w, i32_w]
    rfl
  refine pure_ (i := 6) (N := some 22) (v := ?_) (a' := ?_) #[true, true, true, false, true, true, true, false, false] rfl rfl (by kernel_rfl) (fun _ _ _ h => h) (Or.inl ⟨by rfl, ?_⟩) ?_ ?_
  rotate_left
  · intro w'
    go_simp
    with_reducible rfl
  rotate_left
  · simp only [Act.put, List.setIfInBounds_toArray, List.set_cons_zero, List.set_cons_succ, i64_w, i32_w]
    rfl
  refine take_ (i := 3) (N := some 19) (v := ?_) (a' := ?_) #[true, true, true, true, true, true, true, false, false] rfl rfl (by kernel_rfl) (fun _ _ _ h => h) (Or.inl ⟨by rfl, ?_⟩) hHeld ?_ ?_
  rotate_left
  · intro w' hS'
    have s0' := pw_cell_below hS' s1; have t0' := pw_cell_below hS' t1
    go_simp
    with_reducible rfl
  rotate_left
  · simp only [Act.put, List.setIfInBounds_toArray, List.set_cons_zero, List.set_cons_succ, i64_w, i32_w]
    rfl
  refine take_ (i := 7) (N := some 23) (v := ?_) (a' := ?_) #[true, true, true, true, true, true, true, true, false] rfl rfl (by kernel_rfl) (fun _ _ _ h => h) (Or.inl ⟨by rfl, ?_⟩) hHeld ?_ ?_
  rotate_left
  · intro w' hS'
    have s0' := pw_cell_below hS' s1; have t0' := pw_cell_below hS' t1
    go_simp
    with_reducible rfl
  rotate_left
  · simp only [Act.put, List.setIfInBounds_toArray, List.set_cons_zero, List.set_cons_succ, i64_w, i32_w]
    rfl
  refine last_ (i := 8) (N := some 24) #[true, true, true, true, true, true, true, true, true] rfl rfl (by kernel_rfl) (by decide) (fun K hK => ?_)
  refine goes_ Tryz.func37 (by kernel_rfl) rfl #[.map (some q2), .map (some mw)] (by rfl) rfl rfl (by simp [Act.eval]) ?_
  refine (copyW_calls q2 mw k.length D2 w2.drew (own_map_keep HM2b.out (Keep.of_below (F := fun _ => False) hS0.out) id) (own_map_keep HQ2.out (Keep.of_below (F := fun _ => False) hS0.out) id) (by have := HLL.out; have := HG.out; omega) HK.out).mono ?_
  rintro e_ w3 ⟨rfl, h1, h2⟩
  refine ⟨_, rfl, ?_⟩
  have HC2 := Aside0.mk (And.intro h1 h2)
  refine hK.out _ _ ?_
  clear hK K h1 h2
  refine done_ (by kernel_rfl) ?_
  have HB3 := Aside0.mk (((Keep.of_below (F := fun j => j = q2) hS0.out).trans HC2.out.2 (fun _ _ => id)))
  have HN3 := Aside0.mk (HB3.out.blk HN2.out (fun e => HN.out.apart.2.1 e))
  have HX3 := Aside0.mk (HB3.out.blk HX2.out (fun e => by have : g = q2 := e; have := HLL.out; have := HG.out; omega))
  have HL3 := Aside0.mk (own_map_keep HC1.out.1 HB3.out (fun e => HN.out.apart.2.2 e))
  have HBB := Aside0.mk (show Below w.heap.size w w3 from HB.out.trans ((HB2.out.below (B := w.heap.size) (fun j e => by have : j = m2 := e; have := HG.out; omega) HB.out.size).trans (HB3.out.below (B := w.heap.size) (fun j e => by have : j = q2 := e; have := HG.out; omega) (Nat.le_trans HB.out.size HB2.out.size))))
  clear s1 t1 hS0
  have a0 : w3.cell? ⟨g, 2, none⟩ = some (.int .i64 (c.getD 0 0)) := (blk_cell HX3.out 2).trans rfl
  have b0 : w3.cell? ⟨g2, 2, none⟩ = some (.int .i64 0) := (blk_cell HN3.out 2).trans rfl
  have f0 := blk_frozen HN3.out 2
  have a1 : w3.cell? ⟨g, 3, none⟩ = some (.int .i64 (c.getD 1 0)) := (blk_cell HX3.out 3).trans rfl
  have b1 : w3.cell? ⟨g2, 3, none⟩ = some (.int .i64 0) := (blk_cell HN3.out 3).trans rfl
  have f1 := blk_frozen HN3.out 3
  have a2 : w3.cell? ⟨g, 4, none⟩ = some (.int .i64 (c.getD 2 0)) := (blk_cell HX3.out 4).trans rfl
  have b2 : w3.cell? ⟨g2, 4, none⟩ = some (.int .i64 0) := (blk_cell HN3.out 4).trans rfl
  have f2 := blk_frozen HN3.out 4
  have a3 : w3.cell? ⟨g, 5, none⟩ = some (.int .i64 (c.getD 3 0)) := (blk_cell HX3.out 5).trans rfl
  have b3 : w3.cell? ⟨g2, 5, none⟩ = some (.int .i64 0) := (blk_cell HN3.out 5).trans rfl
  have f3 := blk_frozen HN3.out 5
  have a4 : w3.cell? ⟨g, 6, none⟩ = some (.int .i64 (c.getD 4 0)) := (blk_cell HX3.out 6).trans rfl
  have b4 : w3.cell? ⟨g2, 6, none⟩ = some (.int .i64 0) := (blk_cell HN3.out 6).trans rfl
  have f4 := blk_frozen HN3.out 6
  have a5 : w3.cell? ⟨g, 7, none⟩ = some (.int .i64 (c.getD 5 0)) := (blk_cell HX3.out 7).trans rfl
  have b5 : w3.cell? ⟨g2, 7, none⟩ = some (.int .i64 0) := (blk_cell HN3.out 7).trans rfl
  have f5 := blk_frozen HN3.out 7
  go_upto_region 7 with (fail)
  clear a0 b0 f0 a1 b1 f1 a2 b2 f2 a3 b3 f3 a4 b4 f4 a5 b5 f5
  have HK4 := Aside0.mk (show Keep (fun j => j = g2) w3 ((((((w3.setCell ⟨g2, 2, none⟩ (.int .i64 (c[0]?.getD 0))).setCell ⟨g2, 3, none⟩ (.int .i64 (c[1]?.getD 0))).setCell ⟨g2, 4, none⟩ (.int .i64 (c[2]?.getD 0))).setCell ⟨g2, 5, none⟩ (.int .i64 (c[3]?.getD 0))).setCell ⟨g2, 6, none⟩ (.int .i64 (c[4]?.getD 0))).setCell ⟨g2, 7, none⟩ (.int .i64 (c[5]?.getD 0))) from (((((((Keep.refl (fun j => j = g2) w3).set (g := g2) rfl 2 (.int .i64 (c[0]?.getD 0))).set (g := g2) rfl 3 (.int .i64 (c[1]?.getD 0))).set (g := g2) rfl 4 (.int .i64 (c[2]?.getD 0))).set (g := g2) rfl 5 (.int .i64 (c[3]?.getD 0))).set (g := g2) rfl 6 (.int .i64 (c[4]?.getD 0))).set (g := g2) rfl 7 (.int .i64 (c[5]?.getD 0))))
  have HB4 := Aside0.mk (show ((((((w3.setCell ⟨g2, 2, none⟩ (.int .i64 (c[0]?.getD 0))).setCell ⟨g2, 3, none⟩ (.int .i64 (c[1]?.getD 0))).setCell ⟨g2, 4, none⟩ (.int .i64 (c[2]?.getD 0))).setCell ⟨g2, 5, none⟩ (.int .i64 (c[3]?.getD 0))).setCell ⟨g2, 6, none⟩ (.int .i64 (c[4]?.getD 0))).setCell ⟨g2, 7, none⟩ (.int .i64 (c[5]?.getD 0))).heap[g2]? = some (.cells (skC (some m2) (some q2) c) 54 (0, 0)) from by have h := (blk_put (blk_put (blk_put (blk_put (blk_put (blk_put HN3.out 2 (.int .i64 (c[0]?.getD 0)) rfl) 3 (.int .i64 (c[1]?.getD 0)) rfl) 4 (.int .i64 (c[2]?.getD 0)) rfl) 5 (.int .i64 (c[3]?.getD 0)) rfl) 6 (.int .i64 (c[4]?.getD 0)) rfl) 7 (.int .i64 (c[5]?.getD 0)) rfl); simpa [skC] using h)
  generalize ((((((w3.setCell ⟨g2, 2, none⟩ (.int .i64 (c[0]?.getD 0))).setCell ⟨g2, 3, none⟩ (.int .i64 (c[1]?.getD 0))).setCell ⟨g2, 4, none⟩ (.int .i64 (c[2]?.getD 0))).setCell ⟨g2, 5, none⟩ (.int .i64 (c[3]?.getD 0))).setCell ⟨g2, 6, none⟩ (.int .i64 (c[4]?.getD 0))).setCell ⟨g2, 7, none⟩ (.int .i64 (c[5]?.getD 0))) = W4 at HK4 HB4 ⊢
  go_wp2
  go_ret
  have HB5 := HBB.out.trans (HK4.out.below (B := w.heap.size) (fun j e => by have : j = g2 := e; have := HG.out; omega) HBB.out.size)
  rw [← HG.out.1, ← HG.out.2.2, ← HG.out.2.1]
  refine ⟨rfl, ⟨HB4.out, ⟨D, D2, ?_, ?_, ?_⟩, HN.out.apart, ⟨fun h => by have := h.2; have := HG.out; omega, fun h => by have := h.2; omega, fun h => by have := h.2; have := HG.out; omega⟩⟩, HG.out.2.1 ▸ HB5⟩
  · have h := own_map_keep HL3.out HK4.out (fun e => HN.out.apart.1 (show g2 = m2 from (show m2 = g2 from e).symm))
    rw [HY.out.size1] at h
    exact h
  · have h := own_map_keep HC2.out.1 HK4.out (fun e => HN.out.apart.2.1 (show g2 = q2 from (show q2 = g2 from e).symm))
    rw [HY.out.size2] at h
    exact h
  · have h := (Sk.Says.low HY.out).keep (Keep.of_below (F := fun j => w.heap.size ≤ j) HB5) (fun j hj e => by have := hj.2; have : w.heap.size ≤ j := e; omega)
    rw [HG.out.2.1]
    exact h
end Go.Proofs.YtpihpkphhkcdlaaGreatDoor.Cp
