/- frame.Decode. -/
import Derived.Test.YtpihpkphhkcdlaaGreatDoorEq
import Derived.Lib.SlBytesConst
namespace Go.Proofs.YtpihpkphhkcdlaaGreatDoor.De
open Go.RowKit Go.Proofs.YtpihpkphhkcdlaaGreatDoorW.PrintWords Go.Proofs.YtpihpkphhkcdlaaGreatDoorW.PrintLast Go.Proofs.YtpihpkphhkcdlaaGreatDoor.Crc Go.Proofs.YtpihpkphhkcdlaaGreatDoor.Tab Go.Proofs.YtpihpkphhkcdlaaGreatDoor.Rdn Go.Proofs.YtpihpkphhkcdlaaGreatDoor.Kp Go.Proofs.YtpihpkphhkcdlaaGreatDoor.Pd Go.Proofs.YtpihpkphhkcdlaaGreatDoor.Pk Go.Proofs.YtpihpkphhkcdlaaGreatDoor.Rd Go.Proofs.YtpihpkphhkcdlaaGreatDoor.Rm Go.Proofs.YtpihpkphhkcdlaaGreatDoor.Fr Go.Proofs.YtpihpkphhkcdlaaGreatDoor.May Go.Proofs.YtpihpkphhkcdlaaGreatDoor.Eq
set_option linter.unusedVariables false
set_option linter.unusedSimpArgs false
/-- What a frame is, as Decode hands it out. -/
def FrmV (f : Frm) (rv : Value) : Value := .agg #[.int .u64 (f.seq : Nat), .int .i64 f.win, rv]
theorem reads_lt {w : World} {A : Option Addr} {n : Nat} {xs : List Int} (h : ReadsInt w .u8 A n xs) (ad : Addr) (e : A = some ad) (hn : 0 < n) : ad.block < w.heap.size := by
  obtain ⟨ad', e', hc⟩ := h.2.2 hn
  rw [e] at e'
  injection e' with e'
  subst e'
  have h1 := hc 0 hn
  have hbk : (ad.add 0).block = ad.block := by unfold Addr.add; split <;> rfl
  rcases Nat.lt_or_ge ad.block w.heap.size with h2 | h2
  · exact h2
  · simp [World.cell?, hbk, Array.getElem?_eq_none h2] at h1
theorem recs_get (win : Int) (rs : List Rec) (i : Nat) (hi : i < rs.length) (k : Nat) (v : Value) (h : (recC win rs[i])[k]? = some v) : (recsC win rs)[i * 5 + k]? = some v := by
  have hk : k < 5 := by
    have := (List.getElem?_eq_some_iff.1 h).1
    simpa [recC] using this
  induction rs generalizing i with
  | nil => simp at hi
  | cons r t ih =>
    have e : recsC win (r :: t) = recC win r ++ recsC win t := rfl
    have l5 : (recC win r).length = 5 := rfl
    rw [e]
    cases i with
    | zero =>
      rw [Nat.zero_mul, Nat.zero_add, List.getElem?_append_left (by rw [l5]; exact hk)]
      exact h
    | succ i =>
      rw [List.getElem?_append_right (by rw [l5]; omega), l5, show (i + 1) * 5 + k - 5 = i * 5 + k by omega]
      exact ih i (by simp at hi; omega) (by simpa using h)
theorem recsAt_of_row {w : World} {base cp n : Nat} {A : Option Addr} {win : Int} {rs : List Rec} (h : w.ownsRow base 73 5 (.slice A n cp) rs.length (recsC win rs)) (hl : rs.length ≤ 9223372036854775807) : RecsAt w A win rs := by
  refine ⟨hl, fun hp => ?_⟩
  rcases h.2 with ⟨_, h0⟩ | ⟨g, cap, cur, he, hb, hh, hc, h3⟩
  · omega
  · injection he with he _ _
    refine ⟨g, he, blk_lt hh, fun i hi k v hv => ?_⟩
    have hg := recs_get win rs i hi k v hv
    rw [← h3.2.2, List.getElem?_take] at hg
    split at hg
    · exact (blk_cell hh _).trans (by simpa using hg)
    · cases hg
theorem be4_cells (c : Nat) (h : c < 4294967296) : (#[.int .u8 ((c : Int) / 16777216), .int .u8 ((c : Int) / 65536 % 256), .int .u8 ((c : Int) / 256 % 256), .int .u8 ((c : Int) % 256)] : Array Value) = ((nb (be4 c)).map (Value.int .u8)).toArray := by
  have e1 : ((c : Int) / 16777216) = ((c / 16777216 % 256 % 256 : Nat) : Int) := by omega
  have e2 : ((c : Int) / 65536 % 256) = ((c / 65536 % 256 % 256 : Nat) : Int) := by omega
  have e3 : ((c : Int) / 256 % 256) = ((c / 256 % 256 % 256 : Nat) : Int) := by omega
  have e4 : ((c : Int) % 256) = ((c % 256 % 256 : Nat) : Int) := by omega
  rw [e1, e2, e3, e4]
  simp [be4, nb]
theorem reads_lit {W : World} {g : Nat} {C : Array Value} {t : TypeId} {fr : Nat × Nat} (l : List UInt8) (h : W.heap[g]? = some (.cells C t fr)) (hC : C = ((nb l).map (Value.int .u8)).toArray) (hl : l.length ≤ 9223372036854775807) : ReadsInt W .u8 (some ⟨g, 0, none⟩) l.length (nb l) := by
  refine ⟨by simp [nb], hl, fun _ => ⟨_, rfl, fun j hj => ?_⟩⟩
  rw [add_plain]
  unfold World.cell?
  rw [h, hC]
  simp [nb, List.getD, hj]
set_option maxHeartbeats 4000000 in
set_option maxRecDepth 1000000 in
theorem decode_calls (A : Option Addr) (cp : Nat) (bs : List UInt8) (hl : bs.length ≤ 1000000) (hcp : bs.length ≤ cp) (w : World) (hG : Glob w) (hr : ReadsInt w .u8 A bs.length (nb bs)) : Calls Tryz.prog 41 #[.slice A bs.length cp] w fun e w' => ∃ rv, e = .returned (.tuple #[FrmV (decP bs).1 rv, .int .i64 (decP bs).2]) ∧ w'.ownsRow w.heap.size 73 5 rv (decP bs).1.recs.length (recsC (decP bs).1.win (decP bs).1.recs) ∧ Below w.heap.size w w' := by
  have HR := Aside0.mk hr
  have HG := Aside0.mk hG
  have HL := Aside0.mk (And.intro hl hcp)
  have kc := fun (w : World) (C : Array Value) (n c : Nat) => Lib.run_convert_bytes_const (P := Tryz.prog) w 29 5 C n c Tryz.underlying29 Tryz.underlying5
  obtain ⟨R, hR⟩ : ∃ R, R = decP bs := ⟨_, rfl⟩
  rw [← hR]
  have HB0 := Aside0.mk (below_alloc (Below.refl w.heap.size w) (.cells #[.int .u64 0, .int .i64 0, .slice none 0 0] 44))
  have HF0 := Aside0.mk (blk_new w (.cells #[.int .u64 0, .int .i64 0, .slice none 0 0] 44))
  have HSZ := Aside0.mk (show (Tryz.prog.info? 44).map (·.size) = some (#[.int .u64 0, .int .i64 0, .slice none 0 0] : Array Value).size ∧ (#[.int .u64 0, .int .i64 0, .slice none 0 0] : Array Value).all (·.oneCell') = true from ⟨by rw [show (#[.int .u64 0, .int .i64 0, .slice none 0 0] : Array Value).size = 3 from rfl]; kernel_rfl, by simp [Value.oneCell']⟩)
  clear hr hG
  go_enter Tryz.func41, Tryz.ntmps41
  go_upto_region 1 with (fail)
  generalize w.alloc (.cells #[.int .u64 0, .int .i64 0, .slice none 0 0] 44) = W0 at HB0 HF0 ⊢
  have HLT := Aside0.mk (blk_lt HF0.out)
  have HL1 := Aside0.mk (show Below w.heap.size w (W0.alloc (.cells #[.int .u8 79, .int .u8 68, .int .u8 79, .int .u8 1] 5 (4, 5))) from below_alloc HB0.out _)
  have HPC := Aside0.mk (prefix_calls (w := W0.alloc (.cells #[.int .u8 79, .int .u8 68, .int .u8 79, .int .u8 1] 5 (4, 5))) (c0 := cp) (c1 := 4) bs [79, 68, 79, 1] (HR.out.below HL1.out) HL.out.2 (reads_lit [79, 68, 79, 1] (blk_new W0 _) rfl (by decide)) (by decide))
  have HF1 := Aside0.mk (((below_alloc (Below.refl W0.heap.size W0) (.cells #[.int .u8 79, .int .u8 68, .int .u8 79, .int .u8 1] 5 (4, 5))).block _ HLT.out).trans HF0.out)
  obtain ⟨p, hp⟩ : ∃ p, p = decide (bs.take 4 = [79, 68, 79, 1]) := ⟨_, rfl⟩
  rw [show ([79, 68, 79, 1] : List UInt8).length = 4 from rfl, ← hp] at HPC
  cases p with
  | false =>
    have hp' : ¬ bs.take 4 = [79, 68, 79, 1] := of_decide_eq_false hp.symm
    have HRE := Aside0.mk (show R = (⟨0, 0, []⟩, 25) from by rw [hR]; unfold decP; rw [if_pos hp'])
    clear hp hp' hR hl hcp
    go_upto_region 3 with (first | (go_at_call 58; (with_reducible refine HPC.out.mono ?_); rintro e w2 ⟨rfl, hb⟩; have HB := Aside0.mk (HL1.out.trans (hb.mono (by have := HLT.out; simp; omega))); have HF := Aside0.mk ((hb.block w.heap.size (by have := HLT.out; simp; omega)).trans HF1.out); clear hb))
    go_wp2_with (first | (refine wpList_store_row rfl 44 (.tmp 2) (.tmp 17) rfl w.heap.size #[.int .u64 0, .int .i64 0, .slice none 0 0] rfl rfl 44 #[.int .u64 0, .int .i64 0, .slice none 0 0] HF.out HSZ.out.1 rfl HSZ.out.2 ?_; rw [setRow_self _ _ _ _ _ HF.out]))
    try simp only [Exit.inBlock, Exit.then]
    refine bodyPost_ret (results_ct rfl _ _ w.heap.size 44 _ (0, 0) _ rfl HF.out Tryz.underlying44 rfl HSZ.out.1) rfl ?_
    rw [HRE.out]
    exact ⟨.slice none 0 0, rfl, own_nil _ _ _ _, HB.out⟩
  | true =>
    have hp' : bs.take 4 = [79, 68, 79, 1] := of_decide_eq_true hp.symm
    have h4 : 4 ≤ bs.length := by have := congrArg List.length hp'; simp at this; omega
    have hw4 : wrap64 ((bs.length : Int) - 4) = ((bs.length - 4 : Nat) : Int) := by unfold wrap64; omega
    by_cases h8 : bs.length < 8
    · skip
      have HRE := Aside0.mk (show R = (⟨0, 0, []⟩, 11) from by rw [hR]; unfold decP; rw [if_neg (fun h => h hp'), if_pos h8])
      have d1 : decide (((bs.length - 4 : Nat) : Int) < 4) = true := decide_eq_true (by omega)
      have d2 : ((bs.length - 4 : Nat) : Int) < 4 := by omega
      clear hp hp' hR hl hcp h8
      go_upto_region 5 with (first | (go_at_call 58; (with_reducible refine HPC.out.mono ?_); rintro e w2 ⟨rfl, hb⟩; have HB := Aside0.mk (HL1.out.trans (hb.mono (by have := HLT.out; simp; omega))); have HF := Aside0.mk ((hb.block w.heap.size (by have := HLT.out; simp; omega)).trans HF1.out); clear hb))
      go_wp2_with (first | (refine wpList_store_row rfl 44 (.tmp 2) (.tmp 21) rfl w.heap.size #[.int .u64 0, .int .i64 0, .slice none 0 0] rfl rfl 44 #[.int .u64 0, .int .i64 0, .slice none 0 0] HF.out HSZ.out.1 rfl HSZ.out.2 ?_; rw [setRow_self _ _ _ _ _ HF.out]))
      try simp only [Exit.inBlock, Exit.then]
      refine bodyPost_ret (results_ct rfl _ _ w.heap.size 44 _ (0, 0) _ rfl HF.out Tryz.underlying44 rfl HSZ.out.1) rfl ?_
      rw [HRE.out]
      exact ⟨.slice none 0 0, rfl, own_nil _ _ _ _, HB.out⟩
    · skip
      have d1 : decide (((bs.length - 4 : Nat) : Int) < 4) = false := decide_eq_false (by omega)
      have hRR : R = (if bs.drop (bs.length - 4) ≠ be4 (crc (bs.take (bs.length - 4))) then (⟨0, 0, []⟩, 24) else
          if (frmP ((bs.take (bs.length - 4)).drop 4)).2 = 11 then (⟨0, 0, []⟩, 11) else if (frmP ((bs.take (bs.length - 4)).drop 4)).2 ≠ 0 ∨ mayP (frmP ((bs.take (bs.length - 4)).drop 4)).1 = false then (⟨0, 0, []⟩, 2) else ((frmP ((bs.take (bs.length - 4)).drop 4)).1, 0)) := by rw [hR]; unfold decP; rw [if_neg (fun h => h hp'), if_neg h8]
      have H8 := Aside0.mk (show 8 ≤ bs.length from by omega)
      have HRR := Aside0.mk hRR
      clear hp hp' hR hl hcp h8 hRR
      go_upto_region 6 with (first | (go_at_call 58; (with_reducible refine HPC.out.mono ?_); rintro e w2 ⟨rfl, hb⟩; have HB := Aside0.mk (HL1.out.trans (hb.mono (by have := HLT.out; simp; omega))); have HF := Aside0.mk ((hb.block w.heap.size (by have := HLT.out; simp; omega)).trans HF1.out); clear hb))
      obtain ⟨en, hen⟩ : ∃ en, en = bs.length - 4 := ⟨_, rfl⟩
      rw [← hen] at d1 hw4 HRR ⊢
      have hee : en + 4 = bs.length := by have := H8.out; omega
      have HEN := Aside0.mk hee
      have k1 : (en : Int) ≤ (cp : Int) := by have := HL.out.2; omega
      have k2 : (0 : Int) ≤ (en : Int) := by omega
      have k3 : (en : Int) ≤ (bs.length : Int) := by omega
      have HSM := Aside0.mk (fun (W : World) (h : Below w.heap.size w W) => sum_calls A cp (bs.take en) W (by
        have := (HR.out.below h).take_ en (by omega)
        rw [show (bs.take en).length = en by rw [List.length_take]; omega]
        rw [show nb (bs.take en) = (nb bs).take en by unfold nb; rw [List.map_take]]
        exact this))
      rw [show (bs.take en).length = en by rw [List.length_take]; omega] at HSM
      obtain ⟨c, hc⟩ : ∃ c, c = crc (bs.take en) := ⟨_, rfl⟩
      rw [← hc] at HRR HSM
      have hc32 : c < 4294967296 := by
        rw [hc]
        unfold crc
        exact Nat.xor_lt_two_pow (n := 32) (crF_lt _) (by decide)
      obtain ⟨A', hsl, hA', hbl⟩ := cut_from A bs.length cp en (by omega)
      rw [show bs.length - en = 4 by omega] at hsl hA'
      have HA' := Aside0.mk (fun (W : World) (h : Below w.heap.size w W) => hA' W .u8 (nb bs) HL.out.2 (HR.out.below h))
      clear hen hee hA' hbl hc hw4
      have HCC := Aside0.mk hc32
      go_upto_region 7 with (first | (go_at_call 59; (with_reducible refine (HSM.out _ HB.out).mono ?_); rintro e w3 ⟨rfl, hb⟩; have HB3 := Aside0.mk (HB.out.trans (hb.mono HB.out.size)); have HF3 := Aside0.mk ((hb.block _ (blk_lt HF.out)).trans HF.out); clear hb HB HF))
      have HB := HB3
      have HF := HF3
      clear HB3 HF3
      have HEQ := Aside0.mk (equal_calls (w := w3.alloc (.cells #[.int .u8 ((c : Int) / 16777216), .int .u8 ((c : Int) / 65536 % 256), .int .u8 ((c : Int) / 256 % 256), .int .u8 ((c : Int) % 256)] 5)) (A0 := A') (A1 := some ⟨w3.heap.size, 0, none⟩) (c0 := cp - en) (c1 := 4) (bs.drop en) (be4 c) (by
        have := HA'.out _ (below_alloc HB.out (.cells #[.int .u8 ((c : Int) / 16777216), .int .u8 ((c : Int) / 65536 % 256), .int .u8 ((c : Int) / 256 % 256), .int .u8 ((c : Int) % 256)] 5))
        rw [show (bs.drop en).length = 4 by rw [List.length_drop]; have := HEN.out; omega]
        rw [show nb (bs.drop en) = (nb bs).drop en by unfold nb; rw [List.map_drop]]
        exact this) (by rw [List.length_drop]; have := HEN.out; have := HL.out.2; omega) (reads_lit (be4 c) (blk_new w3 _) (be4_cells c HCC.out) (by show (4 : Nat) ≤ _; decide)) (by show (4 : Nat) ≤ 4; decide))
      rw [show (bs.drop en).length = 4 by rw [List.length_drop]; have := HEN.out; omega, show (be4 c).length = 4 from rfl] at HEQ
      have HBA := Aside0.mk (below_alloc HB.out (.cells #[.int .u8 ((c : Int) / 16777216), .int .u8 ((c : Int) / 65536 % 256), .int .u8 ((c : Int) / 256 % 256), .int .u8 ((c : Int) % 256)] 5))
      have HFA := Aside0.mk (((below_alloc (Below.refl w3.heap.size w3) (.cells #[.int .u8 ((c : Int) / 16777216), .int .u8 ((c : Int) / 65536 % 256), .int .u8 ((c : Int) / 256 % 256), .int .u8 ((c : Int) % 256)] 5)).block _ (blk_lt HF.out)).trans HF.out)
      obtain ⟨q, hq⟩ : ∃ q, q = decide (bs.drop en = be4 c) := ⟨_, rfl⟩
      rw [← hq] at HEQ
      cases q with
      | false =>
        have HRE := Aside0.mk (show R = (⟨0, 0, []⟩, 24) from by rw [HRR.out, if_pos (of_decide_eq_false hq.symm)])
        clear hq
        go_upto_region 8 with (first | (go_at_call 40; (with_reducible refine HEQ.out.mono ?_); rintro e w4 ⟨rfl, hb⟩; have HB4 := Aside0.mk (HBA.out.trans (hb.mono HBA.out.size)); have HF4 := Aside0.mk ((hb.block _ (blk_lt HFA.out)).trans HFA.out); clear hb HB HF; have HB := HB4; have HF := HF4; clear HB4 HF4))
        go_wp2_with (first | (refine wpList_store_row rfl 44 (.tmp 2) (.tmp 43) rfl w.heap.size #[.int .u64 0, .int .i64 0, .slice none 0 0] rfl rfl 44 #[.int .u64 0, .int .i64 0, .slice none 0 0] HF.out HSZ.out.1 rfl HSZ.out.2 ?_; rw [setRow_self _ _ _ _ _ HF.out]))
        try simp only [Exit.inBlock, Exit.then]
        refine bodyPost_ret (results_ct rfl _ _ w.heap.size 44 _ (0, 0) _ rfl HF.out Tryz.underlying44 rfl HSZ.out.1) rfl ?_
        rw [HRE.out]
        exact ⟨.slice none 0 0, rfl, own_nil _ _ _ _, HB.out⟩
      | true =>
        have hq' : bs.drop en = be4 c := of_decide_eq_true hq.symm
        have HRE := Aside0.mk (show R = if (frmP (List.drop 4 (List.take en bs))).snd = 11 then (⟨0, 0, []⟩, 11) else if (frmP (List.drop 4 (List.take en bs))).snd ≠ 0 ∨ mayP (frmP (List.drop 4 (List.take en bs))).fst = false then (⟨0, 0, []⟩, 2) else ((frmP (List.drop 4 (List.take en bs))).fst, 0) from by rw [HRR.out, if_neg (fun h => h hq')])
        clear hq hq' HRR
        obtain ⟨fb, hfb⟩ : ∃ fb, fb = (bs.take en).drop 4 := ⟨_, rfl⟩
        rw [← hfb] at HRE
        have h4e : (4 : Int) ≤ (en : Int) := by have := HEN.out; have := H8.out; omega
        have hs4 := cut_mid (P := Tryz.prog) 29 5 .i64 .i64 Tryz.underlying29 (i := (Tryz.prog.info? 5).get!) (by kernel_rfl) 1 (by kernel_rfl) A bs.length cp (4 : Int) (en : Int) (by omega) h4e k3 (by have := HL.out.2; omega)
        rw [show ((en : Int)).toNat - ((4 : Int)).toNat = en - 4 by omega, show (4 : Int).toNat = 4 from rfl, Nat.mul_one] at hs4
        obtain ⟨A4, hA4⟩ : ∃ A4, A4 = if cp = 4 then A else A.map (·.add 4) := ⟨_, rfl⟩
        rw [← hA4] at hs4
        have hR4 : ReadsInt w .u8 A4 fb.length (nb fb) := by
          have h1 := (HR.out.take_ en (by have := HEN.out; omega)).drop_ 4 (by omega) (show en ≤ cp by have := HL.out.2; have := HEN.out; omega)
          rw [← hA4] at h1
          rw [hfb, show ((bs.take en).drop 4).length = en - 4 by rw [List.length_drop, List.length_take]; have := HEN.out; omega, show nb ((bs.take en).drop 4) = ((nb bs).take en).drop 4 by unfold nb; rw [List.map_drop, List.map_take]]
          exact h1
        have hfl : fb.length = en - 4 := by rw [hfb, List.length_drop, List.length_take]; have := HEN.out; omega
        rw [← hfl] at hs4
        have H4 := Aside0.mk hR4
        have HF4L := Aside0.mk (show fb.length ≤ 1000000 ∧ fb.length ≤ cp - 4 from by have := HL.out; have := HEN.out; omega)
        clear hA4 hR4 hfb hfl
        go_upto_region 10 with (first | (go_at_call 40; (with_reducible refine HEQ.out.mono ?_); rintro e w4 ⟨rfl, hb⟩; have HB4 := Aside0.mk (HBA.out.trans (hb.mono HBA.out.size)); have HF4 := Aside0.mk ((hb.block _ (blk_lt HFA.out)).trans HFA.out); clear hb HB HF; have HB := HB4; have HF := HF4; clear HB4 HF4))
        have HB5 := Aside0.mk (below_alloc HB.out (.cells #[.slice A4 fb.length (cp - 4), .nilIface] 118))
        have HGR := Aside0.mk (blk_lt HF.out)
        have HF5 := Aside0.mk (((below_alloc (Below.refl w4.heap.size w4) (.cells #[.slice A4 fb.length (cp - 4), .nilIface] 118)).block _ (blk_lt HF.out)).trans HF.out)
        have HRD := Aside0.mk (show IsR (w4.alloc (.cells #[.slice A4 fb.length (cp - 4), .nilIface] 118)).heap.size (w4.alloc (.cells #[.slice A4 fb.length (cp - 4), .nilIface] 118)) w4.heap.size (fb, 0) from
          ⟨A4, cp - 4, blk_new w4 _, HF4L.out.2, H4.out.below HB5.out, fun ad e hn => by
            have h1 := reads_lt H4.out ad e hn
            have h2 := HB.out.size
            simp
            omega⟩)
        generalize w4.alloc (.cells #[.slice A4 fb.length (cp - 4), .nilIface] 118) = W5 at HB5 HF5 HRD ⊢
        generalize w4.heap.size = gr at HRD HGR ⊢
        clear HB HF
        have HFC := Aside0.mk (frame_calls gr fb HF4L.out.1 W5 (HG.out.below HB5.out) HRD.out)
        obtain ⟨⟨⟨seq, win, recs⟩, e⟩, hf⟩ : ∃ f, f = frmP fb := ⟨_, rfl⟩
        rw [← hf] at HFC HRE
        dsimp only at HFC HRE
        clear hf
        go_upto_region 11 with (first | (go_at_call 60; (with_reducible refine HFC.out.mono ?_); rintro e_ w6 ⟨rv, s6, rfl, h1, h2, h3, h4⟩; obtain ⟨Av, cv, rfl⟩ := row_form h1; have HW6 := Aside0.mk (And.intro h1 (And.intro h2 (And.intro h3 h4))); clear h1 h2 h3 h4))
        have HB6 := Aside0.mk (HB5.out.trans (HW6.out.2.2.2.below (B := w.heap.size) (fun k hk => by have : k = gr := hk; have := HGR.out; omega) HB5.out.size))
        have HF6 := Aside0.mk (HW6.out.2.2.2.blk HF5.out (fun e => by have : w.heap.size = gr := e; have := HGR.out; omega))
        have HX7 := Aside0.mk (blk_new w6 (.cells #[.int .u64 (seq : Nat), .int .i64 win, .slice Av recs.length cv] 44))
        have HBA := Aside0.mk (below_alloc (Below.refl w6.heap.size w6) (.cells #[.int .u64 (seq : Nat), .int .i64 win, .slice Av recs.length cv] 44))
        have HB7 := Aside0.mk (HB6.out.trans (HBA.out.mono HB6.out.size))
        have HF7 := Aside0.mk ((HBA.out.block _ (blk_lt HF6.out)).trans HF6.out)
        have HO7 := Aside0.mk (own_weaken (pw_own_below HW6.out.1 HBA.out) HB5.out.size)
        obtain ⟨Ar, cr, hbr, _, _, _⟩ := HW6.out.2.1
        have r1 : (w6.alloc (.cells #[.int .u64 (seq : Nat), .int .i64 win, .slice Av recs.length cv] 44)).cell? ⟨gr, 1, none⟩ = some (wrV e) := by
          have h1 := (HBA.out.block _ (blk_lt hbr)).trans hbr
          rw [HW6.out.2.2.1] at h1
          exact (blk_cell h1 1).trans rfl
        clear hbr HBA HB6 HF6
        have HW7 := Aside0.mk HW6.out.2.2.2.size
        generalize w6.alloc (.cells #[.int .u64 (seq : Nat), .int .i64 win, .slice Av recs.length cv] 44) = W7 at HX7 HB7 HF7 HO7 r1 ⊢
        generalize w6.heap.size = gf at HX7 ⊢
        clear HW6 HB5 HF5 HRD HFC
        have x0 : W7.cell? ⟨gf, 0, none⟩ = some (.int .u64 (seq : Nat)) := (blk_cell HX7.out 0).trans rfl
        have x1 : W7.cell? ⟨gf, 1, none⟩ = some (.int .i64 win) := (blk_cell HX7.out 1).trans rfl
        have x2 : W7.cell? ⟨gf, 2, none⟩ = some (.slice Av recs.length cv) := (blk_cell HX7.out 2).trans rfl
        by_cases h0 : e = 0
        · skip
          subst h0
          rw [show wrV 0 = .nilIface from rfl] at r1
          rw [if_neg (by decide)] at HRE
          have hln : recs.length ≤ 9223372036854775807 := by
            have h1 := HO7.out
            rcases h1.2 with ⟨_, h⟩ | ⟨_, _, _, _, _, _, h, h', _⟩
            · omega
            · unfold maxLen at h'; omega
          have HM := Aside0.mk (may_calls ⟨seq, win, recs⟩ Av cv W7 (recsAt_of_row HO7.out hln))
          obtain ⟨m, hm⟩ : ∃ m, m = mayP ⟨seq, win, recs⟩ := ⟨_, rfl⟩
          rw [← hm] at HM HRE
          clear hm hln
          cases m with
          | false =>
            rw [if_pos (Or.inr rfl)] at HRE
            go_upto_region 14 with (first | (go_at_call 61; (with_reducible refine (Ie.is_nil 11 _).mono ?_); rintro e_ w8 ⟨rfl, hw⟩; subst hw) | (go_at_call 62; (with_reducible refine HM.out.mono ?_); rintro e_ w9 ⟨rfl, hb⟩; have HB := Aside0.mk (HB7.out.trans (hb.mono HB7.out.size)); have HF := Aside0.mk ((hb.block _ (blk_lt HF7.out)).trans HF7.out); clear hb))
            go_wp2_with (first | (refine wpList_store_row rfl 44 (.tmp 2) (.tmp 70) rfl w.heap.size #[.int .u64 0, .int .i64 0, .slice none 0 0] rfl rfl 44 #[.int .u64 0, .int .i64 0, .slice none 0 0] HF.out HSZ.out.1 rfl HSZ.out.2 ?_; rw [setRow_self _ _ _ _ _ HF.out]))
            try simp only [Exit.inBlock, Exit.then]
            refine bodyPost_ret (results_ct rfl _ _ w.heap.size 44 _ (0, 0) _ rfl HF.out Tryz.underlying44 rfl HSZ.out.1) rfl ?_
            rw [HRE.out]
            exact ⟨.slice none 0 0, rfl, own_nil _ _ _ _, HB.out⟩
          | true =>
            rw [if_neg (by rintro (h | h); exact h rfl; cases h)] at HRE
            go_upto_region 15 with (first | (go_at_call 61; (with_reducible refine (Ie.is_nil 11 _).mono ?_); rintro e_ w8 ⟨rfl, hw⟩; subst hw) | (go_at_call 62; (with_reducible refine HM.out.mono ?_); rintro e_ w9 ⟨rfl, hb⟩; have HB := Aside0.mk (HB7.out.trans (hb.mono HB7.out.size)); have HF := Aside0.mk ((hb.block _ (blk_lt HF7.out)).trans HF7.out); have HX := Aside0.mk ((hb.block _ (blk_lt HX7.out)).trans HX7.out); have HO := Aside0.mk (pw_own_below HO7.out hb); clear hb))
            have HSZ2 := Aside0.mk (show (Tryz.prog.info? 44).map (·.size) = some (#[.int .u64 (seq : Nat), .int .i64 win, .slice Av recs.length cv] : Array Value).size ∧ (#[.int .u64 (seq : Nat), .int .i64 win, .slice Av recs.length cv] : Array Value).all (·.oneCell') = true from ⟨by rw [show (#[.int .u64 (seq : Nat), .int .i64 win, .slice Av recs.length cv] : Array Value).size = 3 from rfl]; kernel_rfl, by simp [Value.oneCell']⟩)
            go_wp2_with (first | (refine wpList_load_row rfl 44 (.tmp 7) rfl gf rfl 44 #[.int .u64 (seq : Nat), .int .i64 win, .slice Av recs.length cv] (0, 0) _ HX.out Tryz.underlying44 rfl HSZ2.out.1 ?_) | (refine wpList_store_row rfl 44 (.tmp 2) (.tmp 71) rfl w.heap.size #[.int .u64 (seq : Nat), .int .i64 win, .slice Av recs.length cv] rfl rfl 44 #[.int .u64 0, .int .i64 0, .slice none 0 0] HF.out HSZ.out.1 rfl HSZ2.out.2 ?_))
            try simp only [Exit.inBlock, Exit.then]
            have HRW := setRow_heap w9 w.heap.size _ #[.int .u64 (seq : Nat), .int .i64 win, .slice Av recs.length cv] 44 (0, 0) HF.out
            refine bodyPost_ret (results_ct rfl _ _ w.heap.size 44 _ (0, 0) _ rfl HRW Tryz.underlying44 rfl HSZ2.out.1) rfl ?_
            rw [HRE.out]
            refine ⟨.slice Av recs.length cv, rfl, ?_, below_setRow HB.out (Nat.le_refl _) _⟩
            refine own_move HO.out fun j hj => setRow_other w9 w.heap.size j _ (fun e => ?_)
            subst e
            obtain ⟨cs, hc⟩ := own_typed HO.out _ hj
            rw [HF.out] at hc
            injection hc with hc
            injection hc with _ ht
            exact absurd ht (by decide)
        · skip
          rw [show wrV e = .iface 137 (.agg #[.int .i64 e]) from if_neg h0] at r1
          have HIS := Aside0.mk (Ie.is_fault e 11 W7)
          by_cases h11 : e = 11
          · skip
            subst h11
            rw [show ((11 : Int) == 11) = true from rfl] at HIS
            rw [if_pos rfl] at HRE
            go_upto_region 12 with (first | (go_at_call 61; (with_reducible refine HIS.out.mono ?_); rintro e_ w8 ⟨rfl, hb⟩; have HB := Aside0.mk (HB7.out.trans (hb.mono HB7.out.size)); have HF := Aside0.mk ((hb.block _ (blk_lt HF7.out)).trans HF7.out); have r2 := pw_cell_below hb r1; clear hb))
            go_wp2_with (first | (refine wpList_store_row rfl 44 (.tmp 2) (.tmp 58) rfl w.heap.size #[.int .u64 0, .int .i64 0, .slice none 0 0] rfl rfl 44 #[.int .u64 0, .int .i64 0, .slice none 0 0] HF.out HSZ.out.1 rfl HSZ.out.2 ?_; rw [setRow_self _ _ _ _ _ HF.out]))
            try simp only [Exit.inBlock, Exit.then]
            refine bodyPost_ret (results_ct rfl _ _ w.heap.size 44 _ (0, 0) _ rfl HF.out Tryz.underlying44 rfl HSZ.out.1) rfl ?_
            rw [HRE.out]
            exact ⟨.slice none 0 0, rfl, own_nil _ _ _ _, HB.out⟩
          · skip
            rw [show (e == 11) = false from beq_eq_false_iff_ne.2 h11] at HIS
            rw [if_neg h11, if_pos (Or.inl h0)] at HRE
            clear h0 h11
            go_upto_region 14 with (first | (go_at_call 61; (with_reducible refine HIS.out.mono ?_); rintro e_ w8 ⟨rfl, hb⟩; have HB := Aside0.mk (HB7.out.trans (hb.mono HB7.out.size)); have HF := Aside0.mk ((hb.block _ (blk_lt HF7.out)).trans HF7.out); have r2 := pw_cell_below hb r1; clear hb))
            go_wp2_with (first | (refine wpList_store_row rfl 44 (.tmp 2) (.tmp 70) rfl w.heap.size #[.int .u64 0, .int .i64 0, .slice none 0 0] rfl rfl 44 #[.int .u64 0, .int .i64 0, .slice none 0 0] HF.out HSZ.out.1 rfl HSZ.out.2 ?_; rw [setRow_self _ _ _ _ _ HF.out]))
            try simp only [Exit.inBlock, Exit.then]
            refine bodyPost_ret (results_ct rfl _ _ w.heap.size 44 _ (0, 0) _ rfl HF.out Tryz.underlying44 rfl HSZ.out.1) rfl ?_
            rw [HRE.out]
            exact ⟨.slice none 0 0, rfl, own_nil _ _ _ _, HB.out⟩
end Go.Proofs.YtpihpkphhkcdlaaGreatDoor.De
