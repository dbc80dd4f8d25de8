/- SinkRanges. -/
import Derived.Test.YtpihpkphhkcdlaaGreatDoorKn
import Derived.Test.YtpihpkphhkcdlaaGreatDoorIc
import Derived.Test.YtpihpkphhkcdlaaGreatDoorTx
namespace Go.Proofs.YtpihpkphhkcdlaaGreatDoor.Rw
open Go.RowKit Go.Maps Go.Proofs.YtpihpkphhkcdlaaGreatDoorW.PrintWords Go.Proofs.YtpihpkphhkcdlaaGreatDoorW.PrintLast Go.Proofs.YtpihpkphhkcdlaaGreatDoor.Tab Go.Proofs.YtpihpkphhkcdlaaGreatDoor.Kp Go.Proofs.YtpihpkphhkcdlaaGreatDoor.Pd Go.Proofs.YtpihpkphhkcdlaaGreatDoor.Pk Go.Proofs.YtpihpkphhkcdlaaGreatDoor.Sk Go.Proofs.YtpihpkphhkcdlaaGreatDoor.Lk Go.Proofs.YtpihpkphhkcdlaaGreatDoor.Tke Go.Proofs.YtpihpkphhkcdlaaGreatDoor.Ad Go.Proofs.YtpihpkphhkcdlaaGreatDoor.To Go.Proofs.YtpihpkphhkcdlaaGreatDoor.Kn Go.Proofs.YtpihpkphhkcdlaaGreatDoor.Pl Go.Proofs.YtpihpkphhkcdlaaGreatDoor.Ic Go.Proofs.YtpihpkphhkcdlaaGreatDoor.PR Go.Proofs.YtpihpkphhkcdlaaGreatDoor.Eq Go.Proofs.YtpihpkphhkcdlaaGreatDoor.De Go.Proofs.YtpihpkphhkcdlaaGreatDoor.Fr
set_option linter.unusedVariables false
set_option linter.unusedSimpArgs false
theorem text_at (l0 : List (List Int)) (hw : ∀ t ∈ l0, ∀ z ∈ t, (Lit.int .u8 z).wf = true) (i : Nat) (hi : i < l0.length) : ∃ bs, rd_L1 l0 (i : Int) = nb bs := by
  have e : rd_L1 l0 (i : Int) = l0[i] := by unfold rd_L1; simp [List.getD, hi]
  rw [e]
  exact Tx.nb_of _ (hw _ (List.getElem_mem hi))
theorem len_at (l0 : List (List Int)) (hw : ∀ t ∈ l0, t.length ≤ 9000) (i : Nat) (hi : i < l0.length) : (rd_L1 l0 (i : Int)).length ≤ 9000 := by
  have e : rd_L1 l0 (i : Int) = l0[i] := by unfold rd_L1; simp [List.getD, hi]
  rw [e]
  exact hw _ (List.getElem_mem hi)
/-- The three totals, in plain words. -/
theorem three (k : K) (hI : Incs k) (name : ByteArray) (fr mid tt : Int) (h1 : fr ≤ mid) (h2 : mid < tt) (ws1 ws2 ws3 : List Int) (p1 : ws1.Perm (k.map fun e => e.1.win)) (p2 : ws2.Perm (k.map fun e => e.1.win)) (p3 : ws3.Perm (k.map fun e => e.1.win)) (a b c : Int) (x y z : Bool)
    (e1 : totP k name fr mid ws1 = (a, x)) (e2 : totP k name (mid + 1) tt ws2 = (b, y)) (e3 : totP k name fr tt ws3 = (c, z)) :
    if (x || y || z) = true then (decide (wrap64 (a + b) < 0) || x || y) = z else wrap64 (a + b) = c := by
  have t1 := totP_sat k hI name fr mid ws1
  have t2 := totP_sat k hI name (mid + 1) tt ws2
  have t3 := totP_sat k hI name fr tt ws3
  rw [sumP_perm k name fr mid p1, anyP_perm k name fr mid p1, e1] at t1
  rw [sumP_perm k name (mid + 1) tt p2, anyP_perm k name (mid + 1) tt p2, e2] at t2
  rw [sumP_perm k name fr tt p3, anyP_perm k name fr tt p3, e3] at t3
  have s := sumP_split k name fr mid tt h1 h2 (k.map fun e => e.1.win)
  have q := anyP_split k name fr mid tt h1 h2 (k.map fun e => e.1.win)
  rw [← s, ← q] at t3
  have r := ranges _ _ (anyP k name fr mid (k.map fun e => e.1.win)) (anyP k name (mid + 1) tt (k.map fun e => e.1.win)) t1.2 t2.2
  rw [← t1.1, ← t2.1, ← t3.1] at r
  exact r
set_option maxHeartbeats 16000000 in
set_option maxRecDepth 1000000 in
theorem walk_ (k : Nat) (A0 : Option Addr) (c0 : Nat) (l0 : List (List Int)) (name : ByteArray) (fr mid tt : Int) (b : Bool) (w : World) (hb : b = true → l0.length ≤ 20 ∧ ∀ x ∈ l0, x.length ≤ 9000) (hw : ∀ t ∈ l0, ∀ z ∈ t, (Lit.int .u8 z).wf = true) (hfr : -9223372036854775808 ≤ fr) (htt : tt < 9223372036854775808) (hG : Glob w) (hr0 : Kd.C (Kd.slice 5 (Kd.int .u8)) w A0 l0.length l0) (hc0 : l0.length ≤ c0) (hf : odometerlaw31_few.f k l0 20 = some b) :
    Calls Tryz.prog 3 #[.slice A0 l0.length c0, .string name, .int .i64 fr, .int .i64 mid, .int .i64 tt] w fun e w' => e = .returned (.bool true) ∧ Below w.heap.size w w' := by
  have HF := Aside0.mk (odometerlaw31_few.calls k A0 c0 l0 20 b w hr0 hc0 hf)
  have HG := Aside0.mk hG
  clear hc0 hf hG
  go_enter Tryz.func3, Tryz.ntmps3
  cases b with
  | false =>
    go_wp2_with (first
      | (go_at_call 6; refine HF.out.mono ?_; clear HF; rintro e_ w1 ⟨rfl, ⟨m1, rfl⟩⟩)
      | (go_at_call 7; refine (known_calls _ (HG.out.below (pw_below_drewN (Below.refl _ _) _))).mono ?_; rintro e_ w2 ⟨rfl, h1⟩))
    go_ret
    exact ⟨rfl, (pw_below_drewN (Below.refl _ _) _).trans h1⟩
  | true =>
    by_cases c1 : mid < fr
    · go_wp2_with (first
        | (go_at_call 6; refine HF.out.mono ?_; clear HF; rintro e_ w1 ⟨rfl, ⟨m1, rfl⟩⟩)
        | (go_at_call 7; refine (known_calls _ (HG.out.below (pw_below_drewN (Below.refl _ _) _))).mono ?_; rintro e_ w2 ⟨rfl, h1⟩))
      go_ret
      exact ⟨rfl, (pw_below_drewN (Below.refl _ _) _).trans h1⟩
    · by_cases c2 : tt ≤ mid
      · go_wp2_with (first
          | (go_at_call 6; refine HF.out.mono ?_; clear HF; rintro e_ w1 ⟨rfl, ⟨m1, rfl⟩⟩)
          | (go_at_call 7; refine (known_calls _ (HG.out.below (pw_below_drewN (Below.refl _ _) _))).mono ?_; rintro e_ w2 ⟨rfl, h1⟩))
        go_ret
        exact ⟨rfl, (pw_below_drewN (Below.refl _ _) _).trans h1⟩
      · have HB2 := Aside0.mk (hb rfl)
        have HWF := Aside0.mk hw
        clear hb hw
        have c1' : fr ≤ mid := by omega
        have c2' : mid < tt := by omega
        have HMM := Aside0.mk (show wrap64 (mid + 1) = mid + 1 from by unfold wrap64; omega)
        have HC := Aside0.mk (And.intro c1' c2')
        clear c1 c2 hfr htt
        go_wp2_with (first
          | (go_at_call 6; refine HF.out.mono ?_; clear HF; rintro e_ w1 ⟨rfl, ⟨m1, rfl⟩⟩)
          | (go_at_call 8; refine (new_calls _).mono ?_; rintro e_ w1 ⟨rfl, h1, h2⟩; rw [show (w.drewN m1).heap.size = w.heap.size from by simp] at h1; have HN := Aside0.mk (And.intro h1 h2); clear h1 h2))
        have HRR := Aside0.mk hr0
        clear hr0
        obtain ⟨ok, hok⟩ : ∃ ok : Nat → Prop, ok = fun j => w.heap.size + 1 + 1 < j := ⟨_, rfl⟩
        have HOK := Aside0.mk hok
        have HS0 := Aside0.mk (HN.out.1 ok (by rw [hok]; exact ⟨by omega, by omega, by omega⟩))
        have HB0 := Aside0.mk (show Below w.heap.size w w1 from (pw_below_drewN (Below.refl _ _) _).trans HN.out.2)
        have HG0 := Aside0.mk (HG.out.below HB0.out)
        clear hok HN
        go_loopg [12] l0.length (fun kq v12 w' => ∃ (i : Nat) (kk : K) (c : List Int), v12 = .int .i64 i ∧ i + kq = l0.length ∧ Aside0 (IsS w' ok (w.heap.size + 1 + 1) w.heap.size (w.heap.size + 1) kk c ∧ Incs kk ∧ kk.length ≤ i ∧ Glob w' ∧ Below w.heap.size w w'))
        case atStart => exact ⟨0, [], [], rfl, by omega, ⟨HS0.out, (by intro e he; simp at he), by simp, HG0.out, HB0.out⟩⟩
        case round =>
          clear HS0 HB0 HG0
          obtain ⟨i, kk, c, rfl, hik, HL⟩ := hrel
          have HRB := Aside0.mk (Kd.C_below HRR.out HL.out.2.2.2.2)
          by_cases hi : i < l0.length
          · have d1 : decide ((i : Int) < (l0.length : Int)) = true := decide_eq_true (by omega)
            have hwi : wrap64 ((i : Int) + 1) = ((i + 1 : Nat) : Int) := by unfold wrap64; have := (HB2.out).1; omega
            have HWI := Aside0.mk hwi
            clear hwi
            obtain ⟨ad, A', c', eA, hcell, hcap, hbs⟩ := at_L1 HRB.out (i : Int) (by omega) (by omega)
            rw [Int.toNat_natCast] at hcell
            obtain ⟨bs, ebs⟩ := text_at l0 HWF.out i hi
            have hl9 := len_at l0 HB2.out.2 i hi
            rw [ebs] at hcell hcap hbs hl9
            rw [nb_len] at hcell hcap hbs hl9
            have hrd : ReadsInt wr .u8 A' bs.length (nb bs) := Kd.reads_of_C hbs
            subst eA
            have hi0 : (0 : Int) ≤ (i : Int) := by omega
            have hi1 : (i : Int) < (l0.length : Int) := by omega
            have HTK := Aside0.mk (take_at ok _ _ _ kk c A' c' bs (tookP kk bs).1 (tookP kk bs).2 rfl (by omega) hcap wr HL.out.2.2.2.1 hrd HL.out.1 (by intro j hj; rw [HOK.out]; have h9 := blk_lt HL.out.1.blk; dsimp only at h9 ⊢; omega) (by have := HL.out.2.2.1; have := HB2.out.1; omega))
            have HIK := Aside0.mk hik
            clear hbs hl9 hcap hrd ebs hik
            go_wp2_with (first
              | (go_at_call 9; (with_reducible refine HTK.out.mono ?_); clear HTK; rintro e_ w4 ⟨rfl, ⟨c2, h1⟩, h2⟩; have HT := Aside0.mk (And.intro h1 h2); clear h1 h2))
            go_roundg (gk - 1)
            case measure => have := HIK.out; omega
            case rel => exact ⟨i + 1, (tookP kk bs).2, c2, by first | rfl | (rw [HWI.out]), by have := HIK.out; omega, ⟨HT.out.1, tookP_incs kk bs HL.out.2.1, by have := tookP_len kk bs; have := HL.out.2.2.1; omega, HL.out.2.2.2.1.keep HT.out.2 (fun h => by have h8 := HG.out.lt; rcases h with h | h | h <;> omega), HL.out.2.2.2.2.trans (HT.out.2.below (B := w.heap.size) (fun k h => by rcases h with h | h | h <;> omega) HL.out.2.2.2.2.size)⟩⟩
          · have d1 : decide ((i : Int) < (l0.length : Int)) = false := decide_eq_false (by omega)
            have HKL := Aside0.mk (show kk.length ≤ 1000000 from by have := HL.out.2.2.1; have := HB2.out.1; omega)
            have HS1 := Aside0.mk HL.out.1
            go_upto_region 13 with (first
              | (go_at_call 10; (with_reducible refine (total_calls ok _ _ _ kk c name fr mid _ HS1.out HL.out.2.1 HKL.out).mono ?_); rintro e_ w5 ⟨ws1, p1, rfl, b1⟩; obtain ⟨a, x, hT1⟩ : ∃ a x, totP kk name fr mid ws1 = (a, x) := ⟨_, _, rfl⟩; rw [hT1]; have HT1 := Aside0.mk (And.intro p1 hT1); have HB5 := Aside0.mk (HL.out.2.2.2.2.trans (b1.mono HL.out.2.2.2.2.size)); have HS2 := Aside0.mk (HS1.out.below b1); clear hT1 p1 b1 HS1)
              | (go_at_call 10; (with_reducible refine (total_calls ok _ _ _ kk c name (wrap64 (mid + 1)) tt _ HS2.out HL.out.2.1 HKL.out).mono ?_); rintro e_ w6 ⟨ws2, p2, rfl, b2⟩; obtain ⟨b, y, hT2⟩ : ∃ b y, totP kk name (wrap64 (mid + 1)) tt ws2 = (b, y) := ⟨_, _, rfl⟩; rw [hT2]; have HT2 := Aside0.mk (And.intro p2 hT2); have HB6 := Aside0.mk (HB5.out.trans (b2.mono HB5.out.size)); have HS3 := Aside0.mk (HS2.out.below b2); clear hT2 p2 b2 HS2)
              | (go_at_call 10; (with_reducible refine (total_calls ok _ _ _ kk c name fr tt _ HS3.out HL.out.2.1 HKL.out).mono ?_); rintro e_ w7 ⟨ws3, p3, rfl, b3⟩; obtain ⟨d, z, hT3⟩ : ∃ d z, totP kk name fr tt ws3 = (d, z) := ⟨_, _, rfl⟩; rw [hT3]; have HT3 := Aside0.mk (And.intro p3 hT3); have HB7 := Aside0.mk (HB6.out.trans (b3.mono HB6.out.size)); clear hT3 p3 b3 HS3))
            have HP := three kk HL.out.2.1 name fr mid tt HC.out.1 HC.out.2 ws1 ws2 ws3 HT1.out.1 HT2.out.1 HT3.out.1 a b d x y z HT1.out.2 (by have := HT2.out.2; rw [HMM.out] at this; exact this) HT3.out.2
            have HG7 := Aside0.mk (HG.out.below HB7.out)
            clear HT1 HT2 HT3
            by_cases hd : wrap64 (a + b) < 0
            · have d0 : decide (wrap64 (a + b) < 0) = true := decide_eq_true hd
              cases x <;> cases y <;> cases z <;> simp [d0] at HP
              all_goals
                go_wp2_with (first
                  | (go_at_call 7; refine (known_calls _ HG7.out).mono ?_; rintro e_ w8 ⟨rfl, h1⟩))
                go_ret
                exact ⟨rfl, HB7.out.trans (h1.mono HB7.out.size)⟩
            · have d0 : decide (wrap64 (a + b) < 0) = false := decide_eq_false hd
              cases x <;> cases y <;> cases z <;> simp [d0] at HP
              all_goals
                go_wp2_with (first
                  | (go_at_call 7; refine (known_calls _ HG7.out).mono ?_; rintro e_ w8 ⟨rfl, h1⟩))
                go_ret
                exact ⟨rfl, HB7.out.trans (h1.mono HB7.out.size)⟩
def odometerlaw31_SinkRanges.Pure : Prop := True
theorem odometerlaw31_SinkRanges.walk (_P : odometerlaw31_SinkRanges.Pure) (a0 : Option Addr) (len0 cap0 : Nat) (z0 : List (List Int)) (a1 : ByteArray) (a2 a3 a4 : Int) (w : World) (w0 : (a0 = none ∧ len0 = 0 ∧ cap0 = 0 ∧ z0 = []) ∨ (len0 ≤ cap0 ∧ z0.length = len0 ∧ Tx.Txt w a0 len0 z0)) (w1 : a1.size ≤ 140737488351232) (w2 : (Lit.int .i64 a2).wf = true) (w3 : (Lit.int .i64 a3).wf = true) (w4 : (Lit.int .i64 a4).wf = true) (hG : Glob w) :
    Calls Tryz.prog 3 #[.slice a0 len0 cap0, .string a1, .int .i64 a2, .int .i64 a3, .int .i64 a4] w fun e w' => e = .returned (.bool true) ∧ Below w.heap.size w w' := by
  have h2 : -9223372036854775808 ≤ a2 := by
    simp [Lit.wf, IntKind.min, IntKind.max, IntKind.bits, IntKind.signed] at w2
    omega
  have h4 : a4 < 9223372036854775808 := by
    simp [Lit.wf, IntKind.min, IntKind.max, IntKind.bits, IntKind.signed] at w4
    omega
  rcases w0 with ⟨rfl, rfl, rfl, rfl⟩ | ⟨hl, rfl, hE⟩
  · obtain ⟨b, hf, hb⟩ := Fw.few_ex [] (by simp)
    exact walk_ 22 none 0 [] a1 a2 a3 a4 b w hb (by simp) h2 h4 hG ⟨rfl, by simp, fun h => absurd h (Nat.lt_irrefl 0)⟩ (Nat.le_refl _) hf
  · obtain ⟨b, hf, hb⟩ := Fw.few_ex z0 (fun x hx => (hE.2 x hx).1)
    exact walk_ 22 a0 cap0 z0 a1 a2 a3 a4 b w hb (fun t ht => (hE.2 t ht).2) h2 h4 hG hE.1 hl hf
end Go.Proofs.YtpihpkphhkcdlaaGreatDoor.Rw
