/- The law's one. -/
import Derived.Test.YtpihpkphhkcdlaaGreatDoorMi
import Derived.Test.YtpihpkphhkcdlaaGreatDoorEc
namespace Go.Proofs.YtpihpkphhkcdlaaGreatDoor.On
open Go.RowKit Go.Maps Go.Proofs.YtpihpkphhkcdlaaGreatDoorW.PrintWords Go.Proofs.YtpihpkphhkcdlaaGreatDoorW.PrintLast Go.Proofs.YtpihpkphhkcdlaaGreatDoor.Tab Go.Proofs.YtpihpkphhkcdlaaGreatDoor.Kp Go.Proofs.YtpihpkphhkcdlaaGreatDoor.Pd Go.Proofs.YtpihpkphhkcdlaaGreatDoor.Ec
set_option linter.unusedVariables false
set_option linter.unusedSimpArgs false
set_option maxHeartbeats 4000000 in
set_option maxRecDepth 100000 in
theorem one1_calls (w : World) : Calls Tryz.prog 17 #[.int .u64 1] w fun e w' => ∃ A c, e = .returned (.slice A (enc1 1).length c) ∧ (enc1 1).length ≤ c ∧ ReadsInt w' .u8 A (enc1 1).length (nb (enc1 1)) ∧ Below w.heap.size w w' := by
  have HE := Aside0.mk (fun (w : World) => encode_one 1 (.inl rfl) w.heap.size (w.alloc (.cells #[.string ⟨#[97]⟩, .int .i64 1, .int .i64 5, .int .i64 1, .bool false] 73)) (blk_new w _))
  generalize enc1 1 = bs at HE ⊢
  go_enter Tryz.func17, Tryz.ntmps17
  go_wp2_with (first | (go_at_call 33; refine (HE.out _).mono ?_; rintro e_ w3 ⟨A', c', rfl, h1, h2, h3⟩; have HX := Aside0.mk (And.intro h1 (And.intro h2 h3)); clear h1 h2 h3))
  go_ret
  exact ⟨_, _, rfl, HX.out.1, HX.out.2.1, (below_alloc (Below.refl _ _) _).trans (HX.out.2.2.mono (by simp))⟩
set_option maxHeartbeats 4000000 in
set_option maxRecDepth 100000 in
theorem one3_calls (w : World) : Calls Tryz.prog 17 #[.int .u64 3] w fun e w' => ∃ A c, e = .returned (.slice A (enc1 3).length c) ∧ (enc1 3).length ≤ c ∧ ReadsInt w' .u8 A (enc1 3).length (nb (enc1 3)) ∧ Below w.heap.size w w' := by
  have HE := Aside0.mk (fun (w : World) => encode_one 3 (.inr rfl) w.heap.size (w.alloc (.cells #[.string ⟨#[97]⟩, .int .i64 3, .int .i64 5, .int .i64 1, .bool false] 73)) (blk_new w _))
  generalize enc1 3 = bs at HE ⊢
  go_enter Tryz.func17, Tryz.ntmps17
  go_wp2_with (first | (go_at_call 33; refine (HE.out _).mono ?_; rintro e_ w3 ⟨A', c', rfl, h1, h2, h3⟩; have HX := Aside0.mk (And.intro h1 (And.intro h2 h3)); clear h1 h2 h3))
  go_ret
  exact ⟨_, _, rfl, HX.out.1, HX.out.2.1, (below_alloc (Below.refl _ _) _).trans (HX.out.2.2.mono (by simp))⟩
end Go.Proofs.YtpihpkphhkcdlaaGreatDoor.On
namespace Go.Proofs.YtpihpkphhkcdlaaGreatDoor.Kn
open Go.RowKit Go.Maps Go.Proofs.YtpihpkphhkcdlaaGreatDoorW.PrintWords Go.Proofs.YtpihpkphhkcdlaaGreatDoorW.PrintLast Go.Proofs.YtpihpkphhkcdlaaGreatDoor.Tab Go.Proofs.YtpihpkphhkcdlaaGreatDoor.Kp Go.Proofs.YtpihpkphhkcdlaaGreatDoor.Pd Go.Proofs.YtpihpkphhkcdlaaGreatDoor.Pk Go.Proofs.YtpihpkphhkcdlaaGreatDoor.Sk Go.Proofs.YtpihpkphhkcdlaaGreatDoor.Lk Go.Proofs.YtpihpkphhkcdlaaGreatDoor.Tke Go.Proofs.YtpihpkphhkcdlaaGreatDoor.Ad Go.Proofs.YtpihpkphhkcdlaaGreatDoor.To Go.Proofs.YtpihpkphhkcdlaaGreatDoor.Mi Go.Proofs.YtpihpkphhkcdlaaGreatDoor.On Go.Proofs.YtpihpkphhkcdlaaGreatDoor.Ec
set_option linter.unusedVariables false
set_option linter.unusedSimpArgs false
abbrev F1 : Frm := ⟨1, 1, [⟨⟨#[97]⟩, 5, 1, false⟩]⟩
abbrev F3 : Frm := ⟨3, 3, [⟨⟨#[97]⟩, 5, 1, false⟩]⟩
theorem dec1 : decP (enc1 1) = (F1, 0) := by kernel_rfl
theorem dec3 : decP (enc1 3) = (F3, 0) := by kernel_rfl
theorem len1 : (enc1 1).length = 16 := by kernel_rfl
theorem len3 : (enc1 3).length = 16 := by kernel_rfl
theorem took1 : tookP [] (enc1 1) = (1, [(F1, enc1 1)]) := by unfold tookP; rw [dec1]; rfl
theorem took2 : tookP [(F1, enc1 1)] (enc1 1) = (2, [(F1, enc1 1)]) := by unfold tookP; rw [dec1]; simp
theorem took3 : tookP [(F1, enc1 1)] (enc1 3) = (1, [(F3, enc1 3), (F1, enc1 1)]) := by unfold tookP; rw [dec3]; simp
theorem take_at (ok : Nat → Prop) (g ml mw : Nat) (k : K) (c : List Int) (A : Option Addr) (cp : Nat) (bs : List UInt8) (t : Int) (k2 : K) (ht : tookP k bs = (t, k2)) (hl : bs.length ≤ 1000000) (hcp : bs.length ≤ cp) (w : World) (hG : Glob w) (hr : ReadsInt w .u8 A bs.length (nb bs)) (hS : IsS w ok g ml mw k c) (hok : ∀ j, w.heap.size ≤ j → ok j) (hk : k.length ≤ 1000000) :
    Calls Tryz.prog 9 #[.pointer (some ⟨g, 0, none⟩), .slice A bs.length cp] w fun e w' => e = .returned (.int .i64 t) ∧ (∃ c2, IsS w' ok g ml mw k2 c2) ∧ Keep (G3 g ml mw) w w' := by
  refine (take_calls ok g ml mw k c A cp bs hl hcp w hG hr hS hok hk).mono ?_
  rintro e w' ⟨h1, h2, h3⟩
  rw [ht] at h1
  have e2 : (takeP (k, c) bs).1 = k2 := by unfold takeP; rw [ht]
  rw [e2] at h2
  exact ⟨h1, ⟨_, h2⟩, h3⟩
theorem tot10 (a b : List UInt8) (ws : List Int) (h : ws.Perm ([(F3, b), (F1, a)].map fun e => e.1.win)) : totP [(F3, b), (F1, a)] ⟨#[97]⟩ 1 3 ws = (10, false) := by
  have h2 : ws = [3, 1] ∨ ws = [1, 3] := by
    have hl := h.length_eq
    match ws, hl, h with
    | [x, y], _, h =>
      have hx := (h.mem_iff (a := x)).1 (by simp)
      have hy := (h.mem_iff (a := y)).1 (by simp)
      have hn := (h.nodup_iff).2 (show ([3, 1] : List Int).Nodup from by decide)
      simp at hx hy hn
      rcases hx with rfl | rfl <;> rcases hy with rfl | rfl <;> simp at hn ⊢
  rcases h2 with rfl | rfl <;> rfl
set_option maxHeartbeats 16000000 in
set_option maxRecDepth 1000000 in
theorem known_calls (w : World) (hG : Glob w) : Calls Tryz.prog 7 #[] w fun e w' => e = .returned (.bool true) ∧ Below w.heap.size w w' := by
  have HK1 := Aside0.mk took1
  have HK2 := Aside0.mk took2
  have HK3 := Aside0.mk took3
  have HL := Aside0.mk (And.intro len1 len3)
  have HO1 := Aside0.mk one1_calls
  have HO3 := Aside0.mk one3_calls
  generalize enc1 1 = E1 at HK1 HK2 HK3 HL HO1
  generalize enc1 3 = E3 at HK3 HL HO3
  have HG := Aside0.mk hG
  have HG0 := Aside0.mk hG.lt
  have HB := Aside0.mk (Below.refl w.heap.size w)
  have T1 := Aside0.mk trivial
  have T2 := Aside0.mk trivial
  have T3 := Aside0.mk trivial
  obtain ⟨ok, hok⟩ : ∃ ok : Nat → Prop, ok = fun j => w.heap.size + 1 + 1 < j := ⟨_, rfl⟩
  have HOK := Aside0.mk hok
  clear hok hG
  go_enter Tryz.func7, Tryz.ntmps7
  go_wp2_with (first
    | (go_at_call 8; refine (new_calls _).mono ?_; rintro e_ w1 ⟨rfl, h1, h2⟩; have HS := Aside0.mk (h1 ok (by rw [HOK.out]; exact ⟨by omega, by omega, by omega⟩)); have HB := Aside0.mk (HB.out.trans (h2.mono HB.out.size)); have HG := Aside0.mk (HG.out.below h2); clear h1 h2)
    | (go_at_call 17; (with_reducible refine (HO1.out _).mono ?_); rintro e_ w2 ⟨A, c, rfl, h1, h2, h3⟩; have HR := Aside0.mk (And.intro h1 h2); have HS := Aside0.mk (HS.out.below h3); have HB := Aside0.mk (HB.out.trans (h3.mono HB.out.size)); have HG := Aside0.mk (HG.out.below h3); clear h1 h2 h3)
    | (go_at_call 17; (with_reducible refine (HO3.out _).mono ?_); rintro e_ w2 ⟨A, c, rfl, h1, h2, h3⟩; have HR := Aside0.mk (And.intro h1 h2); have HS := Aside0.mk (HS.out.below h3); have HB := Aside0.mk (HB.out.trans (h3.mono HB.out.size)); have HG := Aside0.mk (HG.out.below h3); clear h1 h2 h3)
    | (have HKX := HK1; go_at_call 9; refine (take_at ok _ _ _ _ _ A c E1 _ _ HK1.out (by have := HL.out; omega) HR.out.1 _ HG.out HR.out.2 HS.out (by intro j hj; rw [HOK.out]; have h9 := blk_lt HS.out.blk; dsimp only; omega) (by simp)).mono ?_; clear HK1; rintro e_ w4 ⟨rfl, ⟨c2, h1⟩, h2⟩; have HS := Aside0.mk h1; have HB := Aside0.mk (HB.out.trans (h2.below (B := w.heap.size) (fun k h => by rcases h with h | h | h <;> omega) HB.out.size)); have HG := Aside0.mk (HG.out.keep h2 (fun h => by have h8 := HG0.out; rcases h with h | h | h <;> omega)); clear h1 h2 HKX)
    | (have HKX := HK2; go_at_call 9; clear HO1; refine (take_at ok _ _ _ _ _ A c E1 _ _ HK2.out (by have := HL.out; omega) HR.out.1 _ HG.out HR.out.2 HS.out (by intro j hj; rw [HOK.out]; have h9 := blk_lt HS.out.blk; dsimp only; omega) (by simp)).mono ?_; clear HK2; rintro e_ w4 ⟨rfl, ⟨c2, h1⟩, h2⟩; have HS := Aside0.mk h1; have HB := Aside0.mk (HB.out.trans (h2.below (B := w.heap.size) (fun k h => by rcases h with h | h | h <;> omega) HB.out.size)); have HG := Aside0.mk (HG.out.keep h2 (fun h => by have h8 := HG0.out; rcases h with h | h | h <;> omega)); clear h1 h2 HKX)
    | (have HKX := HK3; go_at_call 9; refine (take_at ok _ _ _ _ _ A c E3 _ _ HK3.out (by have := HL.out; omega) HR.out.1 _ HG.out HR.out.2 HS.out (by intro j hj; rw [HOK.out]; have h9 := blk_lt HS.out.blk; dsimp only; omega) (by simp)).mono ?_; clear HK3; rintro e_ w4 ⟨rfl, ⟨c2, h1⟩, h2⟩; have HS := Aside0.mk h1; have HB := Aside0.mk (HB.out.trans (h2.below (B := w.heap.size) (fun k h => by rcases h with h | h | h <;> omega) HB.out.size)); have HG := Aside0.mk (HG.out.keep h2 (fun h => by have h8 := HG0.out; rcases h with h | h | h <;> omega)); clear h1 h2 HKX)
    | (go_at_call 19; refine (missing_calls ok _ _ _ _ _ _ HS.out (by simp) (by intro q; simp; omega) (by intro e he; simp at he; rcases he with rfl | rfl <;> simp)).mono ?_; rintro e_ w5 ⟨gb, cap, r, rfl, h1, h2⟩; have HMI := Aside0.mk h1; have HS := Aside0.mk (HS.out.below h2); have HB := Aside0.mk (HB.out.trans (h2.mono HB.out.size)); clear h1 h2)
    | (go_at_call 10; refine (total_calls ok _ _ _ _ _ ⟨#[97]⟩ 1 3 _ HS.out (by intro e he r hr; simp at he; rcases he with rfl | rfl <;> (simp at hr; subst hr; decide)) (by simp)).mono ?_; rintro e_ w6 ⟨ws, h1, rfl, h2⟩; rw [tot10 _ _ ws h1]; have HB := Aside0.mk (HB.out.trans (h2.mono HB.out.size)); have cm : w6.cell? ⟨gb, 0, none⟩ = some (.int .u64 2) := blk_cell (Cr.blk_b HMI.out h2) 0; clear h1 h2))
  go_ret
  exact ⟨rfl, HB.out⟩
end Go.Proofs.YtpihpkphhkcdlaaGreatDoor.Kn
