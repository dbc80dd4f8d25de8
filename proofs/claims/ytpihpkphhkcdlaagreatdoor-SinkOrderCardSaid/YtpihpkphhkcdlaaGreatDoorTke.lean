/- The sink's Take. -/
import Derived.Test.YtpihpkphhkcdlaaGreatDoorTk
namespace Go.Proofs.YtpihpkphhkcdlaaGreatDoor.Tke
open Go.RowKit Go.Maps Go.Proofs.YtpihpkphhkcdlaaGreatDoorW.PrintWords Go.Proofs.YtpihpkphhkcdlaaGreatDoorW.PrintLast Go.Proofs.YtpihpkphhkcdlaaGreatDoor.Tab Go.Proofs.YtpihpkphhkcdlaaGreatDoor.Kp Go.Proofs.YtpihpkphhkcdlaaGreatDoor.Pd Go.Proofs.YtpihpkphhkcdlaaGreatDoor.Pk Go.Proofs.YtpihpkphhkcdlaaGreatDoor.Fr Go.Proofs.YtpihpkphhkcdlaaGreatDoor.May Go.Proofs.YtpihpkphhkcdlaaGreatDoor.De Go.Proofs.YtpihpkphhkcdlaaGreatDoor.Sk Go.Proofs.YtpihpkphhkcdlaaGreatDoor.Eq Go.Proofs.YtpihpkphhkcdlaaGreatDoor.Lk Go.Proofs.YtpihpkphhkcdlaaGreatDoor.Cl Go.Proofs.YtpihpkphhkcdlaaGreatDoor.Sc Go.Proofs.YtpihpkphhkcdlaaGreatDoor.Tk
set_option linter.unusedVariables false
set_option linter.unusedSimpArgs false
def bump (c : List Int) (t : Nat) : List Int := (List.range 6).map fun i => if i = t then wrap64 (c.getD i 0 + 1) else c.getD i 0
theorem skC_get (a b : Option Nat) (c : List Int) (t : Nat) (h : t < 6) : (skC a b c)[2 + t]? = some (.int .i64 (c.getD t 0)) := by
  have ht : t = 0 ∨ t = 1 ∨ t = 2 ∨ t = 3 ∨ t = 4 ∨ t = 5 := by omega
  rcases ht with rfl | rfl | rfl | rfl | rfl | rfl <;> rfl
theorem skC_set (a b : Option Nat) (c : List Int) (t : Nat) (h : t < 6) : (skC a b c).setIfInBounds (2 + t) (.int .i64 (wrap64 (c.getD t 0 + 1))) = skC a b (bump c t) := by
  have ht : t = 0 ∨ t = 1 ∨ t = 2 ∨ t = 3 ∨ t = 4 ∨ t = 5 := by omega
  rcases ht with rfl | rfl | rfl | rfl | rfl | rfl <;> rfl
theorem tookP_fate (k : K) (bs : List UInt8) : ∃ t : Nat, (tookP k bs).1 = (t : Int) ∧ 1 ≤ t ∧ t ≤ 5 := by
  unfold tookP
  split
  · exact ⟨5, rfl, by omega, by omega⟩
  · split
    · split
      · exact ⟨2, rfl, by omega, by omega⟩
      · exact ⟨3, rfl, by omega, by omega⟩
    · split
      · exact ⟨4, rfl, by omega, by omega⟩
      · split
        · exact ⟨5, rfl, by omega, by omega⟩
        · exact ⟨1, rfl, by omega, by omega⟩
/-- Take, in plain words. -/
def takeP (s : K × List Int) (bs : List UInt8) : K × List Int := ((tookP s.1 bs).2, bump s.2 (tookP s.1 bs).1.toNat)
abbrev G3 (g ml mw : Nat) : Nat → Prop := fun j => j = g ∨ j = ml ∨ j = mw
theorem _root_.Go.Proofs.YtpihpkphhkcdlaaGreatDoor.Sk.IsS.count {w : World} {ok : Nat → Prop} {g ml mw : Nat} {k : K} {c : List Int} (h : IsS w ok g ml mw k c) (t : Nat) (ht : t < 6) : IsS (w.setCell ⟨g, 2 + t, none⟩ (.int .i64 (wrap64 (c.getD t 0 + 1)))) ok g ml mw k (bump c t) := by
  have kk : Keep (fun j => j = g) w (w.setCell ⟨g, 2 + t, none⟩ (.int .i64 (wrap64 (c.getD t 0 + 1)))) := (Keep.refl (fun j => j = g) w).set (g := g) rfl _ _
  obtain ⟨hb, ⟨D, D2, a, b, s⟩, p, q⟩ := h
  refine ⟨blk_put hb (2 + t) _ (skC_set _ _ _ t ht), ⟨D, D2, own_map_keep a kk (fun e => p.1 (show g = ml from (show ml = g from e).symm)), own_map_keep b kk (fun e => p.2.1 (show g = mw from (show mw = g from e).symm)), s.keep kk (fun j hj e => q.1 ((show j = g from e) ▸ hj))⟩, p, q⟩
set_option maxHeartbeats 4000000 in
set_option maxRecDepth 1000000 in
theorem take_calls (ok : Nat → Prop) (g ml mw : Nat) (k : K) (c : List Int) (A : Option Addr) (cp : Nat) (bs : List UInt8) (hl : bs.length ≤ 1000000) (hcp : bs.length ≤ cp) (w : World) (hG : Glob w) (hr : ReadsInt w .u8 A bs.length (nb bs)) (hS : IsS w ok g ml mw k c) (hok : ∀ j, w.heap.size ≤ j → ok j) (hk : k.length ≤ 1000000) :
    Calls Tryz.prog 9 #[.pointer (some ⟨g, 0, none⟩), .slice A bs.length cp] w fun e w' => e = .returned (.int .i64 (tookP k bs).1) ∧ IsS w' ok g ml mw (takeP (k, c) bs).1 (takeP (k, c) bs).2 ∧ Keep (G3 g ml mw) w w' := by
  have HT := Aside0.mk (took_calls ok g ml mw k c A cp bs hl hcp w hG hr hS hok hk)
  obtain ⟨t, ht, ht1, ht5⟩ := tookP_fate k bs
  have HP := Aside0.mk (show takeP (k, c) bs = ((tookP k bs).2, bump c t) from by unfold takeP; rw [ht]; rfl)
  rw [ht] at HT ⊢
  have hpt : (0 : Int) ≤ (t : Int) := by omega
  have hp6 : (t : Int) < 6 := by omega
  have HT6 := Aside0.mk (show t < 6 from by omega)
  clear ht ht1 ht5 hS hr hG
  go_enter Tryz.func9, Tryz.ntmps9
  go_upto_region 4 with (first | (go_at_call 23; (with_reducible refine HT.out.mono ?_); rintro e_ w1 ⟨rfl, h1, h2⟩; have HS1 := Aside0.mk h1; have HK1 := Aside0.mk h2; clear h1 h2))
  have c0 : w1.cell? ⟨g, 2 + t, none⟩ = some (.int .i64 (c.getD t 0)) := (blk_cell HS1.out.blk (2 + t)).trans (skC_get _ _ _ t HT6.out)
  have f0 := blk_frozen HS1.out.blk (2 + t)
  have c1 : w1.drew.cell? ⟨g, 2 + t, none⟩ = some (.int .i64 (c.getD t 0)) := c0
  have f1 : w1.drew.frozen? ⟨g, 2 + t, none⟩ = false := f0
  go_region
  have HI := Aside0.mk (Sk.IsS.count HS1.out t HT6.out)
  have HKK := Aside0.mk ((HK1.out.mono (F := G3 g ml mw) (fun j _ h => h.elim (fun e => .inr (.inl e)) (fun e => .inr (.inr e)))).set (g := g) (.inl rfl) (2 + t) (.int .i64 (wrap64 (c.getD t 0 + 1))))
  rw [List.getD_eq_getElem?_getD] at HI HKK
  clear c0 f0 c1 f1
  go_wp2
  go_ret
  rw [HP.out]
  exact ⟨rfl, HI.out.below (below_drew1 (Below.refl _ _)), HKK.out.drew⟩
/-- A sink that is not there. -/
theorem take_nil (v : Value) (w : World) : Calls Tryz.prog 9 #[.pointer none, v] w fun e w' => e = .returned (.int .i64 5) ∧ w' = w := by
  go_enter Tryz.func9, Tryz.ntmps9
  go_wp2
  go_ret
  exact ⟨rfl, rfl⟩
end Go.Proofs.YtpihpkphhkcdlaaGreatDoor.Tke
