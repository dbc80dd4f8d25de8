/- The reader's Push. -/
import Derived.Test.YtfpcoanlkfgagaaGreatDoorRdrW
import Derived.Test.YtfpcoanlkfgagaaGreatDoorRg
import Derived.Laws.EntriesVeiled
import Derived.Below
import Derived.Deep.Draws
import Derived.Deep.AppendLies
import Derived.Maps.AppendAt
import Derived.OwnWalk
import Derived.Laws.BytesArg
import Derived.Laws.MakeOwn
import Derived.Laws.OwnMore
import Derived.Deep.OwnRows
import Derived.Tactics
import Derived.Lib.ConvBytes
import Derived.Laws.Slices
import Derived.WalkKit
import Derived.KernelRfl
import Derived.RowKit3
import Derived.Deep.LoopGhost
import Derived.Deep.QuietTactic
import Derived.BigQuiet
import Derived.WideLaws
import Derived.Deep.DeepCutAuto
import Derived.Deep.CutBlock
import Derived.Deep.RegionHeld3
import Derived.Laws.Rows
import Derived.Lib.AppendStr
import Derived.ArgAppend
import Derived.Laws.IdiomCopy
import Derived.OrdersHeld
import Derived.Laws.BitsLemmas
import Derived.RowKit
import Derived.WalkMore
import Derived.Test.YtfpcoanlkfgagaaGreatDoorWWords
import Derived.Test.YtfpcoanlkfgagaaGreatDoorWLast
import Derived.Test.YtfpcoanlkfgagaaGreatDoorWMore
import Derived.Test.YtfpcoanlkfgagaaGreatDoorWTab
namespace Go.Proofs.YtfpcoanlkfgagaaGreatDoor.RdrP
open Go.RowKit Go.Proofs.YtfpcoanlkfgagaaGreatDoorW.PrintWords Go.Proofs.YtfpcoanlkfgagaaGreatDoorW.PrintLast Go.Proofs.YtfpcoanlkfgagaaGreatDoor.Ext Go.Proofs.YtfpcoanlkfgagaaGreatDoor.Dec Go.Proofs.YtfpcoanlkfgagaaGreatDoor.DecW Go.Proofs.YtfpcoanlkfgagaaGreatDoor.DecA Go.Proofs.YtfpcoanlkfgagaaGreatDoor.DecB Go.Proofs.YtfpcoanlkfgagaaGreatDoor.DecN Go.Proofs.YtfpcoanlkfgagaaGreatDoor.DecS Go.Proofs.YtfpcoanlkfgagaaGreatDoor.DecR Go.Proofs.YtfpcoanlkfgagaaGreatDoor.DecP Go.Proofs.YtfpcoanlkfgagaaGreatDoor.DecQ Go.Proofs.YtfpcoanlkfgagaaGreatDoor.DecE Go.Proofs.YtfpcoanlkfgagaaGreatDoor.Is Go.Proofs.YtfpcoanlkfgagaaGreatDoor.Rdr
set_option linter.unusedVariables false
set_option linter.unusedSimpArgs false
/-- What head.Parse answers: status, length, chunked, close; of how many bytes; an error. -/
abbrev Ans := Int × Int × Bool × Bool × Int × Int
/-- What the body's decoder took of bs, and what it says then. -/
def fedR (r : R) (d : D) (n k : Nat) : R :=
  if d.e = 0 then { r with body := some d, rest := wr (r.rest + wr (n - k)) }
  else { r with body := some d, rest := 0, e := d.e, ahead := [] }
noncomputable def feedR (r : R) (d : D) (bs : List Int) : Option R := (Dec.push num tr d bs).map fun x => fedR r x.1 bs.length x.2
noncomputable def pushR (P : List Int → Option Ans) (r : R) (bs : List Int) : Option R :=
  if r.e ≠ 0 ∨ r.ended = true then some r
  else if r.whole = true then (match r.body with | none => none | some d => feedR r d bs)
  else (P (r.ahead ++ bs)).bind fun t =>
    if t.2.2.2.2.1 = 0 then some (({ r with ahead := r.ahead ++ bs } : R).note t.2.2.2.2.2)
    else if t.2.2.2.2.2 = 0 ∧ 0 ≤ t.2.2.2.2.1 ∧ t.2.2.2.2.1 ≤ (r.ahead ++ bs).length then
      (if t.1 = 200 then feedR { r with ahead := [], hd := ⟨t.1, t.2.1, t.2.2.1, t.2.2.2.1⟩, whole := true } (newD t.2.2.1 t.2.1 (max r.most 0)) ((r.ahead ++ bs).drop t.2.2.2.2.1.toNat)
       else some (({ r with ahead := [], hd := ⟨t.1, t.2.1, t.2.2.1, t.2.2.2.1⟩, whole := true } : R).note 14))
    else none
/-- How many bytes it holds. -/
def sizeR (r : R) : Nat := r.ahead.length + (match r.body with | none => 0 | some d => d.line.length + d.body.length)
theorem Keep.none {F : Nat → Prop} {w w' : World} (h : Keep (fun _ => False) w w') : Keep F w w' := h.mono fun _ _ h => h.elim
/-- How a call that fed the body's decoder ends. -/
theorem feed_end {W wd w3 w6 : World} {G F2 : Nat → Prop} {g gb : Nat} {va va' : Value} {rr r' : R} {d' : D} (hO : Own W va rr.ahead) (hA : ∀ k, va.ownBlock = some k → G k ∧ k ≠ g ∧ ¬ F2 k) (hg : G g) (hgl : g < W.heap.size) (h2 : ∀ k, F2 k → G k ∧ k ≠ g)
    (hkd : Keep (fun _ => False) W wd) (hsz : wd.heap.size = W.heap.size) (hp : Pushed wd w3 F2 gb d') (hk : Keep (fun k => k = g) w3 w6) (hB : RBlk w6 g va' (.pointer (some ⟨gb, 0, none⟩)) r') (hva : (va' = va ∧ r'.ahead = rr.ahead) ∨ (va' = .slice none 0 0 ∧ r'.ahead = [])) (hb : r'.body = some d') :
    RPushed W w6 G g r' := by
  obtain ⟨F2', hD, hF2, hK2⟩ := hp
  have hk36 : Keep G w3 w6 := hk.mono fun i _ e => e ▸ hg
  have hWall : Keep G W w6 := ((Keep.none hkd).trans hK2 fun i hi hf => (h2 i hf).1).trans hk36 fun i hi h => h
  have hKva : Keep (fun k => k = g ∨ F2 k) W w6 := ((Keep.none hkd).trans hK2 fun i hi hf => .inr hf).trans hk fun i hi h => .inl h
  refine ⟨fun k => G k ∨ W.heap.size ≤ k, ⟨va', .pointer (some ⟨gb, 0, none⟩), F2', hB, ?_, ?_, .inl hg, ?_, ?_⟩, fun i h => h, hWall⟩
  · rcases hva with ⟨rfl, e⟩ | ⟨rfl, e⟩
    · rw [e]
      exact hO.keep hKva fun i hi hc => by
        rcases hc with rfl | hc
        · exact (hA _ hi).2.1 rfl
        · exact (hA _ hi).2.2 hc
    · rw [e]; exact own_empty _
  · rcases hva with ⟨rfl, e⟩ | ⟨rfl, e⟩
    · intro k hk2
      refine ⟨.inl (hA k hk2).1, (hA k hk2).2.1, fun hf => ?_⟩
      rcases hF2 k hf with h | h
      · exact (hA k hk2).2.2 h
      · have := hO.lt hk2; omega
    · intro k hk2; simp [Value.ownBlock] at hk2
  · rw [hb]
    refine ⟨gb, rfl, hD.keep hk fun i hi hf e => ?_⟩
    subst e
    rcases hF2 _ hf with h | h
    · exact (h2 _ h).2 rfl
    · omega
  · intro k hf
    rcases hF2 k hf with h | h
    · exact ⟨.inl (h2 k h).1, (h2 k h).2⟩
    · exact ⟨.inr (by omega), by omega⟩
theorem RPushed.trans {w W w' : World} {F G : Nat → Prop} {g : Nat} {r : R} (k : Keep F w W) (hG : ∀ i, G i → F i ∨ w.heap.size ≤ i) (h : RPushed W w' G g r) : RPushed w w' F g r := by
  obtain ⟨F', hR, hF', hK⟩ := h
  refine ⟨F', hR, fun i hi => ?_, k.trans hK fun i hi hg => by rcases hG i hg with h | h; exact h; omega⟩
  rcases hF' i hi with h | h
  · exact hG i h
  · exact .inr (Nat.le_trans k.size h)
set_option maxHeartbeats 8000000 in
set_option maxRecDepth 100000 in
theorem push_over {w : World} {F : Nat → Prop} {g : Nat} {r : R} (h : IsR w F g r) (hd : r.e ≠ 0 ∨ r.ended = true) (A : Option Addr) (n c : Nat) :
    Calls Tryz.prog 7 #[.pointer (some ⟨g, 0, none⟩), .slice A n c] w fun x w' => x = .returned (.tuple #[]) ∧ w = w' := by
  obtain ⟨va, vb, F2, hB, hO, hA, hg, hb, h2⟩ := h
  have c9 : w.cell? ⟨g, 9, none⟩ = some (errV r.e) := (hB.cell 9).trans rfl
  have c8 : w.cell? ⟨g, 8, none⟩ = some (.bool r.ended) := (hB.cell 8).trans rfl
  clear hB hO hA hg hb h2
  by_cases he : r.e = 0
  · rw [hd.resolve_left (fun h => h he)] at c8
    rw [he, errV0] at c9
    clear he hd
    go_enter Tryz.func7, Tryz.ntmps7
    go_wp2
    (try simp only [Exit.inBlock, Exit.then]); refine bodyPost_ret (results_none rfl _ _ _) rfl ?_
    exact ⟨rfl, rfl⟩
  · rw [errV1 he] at c9
    clear he hd
    go_enter Tryz.func7, Tryz.ntmps7
    go_wp2
    (try simp only [Exit.inBlock, Exit.then]); refine bodyPost_ret (results_none rfl _ _ _) rfl ?_
    exact ⟨rfl, rfl⟩

theorem note_0' (w : World) (g : Nat) (e : Int) (he : e = 0) : Calls Tryz.prog 17 #[.pointer (some ⟨g, 0, none⟩), .int .i64 e] w fun x w' => x = .returned (.tuple #[]) ∧ w = w' := by
  subst he
  exact note_0 w g
set_option maxHeartbeats 8000000 in
set_option maxRecDepth 100000 in
theorem push_fed {w : World} {F : Nat → Prop} {g c : Nat} {A : Option Addr} {r r' : R} {d d1 : D} {k1 : Nat} {bs : List Int} (h : IsR w F g r) (hF0 : ¬ F 0) (hFb : ∀ ad, A = some ad → 0 < bs.length → ¬ F ad.block) (hG : Glob w) (hx : bs.length ≤ c)
    (hr : Kd.C (Kd.int .u8) w A bs.length bs) (he : r.e = 0) (hn : r.ended = false) (hw : r.whole = true) (hb : r.body = some d) (hm : d.line.length + d.body.length + bs.length ≤ 1099511627776) (hp : Dec.push num tr d bs = some (d1, k1)) (hr' : r' = fedR r d1 bs.length k1) :
    Calls Tryz.prog 7 #[.pointer (some ⟨g, 0, none⟩), .slice A bs.length c] w fun x w' => x = .returned (.tuple #[]) ∧ RPushed w w' F g r' := by
  obtain ⟨va, vb, F2, hB, hO, hA, hg, hbv, h2⟩ := h
  rw [hb] at hbv
  obtain ⟨gb, rfl, hD⟩ := hbv
  have c9 : w.cell? ⟨g, 9, none⟩ = some .nilIface := (hB.cell 9).trans (by show some (errV r.e) = _; rw [he]; rfl)
  have c8 : w.cell? ⟨g, 8, none⟩ = some (.bool false) := (hB.cell 8).trans (by show some (Value.bool r.ended) = _; rw [hn])
  have c5 : w.cell? ⟨g, 5, none⟩ = some (.bool true) := (hB.cell 5).trans (by show some (Value.bool r.whole) = _; rw [hw])
  have HB := Aside0.mk hB
  have HO := Aside0.mk hO
  have HA := Aside0.mk hA
  have HGX := Aside0.mk hg
  have HD := Aside0.mk hD
  have H2 := Aside0.mk h2
  have HG := Aside0.mk hG
  have HF20 := Aside0.mk (show ¬ F2 0 from fun h => hF0 (h2 0 h).1)
  have HFB2 := Aside0.mk (show ∀ ad, A = some ad → 0 < bs.length → ¬ F2 ad.block from fun ad e hl h => hFb ad e hl (h2 _ h).1)
  have HM2 := Aside0.mk hm
  have HX2 := Aside0.mk hx
  have HR := Aside0.mk hr
  have HE0 := Aside0.mk he
  have HTP := Aside0.mk hp
  have HTR := Aside0.mk hr'
  clear hB hO hA hg hD h2 hG hF0 hFb hm hx hr he hn hw hb hp hr'
  go_enter Tryz.func7, Tryz.ntmps7
  go_upto_region 11 with (fail)
  have HB := Aside0.mk (show RBlk w g va (.pointer (some ⟨gb, 0, none⟩)) r from HB.out)
  refine start_ (n := 20) (S := fun w' => RBlk w' g va (.pointer (some ⟨gb, 0, none⟩)) r) (ds := [19]) #[false, false, false, false, false, false, false, false, false, false, false, false, false, false, false, false, false, false, false, false] (by kernel_rfl) rfl rfl HB.out (fun hHeld => ?_)
  refine pure_ (i := 0) (N := some 91) (v := ?_) (a' := ?_) #[true, false, false, false, false, false, false, false, false, false, false, false, false, false, false, false, false, false, false, false] rfl rfl (by kernel_rfl) (fun _ _ _ h => h) (Or.inl ⟨by rfl, ?_⟩) ?_ ?_
  rotate_left
  · intro w'
    go_simp
    with_reducible rfl
  rotate_left
  · simp only [Act.put, List.setIfInBounds_toArray, List.set_cons_zero, List.set_cons_succ, i64_w, i32_w]
    rfl
  refine pure_ (i := 1) (N := some 92) (v := ?_) (a' := ?_) #[true, true, false, false, false, false, false, false, false, false, false, false, false, false, false, false, false, false, false, false] rfl rfl (by kernel_rfl) (fun _ _ _ h => h) (Or.inl ⟨by rfl, ?_⟩) ?_ ?_
  rotate_left
  · intro w'
    go_simp
    with_reducible rfl
  rotate_left
  · simp only [Act.put, List.setIfInBounds_toArray, List.set_cons_zero, List.set_cons_succ, i64_w, i32_w]
    rfl
  refine pure_ (i := 2) (N := some 93) (v := ?_) (a' := ?_) #[true, true, true, false, false, false, false, false, false, false, false, false, false, false, false, false, false, false, false, false] rfl rfl (by kernel_rfl) (fun _ _ _ h => h) (Or.inl ⟨by rfl, ?_⟩) ?_ ?_
  rotate_left
  · intro w'
    go_simp
    with_reducible rfl
  rotate_left
  · simp only [Act.put, List.setIfInBounds_toArray, List.set_cons_zero, List.set_cons_succ, i64_w, i32_w]
    rfl
  refine pure_ (i := 3) (N := some 94) (v := ?_) (a' := ?_) #[true, true, true, true, false, false, false, false, false, false, false, false, false, false, false, false, false, false, false, false] rfl rfl (by kernel_rfl) (fun _ _ _ h => h) (Or.inl ⟨by rfl, ?_⟩) ?_ ?_
  rotate_left
  · intro w'
    go_simp
    with_reducible rfl
  rotate_left
  · simp only [Act.put, List.setIfInBounds_toArray, List.set_cons_zero, List.set_cons_succ, i64_w, i32_w]
    rfl
  refine pure_ (i := 5) (N := some 96) (v := ?_) (a' := ?_) #[true, true, true, true, false, true, false, false, false, false, false, false, false, false, false, false, false, false, false, false] rfl rfl (by kernel_rfl) (fun _ _ _ h => h) (Or.inl ⟨by rfl, ?_⟩) ?_ ?_
  rotate_left
  · intro w'
    go_simp
    with_reducible rfl
  rotate_left
  · simp only [Act.put, List.setIfInBounds_toArray, List.set_cons_zero, List.set_cons_succ, i64_w, i32_w]
    rfl
  refine pure_ (i := 6) (N := some 97) (v := ?_) (a' := ?_) #[true, true, true, true, false, true, true, false, false, false, false, false, false, false, false, false, false, false, false, false] rfl rfl (by kernel_rfl) (fun _ _ _ h => h) (Or.inl ⟨by rfl, ?_⟩) ?_ ?_
  rotate_left
  · intro w'
    go_simp
    with_reducible rfl
  rotate_left
  · simp only [Act.put, List.setIfInBounds_toArray, List.set_cons_zero, List.set_cons_succ, i64_w, i32_w]
    rfl
  refine pure_ (i := 7) (N := some 98) (v := ?_) (a' := ?_) #[true, true, true, true, false, true, true, true, false, false, false, false, false, false, false, false, false, false, false, false] rfl rfl (by kernel_rfl) (fun _ _ _ h => h) (Or.inl ⟨by rfl, ?_⟩) ?_ ?_
  rotate_left
  · intro w'
    go_simp
    with_reducible rfl
  rotate_left
  · simp only [Act.put, List.setIfInBounds_toArray, List.set_cons_zero, List.set_cons_succ, i64_w, i32_w]
    rfl
  refine pure_ (i := 8) (N := some 99) (v := ?_) (a' := ?_) #[true, true, true, true, false, true, true, true, true, false, false, false, false, false, false, false, false, false, false, false] rfl rfl (by kernel_rfl) (fun _ _ _ h => h) (Or.inl ⟨by rfl, ?_⟩) ?_ ?_
  rotate_left
  · intro w'
    go_simp
    with_reducible rfl
  rotate_left
  · simp only [Act.put, List.setIfInBounds_toArray, List.set_cons_zero, List.set_cons_succ, i64_w, i32_w]
    rfl
  refine pure_ (i := 9) (N := some 100) (v := ?_) (a' := ?_) #[true, true, true, true, false, true, true, true, true, true, false, false, false, false, false, false, false, false, false, false] rfl rfl (by kernel_rfl) (fun _ _ _ h => h) (Or.inl ⟨by rfl, ?_⟩) ?_ ?_
  rotate_left
  · intro w'
    go_simp
    with_reducible rfl
  rotate_left
  · simp only [Act.put, List.setIfInBounds_toArray, List.set_cons_zero, List.set_cons_succ, i64_w, i32_w]
    rfl
  refine pure_ (i := 10) (N := some 101) (v := ?_) (a' := ?_) #[true, true, true, true, false, true, true, true, true, true, true, false, false, false, false, false, false, false, false, false] rfl rfl (by kernel_rfl) (fun _ _ _ h => h) (Or.inl ⟨by rfl, ?_⟩) ?_ ?_
  rotate_left
  · intro w'
    go_simp
    with_reducible rfl
  rotate_left
  · simp only [Act.put, List.setIfInBounds_toArray, List.set_cons_zero, List.set_cons_succ, i64_w, i32_w]
    rfl
  refine pure_ (i := 12) (N := some 103) (v := ?_) (a' := ?_) #[true, true, true, true, false, true, true, true, true, true, true, false, true, false, false, false, false, false, false, false] rfl rfl (by kernel_rfl) (fun _ _ _ h => h) (Or.inl ⟨by rfl, ?_⟩) ?_ ?_
  rotate_left
  · intro w'
    go_simp
    with_reducible rfl
  rotate_left
  · simp only [Act.put, List.setIfInBounds_toArray, List.set_cons_zero, List.set_cons_succ, i64_w, i32_w]
    rfl
  refine take_ (i := 4) (N := some 95) (v := ?_) (a' := ?_) #[true, true, true, true, true, true, true, true, true, true, true, false, true, false, false, false, false, false, false, false] rfl rfl (by kernel_rfl) (fun _ _ _ h => h) (Or.inl ⟨by rfl, ?_⟩) hHeld ?_ ?_
  rotate_left
  · intro w' hS'
    have hc7 : w'.cell? ⟨g, 7, none⟩ = some (.int .i64 r.rest) := (RBlk.cell hS' 7).trans rfl
    go_simp
    with_reducible rfl
  rotate_left
  · simp only [Act.put, List.setIfInBounds_toArray, List.set_cons_zero, List.set_cons_succ, i64_w, i32_w]
    rfl
  refine take_ (i := 11) (N := some 102) (v := ?_) (a' := ?_) #[true, true, true, true, true, true, true, true, true, true, true, true, true, false, false, false, false, false, false, false] rfl rfl (by kernel_rfl) (fun _ _ _ h => h) (Or.inl ⟨by rfl, ?_⟩) hHeld ?_ ?_
  rotate_left
  · intro w' hS'
    have hc6 : w'.cell? ⟨g, 6, none⟩ = some (.pointer (some ⟨gb, 0, none⟩)) := (RBlk.cell hS' 6).trans rfl
    go_simp
    with_reducible rfl
  rotate_left
  · simp only [Act.put, List.setIfInBounds_toArray, List.set_cons_zero, List.set_cons_succ, i64_w, i32_w]
    rfl
  obtain ⟨wd, hwd⟩ : ∃ wd, wd = (w).drew := ⟨_, rfl⟩
  have HDd := Aside0.mk (show IsD (w).drew F2 gb _ from HD.out.keep (Keep.of_below (F := fun _ => False) (below_drew (Below.refl _ _))) fun _ _ _ => id)
  have HKd := Aside0.mk (show Keep (fun _ => False) (w) (w).drew from Keep.of_below (below_drew (Below.refl _ _)))
  have HSz := Aside0.mk (show (w).drew.heap.size = (w).heap.size from rfl)
  have HGd := Aside0.mk (show Glob (w).drew from Glob.keep (F := fun _ => False) HG.out HKd.out id)
  have HRd := Aside0.mk (show Kd.C (Kd.int .u8) (w).drew A bs.length bs from HR.out)
  rw [← hwd] at HDd HKd HSz HGd HRd hHeld ⊢
  have HBd := Aside0.mk hHeld
  clear hwd hHeld
  refine one_ (i := 13) (N := some 104) #[true, true, true, true, true, true, true, true, true, true, true, true, true, true, false, false, false, false, false, false] rfl rfl (by kernel_rfl) (by decide) (fun K hK => ?_)
  refine goes_ Tryz.func19 (by kernel_rfl) rfl #[.pointer (some ⟨gb, 0, none⟩), .slice A bs.length c] (by rfl) rfl rfl (by simp [Act.eval]) ?_
  refine (push_calls (xs := bs) HDd.out HF20.out HFB2.out HGd.out HM2.out HX2.out HRd.out HTP.out).mono ?_
  rintro x w3 ⟨rfl, hpu⟩
  refine ⟨_, rfl, ?_⟩
  have HPU := Aside0.mk hpu
  have HB3 := Aside0.mk (show RBlk w3 g va (.pointer (some ⟨gb, 0, none⟩)) r from by obtain ⟨_, _, _, hk⟩ := hpu; exact HBd.out.keep hk fun h => (H2.out _ h).2 rfl)
  clear hpu
  refine hK.out _ _ HB3.out (fun hHeld => ?_)
  clear hK K hHeld
  refine norm_ (a' := ?_) ?_ ?_
  rotate_left
  · show Act.put _ (some 104) _ = _
    simp only [Act.put, List.setIfInBounds_toArray, List.set_cons_zero, List.set_cons_succ, i64_w, i32_w]
    rfl
  refine pure_ (i := 14) (N := some 105) (v := ?_) (a' := ?_) #[true, true, true, true, true, true, true, true, true, true, true, true, true, true, true, false, false, false, false, false] rfl rfl (by kernel_rfl) (fun _ _ _ h => h) (Or.inl ⟨by rfl, ?_⟩) ?_ ?_
  rotate_left
  · intro w'
    go_simp
    with_reducible rfl
  rotate_left
  · simp only [Act.put, List.setIfInBounds_toArray, List.set_cons_zero, List.set_cons_succ, i64_w, i32_w]
    rfl
  refine pure_ (i := 15) (N := some 106) (v := ?_) (a' := ?_) #[true, true, true, true, true, true, true, true, true, true, true, true, true, true, true, true, false, false, false, false] rfl rfl (by kernel_rfl) (fun _ _ _ h => h) (Or.inl ⟨by rfl, ?_⟩) ?_ ?_
  rotate_left
  · intro w'
    go_simp
    with_reducible rfl
  rotate_left
  · simp only [Act.put, List.setIfInBounds_toArray, List.set_cons_zero, List.set_cons_succ, i64_w, i32_w]
    rfl
  refine pure_ (i := 16) (N := some 107) (v := ?_) (a' := ?_) #[true, true, true, true, true, true, true, true, true, true, true, true, true, true, true, true, true, false, false, false] rfl rfl (by kernel_rfl) (fun _ _ _ h => h) (Or.inl ⟨by rfl, ?_⟩) ?_ ?_
  rotate_left
  · intro w'
    go_simp
    with_reducible rfl
  rotate_left
  · simp only [Act.put, List.setIfInBounds_toArray, List.set_cons_zero, List.set_cons_succ, i64_w, i32_w]
    rfl
  refine pure_ (i := 17) (N := some 108) (v := ?_) (a' := ?_) #[true, true, true, true, true, true, true, true, true, true, true, true, true, true, true, true, true, true, false, false] rfl rfl (by kernel_rfl) (fun _ _ _ h => h) (Or.inl ⟨by rfl, ?_⟩) ?_ ?_
  rotate_left
  · intro w'
    go_simp
    with_reducible rfl
  rotate_left
  · simp only [Act.put, List.setIfInBounds_toArray, List.set_cons_zero, List.set_cons_succ, i64_w, i32_w]
    rfl
  refine pure_ (i := 18) (N := some 109) (v := ?_) (a' := ?_) #[true, true, true, true, true, true, true, true, true, true, true, true, true, true, true, true, true, true, true, false] rfl rfl (by kernel_rfl) (fun _ _ _ h => h) (Or.inl ⟨by rfl, ?_⟩) ?_ ?_
  rotate_left
  · intro w'
    go_simp
    with_reducible rfl
  rotate_left
  · simp only [Act.put, List.setIfInBounds_toArray, List.set_cons_zero, List.set_cons_succ, i64_w, i32_w]
    rfl
  refine last_ (i := 19) (N := none) #[true, true, true, true, true, true, true, true, true, true, true, true, true, true, true, true, true, true, true, true] rfl rfl (by kernel_rfl) (by decide) (fun K hK => ?_)
  have hf7 : w3.frozen? ⟨g, 7, none⟩ = false := HB3.out.fz 7
  have hc7 : w3.cell? ⟨g, 7, none⟩ = some (.int .i64 r.rest) := (HB3.out.cell 7).trans rfl
  refine skip_ (w1 := w3.setCell ⟨g, 7, none⟩ (.int .i64 (wrap64 (r.rest + wrap64 ((bs.length : Int) - (k1 : Int)))))) (by rfl) rfl ?_ ?_
  · go_simp
  refine hK.out _ _ ?_
  clear hK K hf7 hc7
  refine done_ (by kernel_rfl) ?_
  have HB4 := Aside0.mk (show RBlk (w3.setCell ⟨g, 7, none⟩ (.int .i64 (wrap64 (r.rest + wrap64 ((bs.length : Int) - (k1 : Int)))))) g va (.pointer (some ⟨gb, 0, none⟩)) { r with body := some d1, rest := wr (r.rest + wr ((bs.length : Int) - (k1 : Int))) } from HB3.out.put 7 _ (by rw [wr_eq, wr_eq]; rfl))
  have HK4 := Aside0.mk ((Keep.refl (fun k => k = g) w3).set (g := g) rfl 7 (.int .i64 (wrap64 (r.rest + wrap64 ((bs.length : Int) - (k1 : Int))))))
  have HD4 := Aside0.mk (show ∃ F', IsD (w3.setCell ⟨g, 7, none⟩ (.int .i64 (wrap64 (r.rest + wrap64 ((bs.length : Int) - (k1 : Int)))))) F' gb d1 from by obtain ⟨F', hD', hF', _⟩ := HPU.out; exact ⟨F', hD'.keep HK4.out fun i _ hf e => by subst e; rcases hF' _ hf with h | h; exact (H2.out _ h).2 rfl; have h1 := HSz.out; have h2 := HB.out.lt; omega⟩)
  clear HB3 HBd HDd HRd
  obtain ⟨w4, hw4⟩ : ∃ w4, w4 = w3.setCell ⟨g, 7, none⟩ (.int .i64 (wrap64 (r.rest + wrap64 ((bs.length : Int) - (k1 : Int))))) := ⟨_, rfl⟩
  rw [← hw4] at HB4 HK4 HD4 ⊢
  clear hw4
  have c6 : w4.cell? ⟨g, 6, none⟩ = some (.pointer (some ⟨gb, 0, none⟩)) := (HB4.out.cell 6).trans rfl
  by_cases hde : d1.e = 0
  · have HDE := Aside0.mk hde
    have HTR1 := Aside0.mk (show r' = { r with body := some d1, rest := wr (r.rest + wr ((bs.length : Int) - (k1 : Int))) } from HTR.out.trans (if_pos hde))
    have c9 : w4.cell? ⟨g, 9, none⟩ = some .nilIface := (HB4.out.cell 9).trans (by show some (errV r.e) = _; rw [HE0.out]; rfl)
    clear hde
    go_wp2_with (first | (go_at_call 20; (with_reducible refine (err_calls HD4.out.choose_spec).mono ?_); rintro e w5 ⟨rfl, rfl⟩) | (go_at_call 17; (with_reducible refine (note_0' w4 g d1.e HDE.out).mono ?_); rintro e w5 ⟨rfl, rfl⟩))
    go_end0
    exact ⟨rfl, feed_end HO.out HA.out HGX.out HB.out.lt H2.out HKd.out HSz.out HPU.out HK4.out (by rw [HTR1.out]; exact HB4.out) (by rw [HTR1.out]; exact .inl ⟨rfl, rfl⟩) (by rw [HTR1.out])⟩
  · have HDE := Aside0.mk hde
    have HTR1 := Aside0.mk (show r' = { r with body := some d1, rest := 0, e := d1.e, ahead := [] } from HTR.out.trans (if_neg hde))
    clear hde
    go_wp2_with (first | (go_at_call 20; (with_reducible refine (err_calls HD4.out.choose_spec).mono ?_); rintro e w5 ⟨rfl, rfl⟩) | (go_at_call 17; (with_reducible refine (note_1 HB4.out d1.e HDE.out).mono ?_); rintro e w5 ⟨rfl, hB5, hK5⟩; have HB5 := Aside0.mk (show RBlk w5 g (.slice none 0 0) (.pointer (some ⟨gb, 0, none⟩)) { r with body := some d1, rest := wr (r.rest + wr ((bs.length : Int) - (k1 : Int))), e := d1.e, ahead := [] } from by have h := hB5; unfold R.note at h; rw [if_neg HDE.out] at h; exact h); have HK5 := Aside0.mk hK5; have c9 : w5.cell? ⟨g, 9, none⟩ = some (.iface 29 (.int .i64 d1.e)) := (HB5.out.cell 9).trans (by show some (errV d1.e) = _; rw [errV1 HDE.out]); have c7 : w5.cell? ⟨g, 7, none⟩ = some (.int .i64 (wr (r.rest + wr ((bs.length : Int) - (k1 : Int))))) := (HB5.out.cell 7).trans rfl; have f7 := HB5.out.fz 7; clear hB5 hK5))
    go_end0
    exact ⟨rfl, feed_end HO.out HA.out HGX.out HB.out.lt H2.out HKd.out HSz.out HPU.out ((HK4.out.trans HK5.out fun _ _ e => e).set (g := g) rfl 7 _) (by rw [HTR1.out]; exact HB5.out.put 7 _ rfl) (by rw [HTR1.out]; exact .inr ⟨rfl, rfl⟩) (by rw [HTR1.out])⟩
theorem IsD.bound {w : World} {F : Nat → Prop} {g : Nat} {d : D} (h : IsD w F g d) : IsD w (fun i => F i ∧ i < w.heap.size) g d := by
  obtain ⟨vn, vl, vb, hB, hF, hV⟩ := h
  have hlt : ∀ i, Wt g vl vb i → i < w.heap.size := by
    rintro i (rfl | hi | hi)
    · exact hB.lt
    · exact hB.line.lt hi
    · exact hB.body.lt hi
  exact ⟨vn, vl, vb, hB, fun k hk => ⟨hF k hk, hlt k hk⟩, hV.keep (Keep.refl (fun _ => False) w) (fun _ _ _ h => h) fun i hi hg => ⟨⟨hg.1, hi⟩, hg.2⟩⟩
theorem BodyV.bound {w : World} {F : Nat → Prop} {vb : Value} {b : Option D} (h : BodyV w F vb b) : BodyV w (fun i => F i ∧ i < w.heap.size) vb b := by
  cases b with
  | none => exact h
  | some d =>
    obtain ⟨gb, hv, hD⟩ := h
    exact ⟨gb, hv, IsD.bound hD⟩
theorem IsR.bound {w : World} {F : Nat → Prop} {g : Nat} {r : R} (h : IsR w F g r) : IsR w (fun i => F i ∧ i < w.heap.size) g r := by
  obtain ⟨va, vb, F2, hB, hO, hA, hg, hb, h2⟩ := h
  exact ⟨va, vb, _, hB, hO, fun k hk => ⟨⟨(hA k hk).1, hO.lt hk⟩, (hA k hk).2.1, fun h => (hA k hk).2.2 h.1⟩, ⟨hg, hB.lt⟩, BodyV.bound hb, fun k hk => ⟨⟨(h2 k hk.1).1, hk.2⟩, (h2 k hk.1).2⟩⟩
/-- How a call ends that wrote the reader's own cells alone. -/
theorem own_end {W w6 : World} {G F2 : Nat → Prop} {g : Nat} {va va' vb : Value} {rr r' : R} (hO : Own W va rr.ahead) (hA : ∀ k, va.ownBlock = some k → G k ∧ k ≠ g ∧ ¬ F2 k) (hg : G g) (hb : BodyV W F2 vb rr.body) (h2 : ∀ k, F2 k → G k ∧ k ≠ g)
    (hk : Keep (fun k => k = g) W w6) (hB : RBlk w6 g va' vb r') (hva : (va' = va ∧ r'.ahead = rr.ahead) ∨ (va' = .slice none 0 0 ∧ r'.ahead = [])) (he : r'.body = rr.body) : RPushed W w6 G g r' := by
  refine ⟨G, ⟨va', vb, F2, hB, ?_, ?_, hg, by rw [he]; exact hb.keep hk fun i _ hf e => (h2 i hf).2 e, h2⟩, fun i h => .inl h, hk.mono fun i _ e => e ▸ hg⟩
  · rcases hva with ⟨rfl, e⟩ | ⟨rfl, e⟩
    · rw [e]; exact hO.keep hk fun i hi hc => (hA _ hi).2.1 hc
    · rw [e]; exact own_empty _
  · rcases hva with ⟨rfl, e⟩ | ⟨rfl, e⟩
    · exact hA
    · intro k hk2; simp [Value.ownBlock] at hk2
/-- What stands when the bytes have been put behind those ahead. -/
structure Joined (w w2 : World) (F F2 : Nat → Prop) (g : Nat) (A1 : Option Addr) (n1 : Nat) (vb : Value) (r : R) (l1 : List Int) : Prop where
  B : RBlk w2 g (.slice A1 l1.length n1) vb { r with ahead := l1 }
  O : Own w2 (.slice A1 l1.length n1) l1
  A : ∀ k, (Value.slice A1 l1.length n1).ownBlock = some k → (F k ∨ w.heap.size ≤ k) ∧ k ≠ g ∧ ¬ F2 k
  V : BodyV w2 F2 vb r.body
  K : Keep F w w2
  n : l1.length ≤ n1
  G : Glob w2
  C : Kd.C (Kd.int .u8) w2 A1 l1.length l1
theorem joined {w w1 : World} {F F2 : Nat → Prop} {g : Nat} {va v1 vb : Value} {r : R} {l1 : List Int} (hB : RBlk w g va vb r) (hO : Own w va r.ahead) (hA : ∀ k, va.ownBlock = some k → F k ∧ k ≠ g ∧ ¬ F2 k) (hg : F g) (hb : BodyV w F2 vb r.body) (h2 : ∀ k, F2 k → (F k ∧ k ≠ g) ∧ k < w.heap.size)
    (hF0 : ¬ F 0) (hG : Glob w) (ho : Own w1 v1 l1) (hgr : w.grownBy w1 va.ownBlock) (hat : v1.ownBlock = va.ownBlock ∨ ∃ b, v1.ownBlock = some b ∧ w.heap.size ≤ b) :
    ∃ A1 n1, v1 = .slice A1 l1.length n1 ∧ w1.cell? ⟨g, 0, none⟩ = some va ∧ w1.frozen? ⟨g, 0, none⟩ = false ∧ Joined w (w1.setCell ⟨g, 0, none⟩ v1) F F2 g A1 n1 vb r l1 := by
  obtain ⟨A1, n1, rfl, hn, hC⟩ := own_C ho
  have hne : va.ownBlock ≠ some g := fun e => (hA g e).2.1 rfl
  have hB1 : RBlk w1 g va vb r := (hgr.block g hB.lt fun e => hne e.symm).trans hB
  have hk1 : Keep (fun k => va.ownBlock = some k) w w1 := (Keep.refl _ w).grown hgr fun k h _ => h
  have hk2 : Keep (fun k => va.ownBlock = some k ∨ k = g) w (w1.setCell ⟨g, 0, none⟩ (.slice A1 l1.length n1)) := (hk1.mono fun i _ h => .inl h).set (g := g) (.inr rfl) 0 _
  have hks : Keep (fun k => k = g) w1 (w1.setCell ⟨g, 0, none⟩ (.slice A1 l1.length n1)) := (Keep.refl (fun k => k = g) w1).set (g := g) rfl 0 _
  have hA1 : ∀ k, (Value.slice A1 l1.length n1).ownBlock = some k → (F k ∨ w.heap.size ≤ k) ∧ k ≠ g ∧ ¬ F2 k := by
    intro k hk
    rcases hat with e | ⟨b, e, hbb⟩
    · rw [e] at hk; exact ⟨.inl (hA k hk).1, (hA k hk).2⟩
    · rw [e] at hk
      obtain rfl := Option.some.inj hk
      exact ⟨.inr hbb, by have := hB.lt; omega, fun hf => by have := (h2 _ hf).2; omega⟩
  have hO2 : Own (w1.setCell ⟨g, 0, none⟩ (.slice A1 l1.length n1)) (.slice A1 l1.length n1) l1 := Own.keep ho hks fun i hi e => (hA1 i hi).2.1 e
  obtain ⟨A2, n2, e2, _, hC2⟩ := own_C hO2
  injection e2 with e3 e4 e5
  subst e3
  refine ⟨A1, n1, rfl, (hB1.cell 0).trans rfl, hB1.fz 0, ⟨hB1.put 0 _ rfl, hO2, hA1, hb.keep hk2 fun i _ hf h => ?_, hk2.mono fun i _ h => ?_, hn, Glob.keep hG hk2 fun h => ?_, hC2⟩⟩
  · rcases h with h | h
    · exact (hA i h).2.2 hf
    · exact (h2 i hf).1.2 h
  · rcases h with h | h
    · exact (hA i h).1
    · exact h ▸ hg
  · rcases h with h | h
    · exact hF0 (hA 0 h).1
    · exact hF0 (h ▸ hg)

theorem J_end {w w2 w6 : World} {F F2 : Nat → Prop} {g : Nat} {A1 : Option Addr} {n1 : Nat} {va' vb : Value} {r r' : R} {l1 : List Int} (hJ : Joined w w2 F F2 g A1 n1 vb r l1) (hg : F g) (h2 : ∀ k, F2 k → (F k ∧ k ≠ g) ∧ k < w.heap.size)
    (hk : Keep (fun k => k = g) w2 w6) (hB : RBlk w6 g va' vb r') (hva : (va' = .slice A1 l1.length n1 ∧ r'.ahead = l1) ∨ (va' = .slice none 0 0 ∧ r'.ahead = [])) (hbd : r'.body = r.body) : RPushed w w6 F g r' :=
  RPushed.trans hJ.K (G := fun k => F k ∨ w.heap.size ≤ k) (fun _ h => h) (own_end (rr := { r with ahead := l1 }) hJ.O hJ.A (.inl hg) hJ.V (fun k hk => ⟨.inl (h2 k hk).1.1, (h2 k hk).1.2⟩) hk hB hva hbd)

set_option maxHeartbeats 8000000 in
set_option maxRecDepth 100000 in
theorem push_part {w : World} {F : Nat → Prop} {g c : Nat} {A : Option Addr} {r r' : R} {bs : List Int} {kp : Nat} {st len n e : Int} {ch cl : Bool} (h : IsR w F g r) (hF0 : ¬ F 0) (hG : Glob w) (hx : bs.length ≤ c)
    (hr : Kd.C (Kd.int .u8) w A bs.length bs) (he : r.e = 0) (hn : r.ended = false) (hw : r.whole = false) (hm : r.ahead.length + bs.length ≤ 1099511627776) (hp : PA.head_Parse.f kp (r.ahead ++ bs) = some (st, len, ch, cl, n, e)) (h0 : n = 0) (hr' : r' = ({ r with ahead := r.ahead ++ bs } : R).note e) :
    Calls Tryz.prog 7 #[.pointer (some ⟨g, 0, none⟩), .slice A bs.length c] w fun x w' => x = .returned (.tuple #[]) ∧ RPushed w w' F g r' := by
  subst h0
  have HTR := Aside0.mk hr'
  clear hr'
  obtain ⟨va, vb, F0, hB, hO, hA0, hg, hbv0, h20⟩ := h
  obtain ⟨F2, hF2⟩ : ∃ F2 : Nat → Prop, F2 = fun i => F0 i ∧ i < w.heap.size := ⟨_, rfl⟩
  have hbv : BodyV w F2 vb r.body := by rw [hF2]; exact BodyV.bound hbv0
  have hA : ∀ k, va.ownBlock = some k → F k ∧ k ≠ g ∧ ¬ F2 k := fun k hk => ⟨(hA0 k hk).1, (hA0 k hk).2.1, by rw [hF2]; exact fun h => (hA0 k hk).2.2 h.1⟩
  have h2 : ∀ k, F2 k → (F k ∧ k ≠ g) ∧ k < w.heap.size := fun k hk => by rw [hF2] at hk; exact ⟨h20 k hk.1, hk.2⟩
  clear hbv0 hA0 h20 hF2 F0
  obtain ⟨l1, hl1⟩ : ∃ l1, l1 = r.ahead ++ bs := ⟨_, rfl⟩
  rw [← hl1] at hp
  obtain ⟨A0, n0, hva, hn0⟩ := own_slice2 hO
  have c9 : w.cell? ⟨g, 9, none⟩ = some .nilIface := (hB.cell 9).trans (by show some (errV r.e) = _; rw [he]; rfl)
  have c8 : w.cell? ⟨g, 8, none⟩ = some (.bool false) := (hB.cell 8).trans (by show some (Value.bool r.ended) = _; rw [hn])
  have c5 : w.cell? ⟨g, 5, none⟩ = some (.bool false) := (hB.cell 5).trans (by show some (Value.bool r.whole) = _; rw [hw])
  have c0 : w.cell? ⟨g, 0, none⟩ = some (.slice A0 r.ahead.length n0) := (hB.cell 0).trans (by rw [← hva]; rfl)
  have HRR := Aside0.mk (show ReadsInt w .u8 A bs.length bs from Kd.reads_of_C (d := (0 : Int)) hr)
  have HB := Aside0.mk hB
  have HO := Aside0.mk hO
  have HA := Aside0.mk hA
  have HGX := Aside0.mk hg
  have HBV := Aside0.mk hbv
  have H2 := Aside0.mk h2
  have HG := Aside0.mk hG
  have HF0 := Aside0.mk hF0
  have HM := Aside0.mk hm
  have HX := Aside0.mk hx
  have HE0 := Aside0.mk he
  have HPA := Aside0.mk hp
  have HL1 := Aside0.mk hl1
  have HVA := Aside0.mk hva
  clear hB hO hA hg hbv h2 hG hF0 hm hx hr he hn hw hp hl1 hva hn0
  go_enter Tryz.func7, Tryz.ntmps7
  go_upto_region 3 with (first | ((with_reducible refine gate_builtin (b := .append) (xs := #[.tmp 35, .tmp 36]) rfl ?_); at_builtin; refine print_append_row (w0 := w) 0 rfl (.tmp 35) (.tmp 36) 22 5 .u8 1 rfl Tryz.underlying22 info5 (by decide) (.slice A0 r.ahead.length n0) r.ahead bs A bs.length c rfl rfl (HVA.out ▸ HO.out) HRR.out (Below.refl _ _) (Nat.zero_le _) (by have := HM.out; omega) ?_; intro v1 w1 ho hb hg hat; rw [← HL1.out] at ho; obtain ⟨A1, n1, rfl, k0, k1, hJ⟩ := joined HB.out HO.out HA.out HGX.out HBV.out H2.out HF0.out HG.out ho (HVA.out.symm ▸ hg) (HVA.out.symm ▸ hat); have HJ0 := Aside0.mk hJ; rw [HVA.out] at k0; clear ho hb hg hat hJ))
  obtain ⟨w2, hw2⟩ : ∃ w2, w2 = w1.setCell ⟨g, 0, none⟩ (.slice A1 l1.length n1) := ⟨_, rfl⟩
  have HJ := Aside0.mk (show Joined w w2 F F2 g A1 n1 vb r l1 from hw2 ▸ HJ0.out)
  rw [← hw2]
  clear HJ0 k0 k1 hw2
  have d0 : w2.cell? ⟨g, 0, none⟩ = some (.slice A1 l1.length n1) := (HJ.out.B.cell 0).trans rfl
  go_upto_region 4 with (first | (go_at_call 16; (with_reducible refine (PA.head_Parse.calls kp A1 n1 l1 st len ch cl 0 e w2 HJ.out.C HJ.out.n HJ.out.G HPA.out).mono ?_); rintro x w3 ⟨rfl, hb⟩; have HB3 := Aside0.mk hb; clear hb))
  obtain ⟨gh, hgh⟩ : ∃ gh, gh = w3.heap.size := ⟨_, rfl⟩
  obtain ⟨w4, hw4⟩ : ∃ w4, w4 = w3.alloc (Obj.cells #[.int .i64 st, .int .i64 len, .bool ch, .bool cl] 35) := ⟨_, rfl⟩
  have HK4 := Aside0.mk (show Keep (fun _ => False) w2 w4 from by rw [hw4]; exact (Keep.of_below HB3.out).alloc _)
  have HL4 := Aside0.mk (show w4.heap[gh]? = some (.cells #[.int .i64 st, .int .i64 len, .bool ch, .bool cl] 35 (0, 0)) from by rw [hw4, hgh]; exact blk_new w3 _)
  have HGH := Aside0.mk (show w2.heap.size ≤ gh from by rw [hgh]; exact HB3.out.size)
  have HB4 := Aside0.mk (HJ.out.B.keep HK4.out id)
  rw [← hgh, ← hw4]
  clear hgh hw4 HB3 w3 d0
  by_cases he1 : e = 0
  · subst he1
    have HTR1 := Aside0.mk (show r' = { r with ahead := l1 } from by rw [HL1.out]; exact HTR.out.trans (if_pos rfl))
    go_wp2_with (first | (go_at_call 17; (with_reducible refine (note_0 w4 g).mono ?_); rintro x w5 ⟨rfl, rfl⟩))
    (try simp only [Exit.inBlock, Exit.then]); refine bodyPost_ret (results_none rfl _ _ _) rfl ?_
    exact ⟨rfl, J_end HJ.out HGX.out H2.out (Keep.none HK4.out) (by rw [HTR1.out]; exact HB4.out) (by rw [HTR1.out]; exact .inl ⟨rfl, rfl⟩) (by rw [HTR1.out])⟩
  · have HE1 := Aside0.mk he1
    have HTR1 := Aside0.mk (show r' = { r with e := e, ahead := [] } from HTR.out.trans (if_neg he1))
    clear he1
    go_wp2_with (first | (go_at_call 17; (with_reducible refine (note_1 HB4.out e HE1.out).mono ?_); rintro x w5 ⟨rfl, hB5, hK5⟩; have HB5 := Aside0.mk (show RBlk w5 g (.slice none 0 0) vb { r with e := e, ahead := [] } from by have h := hB5; unfold R.note at h; rw [if_neg HE1.out] at h; exact h); have HK5 := Aside0.mk hK5; clear hB5 hK5))
    (try simp only [Exit.inBlock, Exit.then]); refine bodyPost_ret (results_none rfl _ _ _) rfl ?_
    exact ⟨rfl, J_end HJ.out HGX.out H2.out ((Keep.none HK4.out).trans HK5.out fun _ _ e => e) (by rw [HTR1.out]; exact HB5.out) (by rw [HTR1.out]; exact .inr ⟨rfl, rfl⟩) (by rw [HTR1.out])⟩
set_option maxHeartbeats 8000000 in
set_option maxRecDepth 100000 in
theorem push_code {w : World} {F : Nat → Prop} {g c : Nat} {A : Option Addr} {r r' : R} {bs : List Int} {kp : Nat} {st len : Int} {nn : Nat} {ch cl : Bool} (h : IsR w F g r) (hF0 : ¬ F 0) (hG : Glob w) (hx : bs.length ≤ c)
    (hr : Kd.C (Kd.int .u8) w A bs.length bs) (he : r.e = 0) (hn : r.ended = false) (hw : r.whole = false) (hm : r.ahead.length + bs.length ≤ 1099511627776) (hp : PA.head_Parse.f kp (r.ahead ++ bs) = some (st, len, ch, cl, (nn : Int), 0)) (hn1 : 1 ≤ nn) (hn2 : nn ≤ (r.ahead ++ bs).length) (hs : st ≠ 200) (hr' : r' = ({ r with ahead := [], hd := ⟨st, len, ch, cl⟩, whole := true } : R).note 14) :
    Calls Tryz.prog 7 #[.pointer (some ⟨g, 0, none⟩), .slice A bs.length c] w fun x w' => x = .returned (.tuple #[]) ∧ RPushed w w' F g r' := by
  have HTR := Aside0.mk hr'
  have HS := Aside0.mk hs
  have HN := Aside0.mk (show 1 ≤ nn ∧ nn ≤ (r.ahead ++ bs).length from ⟨hn1, hn2⟩)
  clear hr' hs hn1 hn2
  obtain ⟨va, vb, F0, hB, hO, hA0, hg, hbv0, h20⟩ := h
  obtain ⟨F2, hF2⟩ : ∃ F2 : Nat → Prop, F2 = fun i => F0 i ∧ i < w.heap.size := ⟨_, rfl⟩
  have hbv : BodyV w F2 vb r.body := by rw [hF2]; exact BodyV.bound hbv0
  have hA : ∀ k, va.ownBlock = some k → F k ∧ k ≠ g ∧ ¬ F2 k := fun k hk => ⟨(hA0 k hk).1, (hA0 k hk).2.1, by rw [hF2]; exact fun h => (hA0 k hk).2.2 h.1⟩
  have h2 : ∀ k, F2 k → (F k ∧ k ≠ g) ∧ k < w.heap.size := fun k hk => by rw [hF2] at hk; exact ⟨h20 k hk.1, hk.2⟩
  clear hbv0 hA0 h20 hF2 F0
  obtain ⟨l1, hl1⟩ : ∃ l1, l1 = r.ahead ++ bs := ⟨_, rfl⟩
  rw [← hl1] at hp
  obtain ⟨A0, n0, hva, hn0⟩ := own_slice2 hO
  have c9 : w.cell? ⟨g, 9, none⟩ = some .nilIface := (hB.cell 9).trans (by show some (errV r.e) = _; rw [he]; rfl)
  have c8 : w.cell? ⟨g, 8, none⟩ = some (.bool false) := (hB.cell 8).trans (by show some (Value.bool r.ended) = _; rw [hn])
  have c5 : w.cell? ⟨g, 5, none⟩ = some (.bool false) := (hB.cell 5).trans (by show some (Value.bool r.whole) = _; rw [hw])
  have c0 : w.cell? ⟨g, 0, none⟩ = some (.slice A0 r.ahead.length n0) := (hB.cell 0).trans (by rw [← hva]; rfl)
  have HRR := Aside0.mk (show ReadsInt w .u8 A bs.length bs from Kd.reads_of_C (d := (0 : Int)) hr)
  have HB := Aside0.mk hB
  have HO := Aside0.mk hO
  have HA := Aside0.mk hA
  have HGX := Aside0.mk hg
  have HBV := Aside0.mk hbv
  have H2 := Aside0.mk h2
  have HG := Aside0.mk hG
  have HF0 := Aside0.mk hF0
  have HM := Aside0.mk hm
  have HX := Aside0.mk hx
  have HE0 := Aside0.mk he
  have HPA := Aside0.mk hp
  have HL1 := Aside0.mk hl1
  have HVA := Aside0.mk hva
  clear hB hO hA hg hbv h2 hG hF0 hm hx hr he hn hw hp hl1 hva hn0
  go_enter Tryz.func7, Tryz.ntmps7
  go_upto_region 3 with (first | ((with_reducible refine gate_builtin (b := .append) (xs := #[.tmp 35, .tmp 36]) rfl ?_); at_builtin; refine print_append_row (w0 := w) 0 rfl (.tmp 35) (.tmp 36) 22 5 .u8 1 rfl Tryz.underlying22 info5 (by decide) (.slice A0 r.ahead.length n0) r.ahead bs A bs.length c rfl rfl (HVA.out ▸ HO.out) HRR.out (Below.refl _ _) (Nat.zero_le _) (by have := HM.out; omega) ?_; intro v1 w1 ho hb hg hat; rw [← HL1.out] at ho; obtain ⟨A1, n1, rfl, k0, k1, hJ⟩ := joined HB.out HO.out HA.out HGX.out HBV.out H2.out HF0.out HG.out ho (HVA.out.symm ▸ hg) (HVA.out.symm ▸ hat); have HJ0 := Aside0.mk hJ; rw [HVA.out] at k0; clear ho hb hg hat hJ))
  obtain ⟨w2, hw2⟩ : ∃ w2, w2 = w1.setCell ⟨g, 0, none⟩ (.slice A1 l1.length n1) := ⟨_, rfl⟩
  have HJ := Aside0.mk (show Joined w w2 F F2 g A1 n1 vb r l1 from hw2 ▸ HJ0.out)
  rw [← hw2]
  clear HJ0 k0 k1 hw2
  have d0 : w2.cell? ⟨g, 0, none⟩ = some (.slice A1 l1.length n1) := (HJ.out.B.cell 0).trans rfl
  rw [← HL1.out] at HN
  go_upto_region 4 with (first | (go_at_call 16; (with_reducible refine (PA.head_Parse.calls kp A1 n1 l1 st len ch cl (nn : Int) 0 w2 HJ.out.C HJ.out.n HJ.out.G HPA.out).mono ?_); rintro x w3 ⟨rfl, hb⟩; have HB3 := Aside0.mk hb; clear hb))
  obtain ⟨gh, hgh⟩ : ∃ gh, gh = w3.heap.size := ⟨_, rfl⟩
  obtain ⟨w4, hw4⟩ : ∃ w4, w4 = w3.alloc (Obj.cells #[.int .i64 st, .int .i64 len, .bool ch, .bool cl] 35) := ⟨_, rfl⟩
  have HK4 := Aside0.mk (show Keep (fun _ => False) w2 w4 from by rw [hw4]; exact (Keep.of_below HB3.out).alloc _)
  have HL4 := Aside0.mk (show w4.heap[gh]? = some (.cells #[.int .i64 st, .int .i64 len, .bool ch, .bool cl] 35 (0, 0)) from by rw [hw4, hgh]; exact blk_new w3 _)
  have HGH := Aside0.mk (show w2.heap.size ≤ gh from by rw [hgh]; exact HB3.out.size)
  have HB4 := Aside0.mk (HJ.out.B.keep HK4.out id)
  rw [← hgh, ← hw4]
  clear hgh hw4 HB3 w3 d0
  have y0 : (((nn : Nat) : Int) == 0) = false := beq_eq_false_iff_ne.2 (by have := HN.out.1; omega)
  have d0 : w4.cell? ⟨g, 0, none⟩ = some (.slice A1 l1.length n1) := (HB4.out.cell 0).trans rfl
  have hnc : (nn : Int) ≤ (n1 : Int) := by have h1 := HJ.out.n; have h3 := HN.out.2; omega
  have hnd : (nn : Int) ≤ (l1.length : Int) := by have h3 := HN.out.2; omega
  have hne : nn ≤ l1.length := HN.out.2
  have hnf : nn ≤ n1 := by have h1 := HJ.out.n; omega
  have hn0 : (0 : Int) ≤ (nn : Int) := by omega
  go_upto_region 7 with (first | (go_at_call 17; (with_reducible refine (note_0 w4 g).mono ?_); rintro x w5 ⟨rfl, rfl⟩))
  obtain ⟨AX, hAX⟩ : ∃ AX, AX = (if n1 = nn then A1 else A1.map (fun x => x.add nn)) := ⟨_, rfl⟩
  rw [← hAX]
  have HAX := Aside0.mk hAX
  clear hAX hnc hnd hne hnf hn0
  have y1 : (st != 200) = true := bne_iff_ne.2 HS.out
  have m0 : w4.cell? ⟨gh, 0, none⟩ = some (.int .i64 st) := (blk_cell HL4.out 0).trans rfl
  have m1 : w4.cell? ⟨gh, 1, none⟩ = some (.int .i64 len) := (blk_cell HL4.out 1).trans rfl
  have m2 : w4.cell? ⟨gh, 2, none⟩ = some (.bool ch) := (blk_cell HL4.out 2).trans rfl
  have m3 : w4.cell? ⟨gh, 3, none⟩ = some (.bool cl) := (blk_cell HL4.out 3).trans rfl
  have d1 : w4.cell? ⟨g, 1, none⟩ = some (.int .i64 r.hd.st) := (HB4.out.cell 1).trans rfl
  have d2 : w4.cell? ⟨g, 2, none⟩ = some (.int .i64 r.hd.len) := (HB4.out.cell 2).trans rfl
  have d3 : w4.cell? ⟨g, 3, none⟩ = some (.bool r.hd.ch) := (HB4.out.cell 3).trans rfl
  have d4 : w4.cell? ⟨g, 4, none⟩ = some (.bool r.hd.cl) := (HB4.out.cell 4).trans rfl
  have d5 : w4.cell? ⟨g, 5, none⟩ = some (.bool r.whole) := (HB4.out.cell 5).trans rfl
  have f0 := HB4.out.fz 0
  have f1 := HB4.out.fz 1
  have f2 := HB4.out.fz 2
  have f3 := HB4.out.fz 3
  have f4 := HB4.out.fz 4
  have f5 := HB4.out.fz 5
  have hng : gh ≠ g := by have h1 := HGH.out; have h2 := HJ.out.B.lt; omega
  have hgn : g ≠ gh := fun e => hng e.symm
  go_upto_region 8 with (fail)
  obtain ⟨w7, hw7⟩ : ∃ w7, w7 = (((((w4.setCell ⟨g, 1, none⟩ (.int .i64 st)).setCell ⟨g, 2, none⟩ (.int .i64 len)).setCell ⟨g, 3, none⟩ (.bool ch)).setCell ⟨g, 4, none⟩ (.bool cl)).setCell ⟨g, 5, none⟩ (.bool true)).setCell ⟨g, 0, none⟩ (.slice none 0 0) := ⟨_, rfl⟩
  have HB7 := Aside0.mk (show RBlk w7 g (.slice none 0 0) vb { r with ahead := [], hd := ⟨st, len, ch, cl⟩, whole := true } from by rw [hw7]; exact (((((HB4.out.put 1 (.int .i64 st) (va' := .slice A1 l1.length n1) (vb' := vb) (r' := { r with ahead := l1, hd := ⟨st, r.hd.len, r.hd.ch, r.hd.cl⟩ }) rfl).put 2 (.int .i64 len) (va' := .slice A1 l1.length n1) (vb' := vb) (r' := { r with ahead := l1, hd := ⟨st, len, r.hd.ch, r.hd.cl⟩ }) rfl).put 3 (.bool ch) (va' := .slice A1 l1.length n1) (vb' := vb) (r' := { r with ahead := l1, hd := ⟨st, len, ch, r.hd.cl⟩ }) rfl).put 4 (.bool cl) (va' := .slice A1 l1.length n1) (vb' := vb) (r' := { r with ahead := l1, hd := ⟨st, len, ch, cl⟩ }) rfl).put 5 (.bool true) (va' := .slice A1 l1.length n1) (vb' := vb) (r' := { r with ahead := l1, hd := ⟨st, len, ch, cl⟩, whole := true }) rfl).put 0 _ rfl)
  have HK7 := Aside0.mk (show Keep (fun k => k = g) w4 w7 from by rw [hw7]; exact ((((((Keep.refl (fun k => k = g) w4).set (g := g) rfl 1 _).set (g := g) rfl 2 _).set (g := g) rfl 3 _).set (g := g) rfl 4 _).set (g := g) rfl 5 _).set (g := g) rfl 0 _)
  have HK27 := Aside0.mk (show Keep (fun k => k = g) w2 w7 from (Keep.none HK4.out).trans HK7.out fun _ _ e => e)
  have HL7 := Aside0.mk (show w7.heap[gh]? = some (.cells #[.int .i64 st, .int .i64 len, .bool ch, .bool cl] 35 (0, 0)) from HK7.out.blk HL4.out hng)
  clear m0 m1 m2 m3 d0 d1 d2 d3 d4 d5 f0 f1 f2 f3 f4 f5
  rw [← hw7]
  clear hw7
  have k0 : w7.cell? ⟨gh, 0, none⟩ = some (.int .i64 st) := (blk_cell HL7.out 0).trans rfl
  have k1 : w7.cell? ⟨gh, 1, none⟩ = some (.int .i64 len) := (blk_cell HL7.out 1).trans rfl
  have k2 : w7.cell? ⟨gh, 2, none⟩ = some (.bool ch) := (blk_cell HL7.out 2).trans rfl
  have k3 : w7.cell? ⟨gh, 3, none⟩ = some (.bool cl) := (blk_cell HL7.out 3).trans rfl
  have e14 : (14 : Int) ≠ 0 := by decide
  go_wp2_with (first | (go_at_call 17; (with_reducible refine (note_1 HB7.out 14 e14).mono ?_); rintro x w8 ⟨rfl, hB8, hK8⟩; have HB8 := Aside0.mk hB8; have HK8 := Aside0.mk hK8; clear hB8 hK8))
  (try simp only [Exit.inBlock, Exit.then]); refine bodyPost_ret (results_none rfl _ _ _) rfl ?_
  exact ⟨rfl, J_end HJ.out HGX.out H2.out (HK27.out.trans HK8.out fun _ _ e => e) (by rw [HTR.out]; exact HB8.out) (by rw [HTR.out]; exact .inr ⟨rfl, rfl⟩) (by rw [HTR.out]; rfl)⟩
theorem newD_line (ch : Bool) (len m : Int) : (newD ch len m).line.length + (newD ch len m).body.length = 0 := by
  unfold newD D0 D.wrong D.ends
  repeat' split
  all_goals rfl
theorem row_block {w : World} {A1 : Option Addr} {n n1 : Nat} {l1 : List Int} (h : Own w (.slice A1 n n1) l1) {ad : Addr} (ha : A1 = some ad) : ad.block < w.heap.size := by
  subst ha
  rcases h.2 with ⟨h, _⟩ | ⟨g, cap, cur, h, hb, hr, _⟩
  · cases h
  · injection h with h _ _
    injection h with h
    subst h
    exact blk_lt hr
theorem cut_block {A1 AX : Option Addr} {n1 nn : Nat} (h : AX = (if n1 = nn then A1 else A1.map (fun x => x.add nn))) {ad : Addr} (ha : AX = some ad) : ∃ a1, A1 = some a1 ∧ ad.block = a1.block := by
  subst h
  split at ha
  · exact ⟨ad, ha, rfl⟩
  · obtain ⟨a1, h1, rfl⟩ := Option.map_eq_some_iff.1 ha
    exact ⟨a1, h1, by unfold Addr.add; split <;> rfl⟩

set_option maxHeartbeats 8000000 in
set_option maxRecDepth 100000 in
theorem push_head {w : World} {F : Nat → Prop} {g c : Nat} {A : Option Addr} {r r' : R} {bs : List Int} {kp : Nat} {st len : Int} {nn : Nat} {ch cl : Bool} (h : IsR w F g r) (hF0 : ¬ F 0) (hG : Glob w) (hx : bs.length ≤ c)
    (hr : Kd.C (Kd.int .u8) w A bs.length bs) (he : r.e = 0) (hn : r.ended = false) (hw : r.whole = false) (hm : r.ahead.length + bs.length ≤ 1099511627776) (hp : PA.head_Parse.f kp (r.ahead ++ bs) = some (st, len, ch, cl, (nn : Int), 0)) (hn1 : 1 ≤ nn) (hn2 : nn ≤ (r.ahead ++ bs).length) {d1 : D} {k1 : Nat} (hs : st = 200) (hpu : Dec.push num tr (newD ch len (max r.most 0)) ((r.ahead ++ bs).drop nn) = some (d1, k1)) (hr' : r' = fedR { r with ahead := [], hd := ⟨st, len, ch, cl⟩, whole := true } d1 ((r.ahead ++ bs).drop nn).length k1) :
    Calls Tryz.prog 7 #[.pointer (some ⟨g, 0, none⟩), .slice A bs.length c] w fun x w' => x = .returned (.tuple #[]) ∧ RPushed w w' F g r' := by
  have HS := Aside0.mk hs
  have HN := Aside0.mk (show 1 ≤ nn ∧ nn ≤ (r.ahead ++ bs).length from ⟨hn1, hn2⟩)
  have HLM := Aside0.mk (show (r.ahead ++ bs).length ≤ 1099511627776 by rw [List.length_append]; exact hm)
  have HTP := Aside0.mk hpu
  have HTR := Aside0.mk hr'
  clear hr' hs hn1 hn2 hpu
  obtain ⟨va, vb, F0, hB, hO, hA0, hg, hbv0, h20⟩ := h
  obtain ⟨F2, hF2⟩ : ∃ F2 : Nat → Prop, F2 = fun i => F0 i ∧ i < w.heap.size := ⟨_, rfl⟩
  have hbv : BodyV w F2 vb r.body := by rw [hF2]; exact BodyV.bound hbv0
  have hA : ∀ k, va.ownBlock = some k → F k ∧ k ≠ g ∧ ¬ F2 k := fun k hk => ⟨(hA0 k hk).1, (hA0 k hk).2.1, by rw [hF2]; exact fun h => (hA0 k hk).2.2 h.1⟩
  have h2 : ∀ k, F2 k → (F k ∧ k ≠ g) ∧ k < w.heap.size := fun k hk => by rw [hF2] at hk; exact ⟨h20 k hk.1, hk.2⟩
  clear hbv0 hA0 h20 hF2 F0
  obtain ⟨l1, hl1⟩ : ∃ l1, l1 = r.ahead ++ bs := ⟨_, rfl⟩
  rw [← hl1] at hp
  obtain ⟨A0, n0, hva, hn0⟩ := own_slice2 hO
  have c9 : w.cell? ⟨g, 9, none⟩ = some .nilIface := (hB.cell 9).trans (by show some (errV r.e) = _; rw [he]; rfl)
  have c8 : w.cell? ⟨g, 8, none⟩ = some (.bool false) := (hB.cell 8).trans (by show some (Value.bool r.ended) = _; rw [hn])
  have c5 : w.cell? ⟨g, 5, none⟩ = some (.bool false) := (hB.cell 5).trans (by show some (Value.bool r.whole) = _; rw [hw])
  have c0 : w.cell? ⟨g, 0, none⟩ = some (.slice A0 r.ahead.length n0) := (hB.cell 0).trans (by rw [← hva]; rfl)
  have HRR := Aside0.mk (show ReadsInt w .u8 A bs.length bs from Kd.reads_of_C (d := (0 : Int)) hr)
  have HB := Aside0.mk hB
  have HO := Aside0.mk hO
  have HA := Aside0.mk hA
  have HGX := Aside0.mk hg
  have HBV := Aside0.mk hbv
  have H2 := Aside0.mk h2
  have HG := Aside0.mk hG
  have HF0 := Aside0.mk hF0
  have HM := Aside0.mk hm
  have HX := Aside0.mk hx
  have HE0 := Aside0.mk he
  have HPA := Aside0.mk hp
  have HL1 := Aside0.mk hl1
  have HVA := Aside0.mk hva
  clear hB hO hA hg hbv h2 hG hF0 hm hx hr he hn hw hp hl1 hva hn0
  go_enter Tryz.func7, Tryz.ntmps7
  go_upto_region 3 with (first | ((with_reducible refine gate_builtin (b := .append) (xs := #[.tmp 35, .tmp 36]) rfl ?_); at_builtin; refine print_append_row (w0 := w) 0 rfl (.tmp 35) (.tmp 36) 22 5 .u8 1 rfl Tryz.underlying22 info5 (by decide) (.slice A0 r.ahead.length n0) r.ahead bs A bs.length c rfl rfl (HVA.out ▸ HO.out) HRR.out (Below.refl _ _) (Nat.zero_le _) (by have := HM.out; omega) ?_; intro v1 w1 ho hb hg hat; rw [← HL1.out] at ho; obtain ⟨A1, n1, rfl, k0, k1, hJ⟩ := joined HB.out HO.out HA.out HGX.out HBV.out H2.out HF0.out HG.out ho (HVA.out.symm ▸ hg) (HVA.out.symm ▸ hat); have HJ0 := Aside0.mk hJ; rw [HVA.out] at k0; clear ho hb hg hat hJ))
  obtain ⟨w2, hw2⟩ : ∃ w2, w2 = w1.setCell ⟨g, 0, none⟩ (.slice A1 l1.length n1) := ⟨_, rfl⟩
  have HJ := Aside0.mk (show Joined w w2 F F2 g A1 n1 vb r l1 from hw2 ▸ HJ0.out)
  rw [← hw2]
  clear HJ0 k0 k1 hw2
  have d0 : w2.cell? ⟨g, 0, none⟩ = some (.slice A1 l1.length n1) := (HJ.out.B.cell 0).trans rfl
  rw [← HL1.out] at HN HTP HTR HLM
  obtain ⟨l7, hl7⟩ : ∃ l7, l7 = l1.drop nn := ⟨_, rfl⟩
  have e7 : l1.length - nn = l7.length := by rw [hl7, List.length_drop]
  rw [← hl7] at HTP HTR
  have HL7 := Aside0.mk hl7
  clear hl7
  have E7 := Aside0.mk e7
  clear e7
  go_upto_region 4 with (first | (go_at_call 16; (with_reducible refine (PA.head_Parse.calls kp A1 n1 l1 st len ch cl (nn : Int) 0 w2 HJ.out.C HJ.out.n HJ.out.G HPA.out).mono ?_); rintro x w3 ⟨rfl, hb⟩; have HB3 := Aside0.mk hb; clear hb))
  obtain ⟨gh, hgh⟩ : ∃ gh, gh = w3.heap.size := ⟨_, rfl⟩
  obtain ⟨w4, hw4⟩ : ∃ w4, w4 = w3.alloc (Obj.cells #[.int .i64 st, .int .i64 len, .bool ch, .bool cl] 35) := ⟨_, rfl⟩
  have HK4 := Aside0.mk (show Keep (fun _ => False) w2 w4 from by rw [hw4]; exact (Keep.of_below HB3.out).alloc _)
  have HL4 := Aside0.mk (show w4.heap[gh]? = some (.cells #[.int .i64 st, .int .i64 len, .bool ch, .bool cl] 35 (0, 0)) from by rw [hw4, hgh]; exact blk_new w3 _)
  have HGH := Aside0.mk (show w2.heap.size ≤ gh from by rw [hgh]; exact HB3.out.size)
  have HB4 := Aside0.mk (HJ.out.B.keep HK4.out id)
  rw [← hgh, ← hw4]
  clear hgh hw4 HB3 w3 d0
  have y0 : (((nn : Nat) : Int) == 0) = false := beq_eq_false_iff_ne.2 (by have := HN.out.1; omega)
  have d0 : w4.cell? ⟨g, 0, none⟩ = some (.slice A1 l1.length n1) := (HB4.out.cell 0).trans rfl
  have hnc : (nn : Int) ≤ (n1 : Int) := by have h1 := HJ.out.n; have h3 := HN.out.2; omega
  have hnd : (nn : Int) ≤ (l1.length : Int) := by have h3 := HN.out.2; omega
  have hne : nn ≤ l1.length := HN.out.2
  have hnf : nn ≤ n1 := by have h1 := HJ.out.n; omega
  have hn0 : (0 : Int) ≤ (nn : Int) := by omega
  go_upto_region 7 with (first | (go_at_call 17; (with_reducible refine (note_0 w4 g).mono ?_); rintro x w5 ⟨rfl, rfl⟩))
  obtain ⟨AX, hAX⟩ : ∃ AX, AX = (if n1 = nn then A1 else A1.map (fun x => x.add nn)) := ⟨_, rfl⟩
  rw [← hAX]
  have HAX := Aside0.mk hAX
  clear hAX hnc hnd hne hnf hn0
  rw [E7.out]
  have y1 : (st != 200) = false := bne_eq_false_iff_eq.2 HS.out
  have HL8 := HL7
  clear HL7
  have m0 : w4.cell? ⟨gh, 0, none⟩ = some (.int .i64 st) := (blk_cell HL4.out 0).trans rfl
  have m1 : w4.cell? ⟨gh, 1, none⟩ = some (.int .i64 len) := (blk_cell HL4.out 1).trans rfl
  have m2 : w4.cell? ⟨gh, 2, none⟩ = some (.bool ch) := (blk_cell HL4.out 2).trans rfl
  have m3 : w4.cell? ⟨gh, 3, none⟩ = some (.bool cl) := (blk_cell HL4.out 3).trans rfl
  have d1 : w4.cell? ⟨g, 1, none⟩ = some (.int .i64 r.hd.st) := (HB4.out.cell 1).trans rfl
  have d2 : w4.cell? ⟨g, 2, none⟩ = some (.int .i64 r.hd.len) := (HB4.out.cell 2).trans rfl
  have d3 : w4.cell? ⟨g, 3, none⟩ = some (.bool r.hd.ch) := (HB4.out.cell 3).trans rfl
  have d4 : w4.cell? ⟨g, 4, none⟩ = some (.bool r.hd.cl) := (HB4.out.cell 4).trans rfl
  have d5 : w4.cell? ⟨g, 5, none⟩ = some (.bool r.whole) := (HB4.out.cell 5).trans rfl
  have f0 := HB4.out.fz 0
  have f1 := HB4.out.fz 1
  have f2 := HB4.out.fz 2
  have f3 := HB4.out.fz 3
  have f4 := HB4.out.fz 4
  have f5 := HB4.out.fz 5
  have hng : gh ≠ g := by have h1 := HGH.out; have h2 := HJ.out.B.lt; omega
  have hgn : g ≠ gh := fun e => hng e.symm
  go_upto_region 8 with (fail)
  obtain ⟨w7, hw7⟩ : ∃ w7, w7 = (((((w4.setCell ⟨g, 1, none⟩ (.int .i64 st)).setCell ⟨g, 2, none⟩ (.int .i64 len)).setCell ⟨g, 3, none⟩ (.bool ch)).setCell ⟨g, 4, none⟩ (.bool cl)).setCell ⟨g, 5, none⟩ (.bool true)).setCell ⟨g, 0, none⟩ (.slice none 0 0) := ⟨_, rfl⟩
  have HB7 := Aside0.mk (show RBlk w7 g (.slice none 0 0) vb { r with ahead := [], hd := ⟨st, len, ch, cl⟩, whole := true } from by rw [hw7]; exact (((((HB4.out.put 1 (.int .i64 st) (va' := .slice A1 l1.length n1) (vb' := vb) (r' := { r with ahead := l1, hd := ⟨st, r.hd.len, r.hd.ch, r.hd.cl⟩ }) rfl).put 2 (.int .i64 len) (va' := .slice A1 l1.length n1) (vb' := vb) (r' := { r with ahead := l1, hd := ⟨st, len, r.hd.ch, r.hd.cl⟩ }) rfl).put 3 (.bool ch) (va' := .slice A1 l1.length n1) (vb' := vb) (r' := { r with ahead := l1, hd := ⟨st, len, ch, r.hd.cl⟩ }) rfl).put 4 (.bool cl) (va' := .slice A1 l1.length n1) (vb' := vb) (r' := { r with ahead := l1, hd := ⟨st, len, ch, cl⟩ }) rfl).put 5 (.bool true) (va' := .slice A1 l1.length n1) (vb' := vb) (r' := { r with ahead := l1, hd := ⟨st, len, ch, cl⟩, whole := true }) rfl).put 0 _ rfl)
  have HK7 := Aside0.mk (show Keep (fun k => k = g) w4 w7 from by rw [hw7]; exact ((((((Keep.refl (fun k => k = g) w4).set (g := g) rfl 1 _).set (g := g) rfl 2 _).set (g := g) rfl 3 _).set (g := g) rfl 4 _).set (g := g) rfl 5 _).set (g := g) rfl 0 _)
  have HK27 := Aside0.mk (show Keep (fun k => k = g) w2 w7 from (Keep.none HK4.out).trans HK7.out fun _ _ e => e)
  have HL7 := Aside0.mk (show w7.heap[gh]? = some (.cells #[.int .i64 st, .int .i64 len, .bool ch, .bool cl] 35 (0, 0)) from HK7.out.blk HL4.out hng)
  clear m0 m1 m2 m3 d0 d1 d2 d3 d4 d5 f0 f1 f2 f3 f4 f5
  rw [← hw7]
  clear hw7
  have k0 : w7.cell? ⟨gh, 0, none⟩ = some (.int .i64 st) := (blk_cell HL7.out 0).trans rfl
  have k1 : w7.cell? ⟨gh, 1, none⟩ = some (.int .i64 len) := (blk_cell HL7.out 1).trans rfl
  have k2 : w7.cell? ⟨gh, 2, none⟩ = some (.bool ch) := (blk_cell HL7.out 2).trans rfl
  have k3 : w7.cell? ⟨gh, 3, none⟩ = some (.bool cl) := (blk_cell HL7.out 3).trans rfl
  go_upto_region 10 with (fail)
  refine start_ (n := 11) (S := fun w' => RBlk w' g (.slice none 0 0) vb ({ r with ahead := [], hd := ⟨st, len, ch, cl⟩, whole := true } : R) ∧ w'.heap[gh]? = some (.cells #[.int .i64 st, .int .i64 len, .bool ch, .bool cl] 35 (0, 0))) (ds := [10]) #[false, false, false, false, false, false, false, false, false, false, false] (by kernel_rfl) rfl rfl ⟨HB7.out, HL7.out⟩ (fun hHeld => ?_)
  clear k0 k1 k2 k3
  refine pure_ (i := 0) (N := some 81) (v := ?_) (a' := ?_) #[true, false, false, false, false, false, false, false, false, false, false] rfl rfl (by kernel_rfl) (fun _ _ _ h => h) (Or.inl ⟨by rfl, ?_⟩) ?_ ?_
  rotate_left
  · intro w'
    go_simp
    with_reducible rfl
  rotate_left
  · simp only [Act.put, List.setIfInBounds_toArray, List.set_cons_zero, List.set_cons_succ, i64_w, i32_w]
    rfl
  refine pure_ (i := 2) (N := some 83) (v := ?_) (a' := ?_) #[true, false, true, false, false, false, false, false, false, false, false] rfl rfl (by kernel_rfl) (fun _ _ _ h => h) (Or.inl ⟨by rfl, ?_⟩) ?_ ?_
  rotate_left
  · intro w'
    go_simp
    with_reducible rfl
  rotate_left
  · simp only [Act.put, List.setIfInBounds_toArray, List.set_cons_zero, List.set_cons_succ, i64_w, i32_w]
    rfl
  refine pure_ (i := 3) (N := some 84) (v := ?_) (a' := ?_) #[true, false, true, true, false, false, false, false, false, false, false] rfl rfl (by kernel_rfl) (fun _ _ _ h => h) (Or.inl ⟨by rfl, ?_⟩) ?_ ?_
  rotate_left
  · intro w'
    go_simp
    with_reducible rfl
  rotate_left
  · simp only [Act.put, List.setIfInBounds_toArray, List.set_cons_zero, List.set_cons_succ, i64_w, i32_w]
    rfl
  refine pure_ (i := 4) (N := some 85) (v := ?_) (a' := ?_) #[true, false, true, true, true, false, false, false, false, false, false] rfl rfl (by kernel_rfl) (fun _ _ _ h => h) (Or.inl ⟨by rfl, ?_⟩) ?_ ?_
  rotate_left
  · intro w'
    go_simp
    with_reducible rfl
  rotate_left
  · simp only [Act.put, List.setIfInBounds_toArray, List.set_cons_zero, List.set_cons_succ, i64_w, i32_w]
    rfl
  refine take_ (i := 1) (N := some 82) (v := ?_) (a' := ?_) #[true, true, true, true, true, false, false, false, false, false, false] rfl rfl (by kernel_rfl) (fun _ _ _ h => h) (Or.inl ⟨by rfl, ?_⟩) hHeld ?_ ?_
  rotate_left
  · intro w' hS'
    have k0 : w'.cell? ⟨gh, 0, none⟩ = some (.int .i64 st) := (blk_cell hS'.2 0).trans rfl; have k1 : w'.cell? ⟨gh, 1, none⟩ = some (.int .i64 len) := (blk_cell hS'.2 1).trans rfl; have k2 : w'.cell? ⟨gh, 2, none⟩ = some (.bool ch) := (blk_cell hS'.2 2).trans rfl; have k3 : w'.cell? ⟨gh, 3, none⟩ = some (.bool cl) := (blk_cell hS'.2 3).trans rfl
    go_simp
    with_reducible rfl
  rotate_left
  · simp only [Act.put, List.setIfInBounds_toArray, List.set_cons_zero, List.set_cons_succ, i64_w, i32_w]
    rfl
  refine take_ (i := 5) (N := some 86) (v := ?_) (a' := ?_) #[true, true, true, true, true, true, false, false, false, false, false] rfl rfl (by kernel_rfl) (fun _ _ _ h => h) (Or.inl ⟨by rfl, ?_⟩) hHeld ?_ ?_
  rotate_left
  · intro w' hS'
    have k10 : w'.cell? ⟨g, 10, none⟩ = some (.int .i64 r.most) := (RBlk.cell hS'.1 10).trans rfl
    go_simp
    with_reducible rfl
  rotate_left
  · simp only [Act.put, List.setIfInBounds_toArray, List.set_cons_zero, List.set_cons_succ, i64_w, i32_w]
    rfl
  refine one_ (i := 6) (N := some 87) #[true, true, true, true, true, true, true, false, false, false, false] rfl rfl (by kernel_rfl) (by decide) (fun K hK => ?_)
  refine goes_ Tryz.func18 (by kernel_rfl) rfl #[.agg #[.int .i64 st, .int .i64 len, .bool ch, .bool cl], .int .i64 r.most] (by rfl) rfl rfl (by simp [Act.eval]) ?_
  refine (new_calls st len r.most ch cl _).mono ?_
  rintro x w8 ⟨gb, rfl, hD, hgb, hbe⟩
  refine ⟨_, rfl, ?_⟩
  have HD8 := Aside0.mk hD
  have HBE8 := Aside0.mk hbe
  have HGB := Aside0.mk (show w7.heap.size ≤ gb from hgb)
  have hS8 : RBlk w8 g (.slice none 0 0) vb ({ r with ahead := [], hd := ⟨st, len, ch, cl⟩, whole := true } : R) ∧ w8.heap[gh]? = some (.cells #[.int .i64 st, .int .i64 len, .bool ch, .bool cl] 35 (0, 0)) := ⟨hHeld.1.below hbe, blk_below hHeld.2 hbe⟩
  have HB8 := Aside0.mk hS8.1
  clear hD hbe hgb hHeld
  refine hK.out _ _ hS8 (fun hHeld => ?_)
  clear hK K hHeld hS8
  refine norm_ (a' := ?_) ?_ ?_
  rotate_left
  · show Act.put _ (some 87) _ = _
    simp only [Act.put, List.setIfInBounds_toArray, List.set_cons_zero, List.set_cons_succ, i64_w, i32_w]
    rfl
  refine pure_ (i := 7) (N := some 88) (v := ?_) (a' := ?_) #[true, true, true, true, true, true, true, true, false, false, false] rfl rfl (by kernel_rfl) (fun _ _ _ h => h) (Or.inl ⟨by rfl, ?_⟩) ?_ ?_
  rotate_left
  · intro w'
    go_simp
    with_reducible rfl
  rotate_left
  · simp only [Act.put, List.setIfInBounds_toArray, List.set_cons_zero, List.set_cons_succ, i64_w, i32_w]
    rfl
  refine pure_ (i := 8) (N := some 89) (v := ?_) (a' := ?_) #[true, true, true, true, true, true, true, true, true, false, false] rfl rfl (by kernel_rfl) (fun _ _ _ h => h) (Or.inl ⟨by rfl, ?_⟩) ?_ ?_
  rotate_left
  · intro w'
    go_simp
    with_reducible rfl
  rotate_left
  · simp only [Act.put, List.setIfInBounds_toArray, List.set_cons_zero, List.set_cons_succ, i64_w, i32_w]
    rfl
  refine pure_ (i := 9) (N := some 90) (v := ?_) (a' := ?_) #[true, true, true, true, true, true, true, true, true, true, false] rfl rfl (by kernel_rfl) (fun _ _ _ h => h) (Or.inl ⟨by rfl, ?_⟩) ?_ ?_
  rotate_left
  · intro w'
    go_simp
    with_reducible rfl
  rotate_left
  · simp only [Act.put, List.setIfInBounds_toArray, List.set_cons_zero, List.set_cons_succ, i64_w, i32_w]
    rfl
  refine last_ (i := 10) (N := none) #[true, true, true, true, true, true, true, true, true, true, true] rfl rfl (by kernel_rfl) (by decide) (fun K hK => ?_)
  have hf6 : w8.frozen? ⟨g, 6, none⟩ = false := HB8.out.fz 6
  have hc6 : w8.cell? ⟨g, 6, none⟩ = some vb := (HB8.out.cell 6).trans rfl
  refine skip_ (w1 := w8.setCell ⟨g, 6, none⟩ (.pointer (some ⟨gb, 0, none⟩))) (by rfl) rfl ?_ ?_
  · go_simp
  refine hK.out _ _ ?_
  clear hK K hf6 hc6
  refine done_ (by kernel_rfl) ?_
  obtain ⟨w9, hw9⟩ : ∃ w9, w9 = w8.setCell ⟨g, 6, none⟩ (.pointer (some ⟨gb, 0, none⟩)) := ⟨_, rfl⟩
  have HK78 := Aside0.mk (show Keep (fun _ => False) w7 w8 from (Keep.refl (fun _ => False) w7).drew.step HBE8.out)
  have HK89 := Aside0.mk (show Keep (fun k => k = g) w8 w9 from by rw [hw9]; exact (Keep.refl (fun k => k = g) w8).set (g := g) rfl 6 _)
  have HK29 := Aside0.mk (show Keep (fun k => k = g) w2 w9 from (HK27.out.trans (Keep.none HK78.out) fun i _ h => h).trans HK89.out fun _ _ e => e)
  have HB9 := Aside0.mk (show RBlk w9 g (.slice none 0 0) (.pointer (some ⟨gb, 0, none⟩)) ({ r with ahead := [], hd := ⟨st, len, ch, cl⟩, whole := true } : R) from by rw [hw9]; exact HB8.out.put 6 _ rfl)
  have HGG := Aside0.mk (show gb ≠ g from by have h1 := HGB.out; have h2 := HB7.out.lt; omega)
  obtain ⟨F9, hF9⟩ : ∃ F9 : Nat → Prop, F9 = fun k => k = gb := ⟨_, rfl⟩
  have HD := Aside0.mk (show IsD w9 F9 gb (newD ch len (max r.most 0)) from by rw [hF9]; exact HD8.out.keep HK89.out fun i _ h e => HGG.out (h.symm.trans e))
  have HSB := Aside0.mk (show w.heap.size ≤ gb from by have h1 := HJ.out.K.size; have h2 := HK27.out.size; have h3 := HGB.out; omega)
  have HRW := Aside0.mk (show Own w9 (.slice A1 l1.length n1) l1 from HJ.out.O.keep HK29.out fun i hi e => (HJ.out.A i hi).2.1 e)
  have HR9 := Aside0.mk (show Kd.C (Kd.int .u8) w9 AX l7.length l7 from by have h1 := (own_reads' HRW.out).drop_ nn HN.out.2 HJ.out.n; rw [E7.out, ← HL8.out] at h1; rw [HAX.out]; exact Kd.C_of_reads (d := (0 : Int)) (h1 := fun _ => rfl) h1)
  have HG9 := Aside0.mk (show Glob w9 from Glob.keep HJ.out.G HK29.out fun e => HF0.out (e ▸ HGX.out))
  have HF20 := Aside0.mk (show ¬ F9 0 from by rw [hF9]; intro e; have h1 := HGB.out; have h2 := HB7.out.lt; omega)
  have HFB2 := Aside0.mk (show ∀ ad, AX = some ad → 0 < l7.length → ¬ F9 ad.block from by rw [hF9]; intro ad ha _ e; obtain ⟨a1, h1, h2⟩ := cut_block HAX.out ha; have h3 := row_block HJ.out.O h1; have h4 := HK27.out.size; have h5 := HGB.out; have h6 : ad.block = gb := e; omega)
  have HM2 := Aside0.mk (show (newD ch len (max r.most 0)).line.length + (newD ch len (max r.most 0)).body.length + l7.length ≤ 1099511627776 from by rw [newD_line]; have h1 := E7.out; have h2 := HLM.out; omega)
  have HX2 := Aside0.mk (show l7.length ≤ n1 - nn from by have h1 := E7.out; have h2 := HJ.out.n; omega)
  have HKA := Aside0.mk (show Keep F w w9 from HJ.out.K.trans HK29.out fun i _ e => e ▸ HGX.out)
  have H29 := Aside0.mk (show ∀ k, F9 k → (F k ∨ w.heap.size ≤ k) ∧ k ≠ g from by rw [hF9]; rintro k rfl; exact ⟨.inr HSB.out, HGG.out⟩)
  have HGQ := Aside0.mk (show (fun k => F k ∨ w.heap.size ≤ k) g from .inl HGX.out)
  clear HB HO HA HBV H2 HG HM HX HPA HL1 HVA HRR HJ HK4 HL4 HB4 HB7 HK7 HK27 HL7 HBE8 HD8 HB8 HK78 HK89 HK29 HRW HGH hng hgn
  have HB := HB9
  have HG := HG9
  have H2 := H29
  clear HB9 HG9 H29 hF9
  rw [← hw9]
  clear hw9
  go_upto_region 11 with (fail)
  have HB := Aside0.mk (show RBlk w9 g (.slice none 0 0) (.pointer (some ⟨gb, 0, none⟩)) ({ r with ahead := [], hd := ⟨st, len, ch, cl⟩, whole := true } : R) from HB.out)
  refine start_ (n := 20) (S := fun w' => RBlk w' g (.slice none 0 0) (.pointer (some ⟨gb, 0, none⟩)) ({ r with ahead := [], hd := ⟨st, len, ch, cl⟩, whole := true } : R)) (ds := [19]) #[false, false, false, false, false, false, false, false, false, false, false, false, false, false, false, false, false, false, false, false] (by kernel_rfl) rfl rfl HB.out (fun hHeld => ?_)
  refine pure_ (i := 0) (N := some 91) (v := ?_) (a' := ?_) #[true, false, false, false, false, false, false, false, false, false, false, false, false, false, false, false, false, false, false, false] rfl rfl (by kernel_rfl) (fun _ _ _ h => h) (Or.inl ⟨by rfl, ?_⟩) ?_ ?_
  rotate_left
  · intro w'
    go_simp
    with_reducible rfl
  rotate_left
  · simp only [Act.put, List.setIfInBounds_toArray, List.set_cons_zero, List.set_cons_succ, i64_w, i32_w]
    rfl
  refine pure_ (i := 1) (N := some 92) (v := ?_) (a' := ?_) #[true, true, false, false, false, false, false, false, false, false, false, false, false, false, false, false, false, false, false, false] rfl rfl (by kernel_rfl) (fun _ _ _ h => h) (Or.inl ⟨by rfl, ?_⟩) ?_ ?_
  rotate_left
  · intro w'
    go_simp
    with_reducible rfl
  rotate_left
  · simp only [Act.put, List.setIfInBounds_toArray, List.set_cons_zero, List.set_cons_succ, i64_w, i32_w]
    rfl
  refine pure_ (i := 2) (N := some 93) (v := ?_) (a' := ?_) #[true, true, true, false, false, false, false, false, false, false, false, false, false, false, false, false, false, false, false, false] rfl rfl (by kernel_rfl) (fun _ _ _ h => h) (Or.inl ⟨by rfl, ?_⟩) ?_ ?_
  rotate_left
  · intro w'
    go_simp
    with_reducible rfl
  rotate_left
  · simp only [Act.put, List.setIfInBounds_toArray, List.set_cons_zero, List.set_cons_succ, i64_w, i32_w]
    rfl
  refine pure_ (i := 3) (N := some 94) (v := ?_) (a' := ?_) #[true, true, true, true, false, false, false, false, false, false, false, false, false, false, false, false, false, false, false, false] rfl rfl (by kernel_rfl) (fun _ _ _ h => h) (Or.inl ⟨by rfl, ?_⟩) ?_ ?_
  rotate_left
  · intro w'
    go_simp
    with_reducible rfl
  rotate_left
  · simp only [Act.put, List.setIfInBounds_toArray, List.set_cons_zero, List.set_cons_succ, i64_w, i32_w]
    rfl
  refine pure_ (i := 5) (N := some 96) (v := ?_) (a' := ?_) #[true, true, true, true, false, true, false, false, false, false, false, false, false, false, false, false, false, false, false, false] rfl rfl (by kernel_rfl) (fun _ _ _ h => h) (Or.inl ⟨by rfl, ?_⟩) ?_ ?_
  rotate_left
  · intro w'
    go_simp
    with_reducible rfl
  rotate_left
  · simp only [Act.put, List.setIfInBounds_toArray, List.set_cons_zero, List.set_cons_succ, i64_w, i32_w]
    rfl
  refine pure_ (i := 6) (N := some 97) (v := ?_) (a' := ?_) #[true, true, true, true, false, true, true, false, false, false, false, false, false, false, false, false, false, false, false, false] rfl rfl (by kernel_rfl) (fun _ _ _ h => h) (Or.inl ⟨by rfl, ?_⟩) ?_ ?_
  rotate_left
  · intro w'
    go_simp
    with_reducible rfl
  rotate_left
  · simp only [Act.put, List.setIfInBounds_toArray, List.set_cons_zero, List.set_cons_succ, i64_w, i32_w]
    rfl
  refine pure_ (i := 7) (N := some 98) (v := ?_) (a' := ?_) #[true, true, true, true, false, true, true, true, false, false, false, false, false, false, false, false, false, false, false, false] rfl rfl (by kernel_rfl) (fun _ _ _ h => h) (Or.inl ⟨by rfl, ?_⟩) ?_ ?_
  rotate_left
  · intro w'
    go_simp
    with_reducible rfl
  rotate_left
  · simp only [Act.put, List.setIfInBounds_toArray, List.set_cons_zero, List.set_cons_succ, i64_w, i32_w]
    rfl
  refine pure_ (i := 8) (N := some 99) (v := ?_) (a' := ?_) #[true, true, true, true, false, true, true, true, true, false, false, false, false, false, false, false, false, false, false, false] rfl rfl (by kernel_rfl) (fun _ _ _ h => h) (Or.inl ⟨by rfl, ?_⟩) ?_ ?_
  rotate_left
  · intro w'
    go_simp
    with_reducible rfl
  rotate_left
  · simp only [Act.put, List.setIfInBounds_toArray, List.set_cons_zero, List.set_cons_succ, i64_w, i32_w]
    rfl
  refine pure_ (i := 9) (N := some 100) (v := ?_) (a' := ?_) #[true, true, true, true, false, true, true, true, true, true, false, false, false, false, false, false, false, false, false, false] rfl rfl (by kernel_rfl) (fun _ _ _ h => h) (Or.inl ⟨by rfl, ?_⟩) ?_ ?_
  rotate_left
  · intro w'
    go_simp
    with_reducible rfl
  rotate_left
  · simp only [Act.put, List.setIfInBounds_toArray, List.set_cons_zero, List.set_cons_succ, i64_w, i32_w]
    rfl
  refine pure_ (i := 10) (N := some 101) (v := ?_) (a' := ?_) #[true, true, true, true, false, true, true, true, true, true, true, false, false, false, false, false, false, false, false, false] rfl rfl (by kernel_rfl) (fun _ _ _ h => h) (Or.inl ⟨by rfl, ?_⟩) ?_ ?_
  rotate_left
  · intro w'
    go_simp
    with_reducible rfl
  rotate_left
  · simp only [Act.put, List.setIfInBounds_toArray, List.set_cons_zero, List.set_cons_succ, i64_w, i32_w]
    rfl
  refine pure_ (i := 12) (N := some 103) (v := ?_) (a' := ?_) #[true, true, true, true, false, true, true, true, true, true, true, false, true, false, false, false, false, false, false, false] rfl rfl (by kernel_rfl) (fun _ _ _ h => h) (Or.inl ⟨by rfl, ?_⟩) ?_ ?_
  rotate_left
  · intro w'
    go_simp
    with_reducible rfl
  rotate_left
  · simp only [Act.put, List.setIfInBounds_toArray, List.set_cons_zero, List.set_cons_succ, i64_w, i32_w]
    rfl
  refine take_ (i := 4) (N := some 95) (v := ?_) (a' := ?_) #[true, true, true, true, true, true, true, true, true, true, true, false, true, false, false, false, false, false, false, false] rfl rfl (by kernel_rfl) (fun _ _ _ h => h) (Or.inl ⟨by rfl, ?_⟩) hHeld ?_ ?_
  rotate_left
  · intro w' hS'
    have hc7 : w'.cell? ⟨g, 7, none⟩ = some (.int .i64 ({ r with ahead := [], hd := ⟨st, len, ch, cl⟩, whole := true } : R).rest) := (RBlk.cell hS' 7).trans rfl
    go_simp
    with_reducible rfl
  rotate_left
  · simp only [Act.put, List.setIfInBounds_toArray, List.set_cons_zero, List.set_cons_succ, i64_w, i32_w]
    rfl
  refine take_ (i := 11) (N := some 102) (v := ?_) (a' := ?_) #[true, true, true, true, true, true, true, true, true, true, true, true, true, false, false, false, false, false, false, false] rfl rfl (by kernel_rfl) (fun _ _ _ h => h) (Or.inl ⟨by rfl, ?_⟩) hHeld ?_ ?_
  rotate_left
  · intro w' hS'
    have hc6 : w'.cell? ⟨g, 6, none⟩ = some (.pointer (some ⟨gb, 0, none⟩)) := (RBlk.cell hS' 6).trans rfl
    go_simp
    with_reducible rfl
  rotate_left
  · simp only [Act.put, List.setIfInBounds_toArray, List.set_cons_zero, List.set_cons_succ, i64_w, i32_w]
    rfl
  obtain ⟨wd, hwd⟩ : ∃ wd, wd = (w9).drew := ⟨_, rfl⟩
  have HDd := Aside0.mk (show IsD (w9).drew F9 gb _ from HD.out.keep (Keep.of_below (F := fun _ => False) (below_drew (Below.refl _ _))) fun _ _ _ => id)
  have HKd := Aside0.mk (show Keep (fun _ => False) (w9) (w9).drew from Keep.of_below (below_drew (Below.refl _ _)))
  have HSz := Aside0.mk (show (w9).drew.heap.size = (w9).heap.size from rfl)
  have HGd := Aside0.mk (show Glob (w9).drew from Glob.keep (F := fun _ => False) HG.out HKd.out id)
  have HRd := Aside0.mk (show Kd.C (Kd.int .u8) (w9).drew AX l7.length l7 from HR9.out)
  rw [← hwd] at HDd HKd HSz HGd HRd hHeld ⊢
  have HBd := Aside0.mk hHeld
  clear hwd hHeld
  refine one_ (i := 13) (N := some 104) #[true, true, true, true, true, true, true, true, true, true, true, true, true, true, false, false, false, false, false, false] rfl rfl (by kernel_rfl) (by decide) (fun K hK => ?_)
  refine goes_ Tryz.func19 (by kernel_rfl) rfl #[.pointer (some ⟨gb, 0, none⟩), .slice AX l7.length (n1 - nn)] (by rfl) rfl rfl (by simp [Act.eval]) ?_
  refine (push_calls (xs := l7) HDd.out HF20.out HFB2.out HGd.out HM2.out HX2.out HRd.out HTP.out).mono ?_
  rintro x w3 ⟨rfl, hpu⟩
  refine ⟨_, rfl, ?_⟩
  have HPU := Aside0.mk hpu
  have HB3 := Aside0.mk (show RBlk w3 g (.slice none 0 0) (.pointer (some ⟨gb, 0, none⟩)) ({ r with ahead := [], hd := ⟨st, len, ch, cl⟩, whole := true } : R) from by obtain ⟨_, _, _, hk⟩ := hpu; exact HBd.out.keep hk fun h => (H2.out _ h).2 rfl)
  clear hpu
  refine hK.out _ _ HB3.out (fun hHeld => ?_)
  clear hK K hHeld
  refine norm_ (a' := ?_) ?_ ?_
  rotate_left
  · show Act.put _ (some 104) _ = _
    simp only [Act.put, List.setIfInBounds_toArray, List.set_cons_zero, List.set_cons_succ, i64_w, i32_w]
    rfl
  refine pure_ (i := 14) (N := some 105) (v := ?_) (a' := ?_) #[true, true, true, true, true, true, true, true, true, true, true, true, true, true, true, false, false, false, false, false] rfl rfl (by kernel_rfl) (fun _ _ _ h => h) (Or.inl ⟨by rfl, ?_⟩) ?_ ?_
  rotate_left
  · intro w'
    go_simp
    with_reducible rfl
  rotate_left
  · simp only [Act.put, List.setIfInBounds_toArray, List.set_cons_zero, List.set_cons_succ, i64_w, i32_w]
    rfl
  refine pure_ (i := 15) (N := some 106) (v := ?_) (a' := ?_) #[true, true, true, true, true, true, true, true, true, true, true, true, true, true, true, true, false, false, false, false] rfl rfl (by kernel_rfl) (fun _ _ _ h => h) (Or.inl ⟨by rfl, ?_⟩) ?_ ?_
  rotate_left
  · intro w'
    go_simp
    with_reducible rfl
  rotate_left
  · simp only [Act.put, List.setIfInBounds_toArray, List.set_cons_zero, List.set_cons_succ, i64_w, i32_w]
    rfl
  refine pure_ (i := 16) (N := some 107) (v := ?_) (a' := ?_) #[true, true, true, true, true, true, true, true, true, true, true, true, true, true, true, true, true, false, false, false] rfl rfl (by kernel_rfl) (fun _ _ _ h => h) (Or.inl ⟨by rfl, ?_⟩) ?_ ?_
  rotate_left
  · intro w'
    go_simp
    with_reducible rfl
  rotate_left
  · simp only [Act.put, List.setIfInBounds_toArray, List.set_cons_zero, List.set_cons_succ, i64_w, i32_w]
    rfl
  refine pure_ (i := 17) (N := some 108) (v := ?_) (a' := ?_) #[true, true, true, true, true, true, true, true, true, true, true, true, true, true, true, true, true, true, false, false] rfl rfl (by kernel_rfl) (fun _ _ _ h => h) (Or.inl ⟨by rfl, ?_⟩) ?_ ?_
  rotate_left
  · intro w'
    go_simp
    with_reducible rfl
  rotate_left
  · simp only [Act.put, List.setIfInBounds_toArray, List.set_cons_zero, List.set_cons_succ, i64_w, i32_w]
    rfl
  refine pure_ (i := 18) (N := some 109) (v := ?_) (a' := ?_) #[true, true, true, true, true, true, true, true, true, true, true, true, true, true, true, true, true, true, true, false] rfl rfl (by kernel_rfl) (fun _ _ _ h => h) (Or.inl ⟨by rfl, ?_⟩) ?_ ?_
  rotate_left
  · intro w'
    go_simp
    with_reducible rfl
  rotate_left
  · simp only [Act.put, List.setIfInBounds_toArray, List.set_cons_zero, List.set_cons_succ, i64_w, i32_w]
    rfl
  refine last_ (i := 19) (N := none) #[true, true, true, true, true, true, true, true, true, true, true, true, true, true, true, true, true, true, true, true] rfl rfl (by kernel_rfl) (by decide) (fun K hK => ?_)
  have hf7 : w3.frozen? ⟨g, 7, none⟩ = false := HB3.out.fz 7
  have hc7 : w3.cell? ⟨g, 7, none⟩ = some (.int .i64 ({ r with ahead := [], hd := ⟨st, len, ch, cl⟩, whole := true } : R).rest) := (HB3.out.cell 7).trans rfl
  refine skip_ (w1 := w3.setCell ⟨g, 7, none⟩ (.int .i64 (wrap64 (({ r with ahead := [], hd := ⟨st, len, ch, cl⟩, whole := true } : R).rest + wrap64 ((l7.length : Int) - (k1 : Int)))))) (by rfl) rfl ?_ ?_
  · go_simp
  refine hK.out _ _ ?_
  clear hK K hf7 hc7
  refine done_ (by kernel_rfl) ?_
  have HB4 := Aside0.mk (show RBlk (w3.setCell ⟨g, 7, none⟩ (.int .i64 (wrap64 (({ r with ahead := [], hd := ⟨st, len, ch, cl⟩, whole := true } : R).rest + wrap64 ((l7.length : Int) - (k1 : Int)))))) g (.slice none 0 0) (.pointer (some ⟨gb, 0, none⟩)) { ({ r with ahead := [], hd := ⟨st, len, ch, cl⟩, whole := true } : R) with body := some d1, rest := wr (({ r with ahead := [], hd := ⟨st, len, ch, cl⟩, whole := true } : R).rest + wr ((l7.length : Int) - (k1 : Int))) } from HB3.out.put 7 _ (by rw [wr_eq, wr_eq]; rfl))
  have HK4 := Aside0.mk ((Keep.refl (fun k => k = g) w3).set (g := g) rfl 7 (.int .i64 (wrap64 (({ r with ahead := [], hd := ⟨st, len, ch, cl⟩, whole := true } : R).rest + wrap64 ((l7.length : Int) - (k1 : Int))))))
  have HD4 := Aside0.mk (show ∃ F', IsD (w3.setCell ⟨g, 7, none⟩ (.int .i64 (wrap64 (({ r with ahead := [], hd := ⟨st, len, ch, cl⟩, whole := true } : R).rest + wrap64 ((l7.length : Int) - (k1 : Int)))))) F' gb d1 from by obtain ⟨F', hD', hF', _⟩ := HPU.out; exact ⟨F', hD'.keep HK4.out fun i _ hf e => by subst e; rcases hF' _ hf with h | h; exact (H2.out _ h).2 rfl; have h1 := HSz.out; have h2 := HB.out.lt; omega⟩)
  clear HB3 HBd HDd HRd
  obtain ⟨w4, hw4⟩ : ∃ w4, w4 = w3.setCell ⟨g, 7, none⟩ (.int .i64 (wrap64 (({ r with ahead := [], hd := ⟨st, len, ch, cl⟩, whole := true } : R).rest + wrap64 ((l7.length : Int) - (k1 : Int))))) := ⟨_, rfl⟩
  rw [← hw4] at HB4 HK4 HD4 ⊢
  clear hw4
  have c6 : w4.cell? ⟨g, 6, none⟩ = some (.pointer (some ⟨gb, 0, none⟩)) := (HB4.out.cell 6).trans rfl
  by_cases hde : d1.e = 0
  · have HDE := Aside0.mk hde
    have HTR1 := Aside0.mk (show r' = { ({ r with ahead := [], hd := ⟨st, len, ch, cl⟩, whole := true } : R) with body := some d1, rest := wr (({ r with ahead := [], hd := ⟨st, len, ch, cl⟩, whole := true } : R).rest + wr ((l7.length : Int) - (k1 : Int))) } from HTR.out.trans (if_pos hde))
    have c9 : w4.cell? ⟨g, 9, none⟩ = some .nilIface := (HB4.out.cell 9).trans (by show some (errV r.e) = _; rw [HE0.out]; rfl)
    clear hde
    go_wp2_with (first | (go_at_call 20; (with_reducible refine (err_calls HD4.out.choose_spec).mono ?_); rintro e w5 ⟨rfl, rfl⟩) | (go_at_call 17; (with_reducible refine (note_0' w4 g d1.e HDE.out).mono ?_); rintro e w5 ⟨rfl, rfl⟩))
    go_end0
    exact ⟨rfl, RPushed.trans HKA.out (fun _ h => h) (feed_end (rr := ({ r with ahead := [], hd := ⟨st, len, ch, cl⟩, whole := true } : R)) (own_empty _) (fun k hk => by simp [Value.ownBlock] at hk) HGQ.out HB.out.lt H2.out HKd.out HSz.out HPU.out HK4.out (by rw [HTR1.out]; exact HB4.out) (by rw [HTR1.out]; exact .inl ⟨rfl, rfl⟩) (by rw [HTR1.out]))⟩
  · have HDE := Aside0.mk hde
    have HTR1 := Aside0.mk (show r' = { ({ r with ahead := [], hd := ⟨st, len, ch, cl⟩, whole := true } : R) with body := some d1, rest := 0, e := d1.e, ahead := [] } from HTR.out.trans (if_neg hde))
    clear hde
    go_wp2_with (first | (go_at_call 20; (with_reducible refine (err_calls HD4.out.choose_spec).mono ?_); rintro e w5 ⟨rfl, rfl⟩) | (go_at_call 17; (with_reducible refine (note_1 HB4.out d1.e HDE.out).mono ?_); rintro e w5 ⟨rfl, hB5, hK5⟩; have HB5 := Aside0.mk (show RBlk w5 g (.slice none 0 0) (.pointer (some ⟨gb, 0, none⟩)) { ({ r with ahead := [], hd := ⟨st, len, ch, cl⟩, whole := true } : R) with body := some d1, rest := wr (({ r with ahead := [], hd := ⟨st, len, ch, cl⟩, whole := true } : R).rest + wr ((l7.length : Int) - (k1 : Int))), e := d1.e, ahead := [] } from by have h := hB5; unfold R.note at h; rw [if_neg HDE.out] at h; exact h); have HK5 := Aside0.mk hK5; have c9 : w5.cell? ⟨g, 9, none⟩ = some (.iface 29 (.int .i64 d1.e)) := (HB5.out.cell 9).trans (by show some (errV d1.e) = _; rw [errV1 HDE.out]); have c7 : w5.cell? ⟨g, 7, none⟩ = some (.int .i64 (wr (({ r with ahead := [], hd := ⟨st, len, ch, cl⟩, whole := true } : R).rest + wr ((l7.length : Int) - (k1 : Int))))) := (HB5.out.cell 7).trans rfl; have f7 := HB5.out.fz 7; clear hB5 hK5))
    go_end0
    exact ⟨rfl, RPushed.trans HKA.out (fun _ h => h) (feed_end (rr := ({ r with ahead := [], hd := ⟨st, len, ch, cl⟩, whole := true } : R)) (own_empty _) (fun k hk => by simp [Value.ownBlock] at hk) HGQ.out HB.out.lt H2.out HKd.out HSz.out HPU.out ((HK4.out.trans HK5.out fun _ _ e => e).set (g := g) rfl 7 _) (by rw [HTR1.out]; exact HB5.out.put 7 _ rfl) (by rw [HTR1.out]; exact .inr ⟨rfl, rfl⟩) (by rw [HTR1.out]))⟩
end Go.Proofs.YtfpcoanlkfgagaaGreatDoor.RdrP
