/- The reader's Push, as one; its End. -/
import Derived.Test.YtfpcoanlkfgagaaGreatDoorRdrP
import Derived.Laws.EntriesVeiled
import Derived.Below
import Derived.Deep.Draws
import Derived.Deep.AppendLies
import Derived.Maps.AppendAt
import Derived.OwnWalk
import Derived.Laws.BytesArg
import Derived.Laws.MakeOwn
import Derived.Laws.OwnMore
import Derived.Deep.OwnRows
import Derived.Tactics
import Derived.Lib.ConvBytes
import Derived.Laws.Slices
import Derived.WalkKit
import Derived.KernelRfl
import Derived.RowKit3
import Derived.Deep.LoopGhost
import Derived.Deep.QuietTactic
import Derived.BigQuiet
import Derived.WideLaws
import Derived.Deep.DeepCutAuto
import Derived.Deep.CutBlock
import Derived.Deep.RegionHeld3
import Derived.Laws.Rows
import Derived.Lib.AppendStr
import Derived.ArgAppend
import Derived.Laws.IdiomCopy
import Derived.OrdersHeld
import Derived.Laws.BitsLemmas
import Derived.RowKit
import Derived.WalkMore
import Derived.Test.YtfpcoanlkfgagaaGreatDoorWWords
import Derived.Test.YtfpcoanlkfgagaaGreatDoorWLast
import Derived.Test.YtfpcoanlkfgagaaGreatDoorWMore
import Derived.Test.YtfpcoanlkfgagaaGreatDoorWTab
namespace Go.Proofs.YtfpcoanlkfgagaaGreatDoor.RdrQ
open Go.RowKit Go.Proofs.YtfpcoanlkfgagaaGreatDoorW.PrintWords Go.Proofs.YtfpcoanlkfgagaaGreatDoorW.PrintLast Go.Proofs.YtfpcoanlkfgagaaGreatDoor.Ext Go.Proofs.YtfpcoanlkfgagaaGreatDoor.Dec Go.Proofs.YtfpcoanlkfgagaaGreatDoor.DecW Go.Proofs.YtfpcoanlkfgagaaGreatDoor.DecA Go.Proofs.YtfpcoanlkfgagaaGreatDoor.DecB Go.Proofs.YtfpcoanlkfgagaaGreatDoor.DecN Go.Proofs.YtfpcoanlkfgagaaGreatDoor.DecS Go.Proofs.YtfpcoanlkfgagaaGreatDoor.DecR Go.Proofs.YtfpcoanlkfgagaaGreatDoor.DecP Go.Proofs.YtfpcoanlkfgagaaGreatDoor.DecQ Go.Proofs.YtfpcoanlkfgagaaGreatDoor.DecE Go.Proofs.YtfpcoanlkfgagaaGreatDoor.Is Go.Proofs.YtfpcoanlkfgagaaGreatDoor.Rdr Go.Proofs.YtfpcoanlkfgagaaGreatDoor.RdrP
set_option linter.unusedVariables false
set_option linter.unusedSimpArgs false
theorem RPushed.refl {w : World} {F : Nat → Prop} {g : Nat} {r : R} (h : IsR w F g r) : RPushed w w F g r := ⟨F, h, fun _ h => .inl h, Keep.refl _ _⟩
theorem pushR_calls {P : List Int → Option Ans} (hP : ∀ l t, P l = some t → ∃ k, PA.head_Parse.f k l = some t) {w : World} {F : Nat → Prop} {g c : Nat} {A : Option Addr} {r r' : R} {bs : List Int} (h : IsR w F g r) (hF0 : ¬ F 0) (hFb : ∀ ad, A = some ad → 0 < bs.length → ¬ F ad.block) (hG : Glob w)
    (hm : sizeR r + bs.length ≤ 1099511627776) (hx : bs.length ≤ c) (hr : Kd.C (Kd.int .u8) w A bs.length bs) (hp : pushR P r bs = some r') :
    Calls Tryz.prog 7 #[.pointer (some ⟨g, 0, none⟩), .slice A bs.length c] w fun x w' => x = .returned (.tuple #[]) ∧ RPushed w w' F g r' := by
  unfold pushR at hp
  by_cases h1 : r.e ≠ 0 ∨ r.ended = true
  · rw [if_pos h1] at hp
    obtain rfl := Option.some.inj hp
    refine (push_over h h1 A bs.length c).mono ?_
    rintro x w' ⟨hx, rfl⟩
    exact ⟨hx, RPushed.refl h⟩
  rw [if_neg h1] at hp
  have he : r.e = 0 := Classical.byContradiction fun h => h1 (.inl h)
  have hn : r.ended = false := by cases hh : r.ended with | false => rfl | true => exact absurd (.inr hh) h1
  unfold sizeR at hm
  by_cases hw : r.whole = true
  · rw [if_pos hw] at hp
    cases hb : r.body with
    | none => rw [hb] at hp; cases hp
    | some d =>
      rw [hb] at hp hm
      obtain ⟨⟨d1, k1⟩, h2, h3⟩ := Option.map_eq_some_iff.1 hp
      exact push_fed h hF0 hFb hG hx hr he hn hw hb (by simp only at hm; omega) h2 h3.symm
  rw [if_neg hw] at hp
  have hw : r.whole = false := by simpa using hw
  obtain ⟨⟨st, len, ch, cl, n, e⟩, h2, h3⟩ := Option.bind_eq_some_iff.1 hp
  obtain ⟨k, hk⟩ := hP _ _ h2
  simp only at h3
  have hm2 : r.ahead.length + bs.length ≤ 1099511627776 := by omega
  by_cases h0 : n = 0
  · rw [if_pos h0] at h3
    exact push_part h hF0 hG hx hr he hn hw hm2 hk h0 (Option.some.inj h3).symm
  rw [if_neg h0] at h3
  by_cases h4 : e = 0 ∧ 0 ≤ n ∧ n ≤ (r.ahead ++ bs).length
  · rw [if_pos h4] at h3
    obtain ⟨rfl, h5, h6⟩ := h4
    obtain ⟨nn, rfl⟩ := Int.eq_ofNat_of_zero_le h5
    have h7 : 1 ≤ nn := by omega
    have h8 : nn ≤ (r.ahead ++ bs).length := by omega
    by_cases hs : st = 200
    · rw [if_pos hs] at h3
      obtain ⟨⟨d1, k1⟩, h9, h10⟩ := Option.map_eq_some_iff.1 h3
      exact push_head h hF0 hG hx hr he hn hw hm2 hk h7 h8 hs h9 h10.symm
    · rw [if_neg hs] at h3
      exact push_code h hF0 hG hx hr he hn hw hm2 hk h7 h8 hs (Option.some.inj h3).symm
  · rw [if_neg h4] at h3; cases h3
/-- What it is when it has been told that the connection ended. -/
def endR (r : R) : R :=
  if r.e ≠ 0 ∨ r.ended = true then r
  else if r.whole = false then { r with ended := true, e := 15, ahead := [] }
  else match r.body with
    | none => r
    | some d => if (endD d).e = 0 then { r with ended := true, body := some (endD d) } else { r with ended := true, body := some (endD d), e := (endD d).e, ahead := [] }

set_option maxHeartbeats 8000000 in
set_option maxRecDepth 100000 in
theorem end_over {w : World} {F : Nat → Prop} {g : Nat} {r : R} (h : IsR w F g r) (hd : r.e ≠ 0 ∨ r.ended = true) :
    Calls Tryz.prog 8 #[.pointer (some ⟨g, 0, none⟩)] w fun x w' => x = .returned (.tuple #[]) ∧ w = w' := by
  obtain ⟨va, vb, F2, hB, hO, hA, hg, hb, h2⟩ := h
  have c9 : w.cell? ⟨g, 9, none⟩ = some (errV r.e) := (hB.cell 9).trans rfl
  have c8 : w.cell? ⟨g, 8, none⟩ = some (.bool r.ended) := (hB.cell 8).trans rfl
  clear hB hO hA hg hb h2
  by_cases he : r.e = 0
  · rw [hd.resolve_left (fun h => h he)] at c8
    rw [he, errV0] at c9
    clear he hd
    go_enter Tryz.func8, Tryz.ntmps8
    go_wp2
    (try simp only [Exit.inBlock, Exit.then]); refine bodyPost_ret (results_none rfl _ _ _) rfl ?_
    exact ⟨rfl, rfl⟩
  · rw [errV1 he] at c9
    clear he hd
    go_enter Tryz.func8, Tryz.ntmps8
    go_wp2
    (try simp only [Exit.inBlock, Exit.then]); refine bodyPost_ret (results_none rfl _ _ _) rfl ?_
    exact ⟨rfl, rfl⟩
set_option maxHeartbeats 8000000 in
set_option maxRecDepth 100000 in
theorem end_part {w : World} {F : Nat → Prop} {g : Nat} {r : R} (h : IsR w F g r) (he : r.e = 0) (hn : r.ended = false) (hw : r.whole = false) :
    Calls Tryz.prog 8 #[.pointer (some ⟨g, 0, none⟩)] w fun x w' => x = .returned (.tuple #[]) ∧ RPushed w w' F g { r with ended := true, e := 15, ahead := [] } := by
  obtain ⟨va, vb, F2, hB, hO, hA, hg, hb, h2⟩ := h
  have c9 : w.cell? ⟨g, 9, none⟩ = some .nilIface := (hB.cell 9).trans (by show some (errV r.e) = _; rw [he]; rfl)
  have c8 : w.cell? ⟨g, 8, none⟩ = some (.bool false) := (hB.cell 8).trans (by show some (Value.bool r.ended) = _; rw [hn])
  have c5 : w.cell? ⟨g, 5, none⟩ = some (.bool false) := (hB.cell 5).trans (by show some (Value.bool r.whole) = _; rw [hw])
  have f8 := hB.fz 8
  have HB := Aside0.mk hB
  have HB1 := Aside0.mk (show RBlk (w.setCell ⟨g, 8, none⟩ (.bool true)) g va vb { r with ended := true } from hB.put 8 _ rfl)
  have HK1 := Aside0.mk ((Keep.refl (fun k => k = g) w).set (g := g) rfl 8 (.bool true))
  have HFIN := Aside0.mk (fun w6 (hk : Keep (fun k => k = g) w w6) (hB6 : RBlk w6 g (.slice none 0 0) vb { r with ended := true, e := 15, ahead := [] }) => own_end hO hA hg hb h2 hk hB6 (.inr ⟨rfl, rfl⟩) rfl)
  clear hB hO hA hg hb h2 he hn hw
  have e15 : (15 : Int) ≠ 0 := by decide
  go_enter Tryz.func8, Tryz.ntmps8
  go_wp2_with (first | (go_at_call 17; (with_reducible refine (note_1 HB1.out 15 e15).mono ?_); rintro x w8 ⟨rfl, hB8, hK8⟩; have HB8 := Aside0.mk hB8; have HK8 := Aside0.mk hK8; clear hB8 hK8))
  (try simp only [Exit.inBlock, Exit.then]); refine bodyPost_ret (results_none rfl _ _ _) rfl ?_
  exact ⟨rfl, HFIN.out _ (HK1.out.trans HK8.out fun _ _ e => e) HB8.out⟩

theorem end_end {w w3 w6 : World} {F F2 : Nat → Prop} {g gb : Nat} {va va' : Value} {r r' : R} {d' : D} (hO : Own w va r.ahead) (hA : ∀ k, va.ownBlock = some k → F k ∧ k ≠ g ∧ ¬ F2 k) (hg : F g) (h2 : ∀ k, F2 k → F k ∧ k ≠ g)
    (hD : IsD w3 F2 gb d') (hk0 : Keep (fun k => k = g ∨ F2 k) w w3) (hk : Keep (fun k => k = g) w3 w6) (hB : RBlk w6 g va' (.pointer (some ⟨gb, 0, none⟩)) r') (hva : (va' = va ∧ r'.ahead = r.ahead) ∨ (va' = .slice none 0 0 ∧ r'.ahead = [])) (hb : r'.body = some d') : RPushed w w6 F g r' := by
  have hKva : Keep (fun k => k = g ∨ F2 k) w w6 := hk0.trans hk fun i _ h => .inl h
  refine ⟨F, ⟨va', .pointer (some ⟨gb, 0, none⟩), F2, hB, ?_, ?_, hg, by rw [hb]; exact ⟨gb, rfl, hD.keep hk fun i _ hf e => (h2 i hf).2 e⟩, h2⟩, fun i h => .inl h, hKva.mono fun i _ h => by rcases h with h | h; exact h ▸ hg; exact (h2 i h).1⟩
  · rcases hva with ⟨rfl, e⟩ | ⟨rfl, e⟩
    · rw [e]
      exact hO.keep hKva fun i hi hc => by
        rcases hc with rfl | hc
        · exact (hA _ hi).2.1 rfl
        · exact (hA _ hi).2.2 hc
    · rw [e]; exact own_empty _
  · rcases hva with ⟨rfl, e⟩ | ⟨rfl, e⟩
    · exact hA
    · intro k hk2; simp [Value.ownBlock] at hk2
set_option maxHeartbeats 8000000 in
set_option maxRecDepth 100000 in
theorem end_body0 {w : World} {F : Nat → Prop} {g : Nat} {r : R} {d : D} (h : IsR w F g r) (he : r.e = 0) (hn : r.ended = false) (hw : r.whole = true) (hbd : r.body = some d) (hz : (endD d).e = 0) :
    Calls Tryz.prog 8 #[.pointer (some ⟨g, 0, none⟩)] w fun x w' => x = .returned (.tuple #[]) ∧ RPushed w w' F g { r with ended := true, body := some (endD d) } := by
  obtain ⟨va, vb, F2, hB, hO, hA, hg, hb, h2⟩ := h
  rw [hbd] at hb
  obtain ⟨gb, rfl, hD⟩ := hb
  have c9 : w.cell? ⟨g, 9, none⟩ = some .nilIface := (hB.cell 9).trans (by show some (errV r.e) = _; rw [he]; rfl)
  have c8 : w.cell? ⟨g, 8, none⟩ = some (.bool false) := (hB.cell 8).trans (by show some (Value.bool r.ended) = _; rw [hn])
  have c5 : w.cell? ⟨g, 5, none⟩ = some (.bool true) := (hB.cell 5).trans (by show some (Value.bool r.whole) = _; rw [hw])
  have c6 : w.cell? ⟨g, 6, none⟩ = some (.pointer (some ⟨gb, 0, none⟩)) := (hB.cell 6).trans rfl
  have f8 := hB.fz 8
  have HK1 := Aside0.mk ((Keep.refl (fun k => k = g) w).set (g := g) rfl 8 (.bool true))
  have HB1 := Aside0.mk (show RBlk (w.setCell ⟨g, 8, none⟩ (.bool true)) g va (.pointer (some ⟨gb, 0, none⟩)) { r with ended := true } from hB.put 8 _ rfl)
  have HD1 := Aside0.mk (show IsD (w.setCell ⟨g, 8, none⟩ (.bool true)) F2 gb d from hD.keep HK1.out fun i _ hf e => (h2 i hf).2 e)
  have HN := Aside0.mk (show ¬ F2 g from fun h => (h2 g h).2 rfl)
  have HZ := Aside0.mk hz
  have HE0 := Aside0.mk he
  have HFIN := Aside0.mk (fun w3 w6 (r' : R) (va' : Value) (hD' : IsD w3 F2 gb (endD d)) (hk0 : Keep (fun k => k = g ∨ F2 k) w w3) (hk : Keep (fun k => k = g) w3 w6) (hB6 : RBlk w6 g va' (.pointer (some ⟨gb, 0, none⟩)) r') (hva : (va' = va ∧ r'.ahead = r.ahead) ∨ (va' = .slice none 0 0 ∧ r'.ahead = [])) (hb6 : r'.body = some (endD d)) => end_end hO hA hg h2 hD' hk0 hk hB6 hva hb6)
  clear hB hO hA hg hD h2 he hn hw hz hbd
  go_enter Tryz.func8, Tryz.ntmps8
  go_wp2_with (first | (go_at_call 21; (with_reducible refine (end_calls HD1.out).mono ?_); rintro x w3 ⟨rfl, hD3, hK3⟩; have HD3 := Aside0.mk hD3; have HK3 := Aside0.mk hK3; have HB3 := Aside0.mk (HB1.out.keep hK3 HN.out); have d6 : w3.cell? ⟨g, 6, none⟩ = some (.pointer (some ⟨gb, 0, none⟩)) := (HB3.out.cell 6).trans rfl; clear hD3 hK3) | (go_at_call 20; (with_reducible refine (err_calls HD3.out).mono ?_); rintro x w5 ⟨rfl, rfl⟩) | (go_at_call 17; (with_reducible refine (note_0' w3 g (endD d).e HZ.out).mono ?_); rintro x w8 ⟨rfl, rfl⟩))
  go_end0
  exact ⟨rfl, HFIN.out _ _ _ _ HD3.out ((HK1.out.mono fun _ _ e => .inl e).trans HK3.out fun _ _ h => .inr h) (Keep.refl _ _) (show RBlk w3 g va (.pointer (some ⟨gb, 0, none⟩)) { r with ended := true, body := some (endD d) } from HB3.out) (.inl ⟨rfl, rfl⟩) rfl⟩

set_option maxHeartbeats 8000000 in
set_option maxRecDepth 100000 in
theorem end_body1 {w : World} {F : Nat → Prop} {g : Nat} {r : R} {d : D} (h : IsR w F g r) (he : r.e = 0) (hn : r.ended = false) (hw : r.whole = true) (hbd : r.body = some d) (hz : (endD d).e ≠ 0) :
    Calls Tryz.prog 8 #[.pointer (some ⟨g, 0, none⟩)] w fun x w' => x = .returned (.tuple #[]) ∧ RPushed w w' F g { r with ended := true, body := some (endD d), e := (endD d).e, ahead := [] } := by
  obtain ⟨va, vb, F2, hB, hO, hA, hg, hb, h2⟩ := h
  rw [hbd] at hb
  obtain ⟨gb, rfl, hD⟩ := hb
  have c9 : w.cell? ⟨g, 9, none⟩ = some .nilIface := (hB.cell 9).trans (by show some (errV r.e) = _; rw [he]; rfl)
  have c8 : w.cell? ⟨g, 8, none⟩ = some (.bool false) := (hB.cell 8).trans (by show some (Value.bool r.ended) = _; rw [hn])
  have c5 : w.cell? ⟨g, 5, none⟩ = some (.bool true) := (hB.cell 5).trans (by show some (Value.bool r.whole) = _; rw [hw])
  have c6 : w.cell? ⟨g, 6, none⟩ = some (.pointer (some ⟨gb, 0, none⟩)) := (hB.cell 6).trans rfl
  have f8 := hB.fz 8
  have HK1 := Aside0.mk ((Keep.refl (fun k => k = g) w).set (g := g) rfl 8 (.bool true))
  have HB1 := Aside0.mk (show RBlk (w.setCell ⟨g, 8, none⟩ (.bool true)) g va (.pointer (some ⟨gb, 0, none⟩)) { r with ended := true } from hB.put 8 _ rfl)
  have HD1 := Aside0.mk (show IsD (w.setCell ⟨g, 8, none⟩ (.bool true)) F2 gb d from hD.keep HK1.out fun i _ hf e => (h2 i hf).2 e)
  have HN := Aside0.mk (show ¬ F2 g from fun h => (h2 g h).2 rfl)
  have HZ := Aside0.mk hz
  have HE0 := Aside0.mk he
  have HFIN := Aside0.mk (fun w3 w6 (r' : R) (va' : Value) (hD' : IsD w3 F2 gb (endD d)) (hk0 : Keep (fun k => k = g ∨ F2 k) w w3) (hk : Keep (fun k => k = g) w3 w6) (hB6 : RBlk w6 g va' (.pointer (some ⟨gb, 0, none⟩)) r') (hva : (va' = va ∧ r'.ahead = r.ahead) ∨ (va' = .slice none 0 0 ∧ r'.ahead = [])) (hb6 : r'.body = some (endD d)) => end_end hO hA hg h2 hD' hk0 hk hB6 hva hb6)
  clear hB hO hA hg hD h2 he hn hw hz hbd
  go_enter Tryz.func8, Tryz.ntmps8
  go_wp2_with (first | (go_at_call 21; (with_reducible refine (end_calls HD1.out).mono ?_); rintro x w3 ⟨rfl, hD3, hK3⟩; have HD3 := Aside0.mk hD3; have HK3 := Aside0.mk hK3; have HB3 := Aside0.mk (HB1.out.keep hK3 HN.out); have d6 : w3.cell? ⟨g, 6, none⟩ = some (.pointer (some ⟨gb, 0, none⟩)) := (HB3.out.cell 6).trans rfl; clear hD3 hK3) | (go_at_call 20; (with_reducible refine (err_calls HD3.out).mono ?_); rintro x w5 ⟨rfl, rfl⟩) | (go_at_call 17; (with_reducible refine (note_1 HB3.out (endD d).e HZ.out).mono ?_); rintro x w8 ⟨rfl, hB8, hK8⟩; have HB8 := Aside0.mk hB8; have HK8 := Aside0.mk hK8; clear hB8 hK8))
  go_end0
  exact ⟨rfl, HFIN.out _ _ _ _ HD3.out ((HK1.out.mono fun _ _ e => .inl e).trans HK3.out fun _ _ h => .inr h) HK8.out (show RBlk w8 g (.slice none 0 0) (.pointer (some ⟨gb, 0, none⟩)) { r with ended := true, body := some (endD d), e := (endD d).e, ahead := [] } from by have h := HB8.out; unfold R.note at h; rw [if_neg HZ.out] at h; exact h) (.inr ⟨rfl, rfl⟩) rfl⟩

theorem endR_calls {w : World} {F : Nat → Prop} {g : Nat} {r : R} (h : IsR w F g r) (hbw : r.e = 0 → r.ended = false → r.whole = true → r.body ≠ none) :
    Calls Tryz.prog 8 #[.pointer (some ⟨g, 0, none⟩)] w fun x w' => x = .returned (.tuple #[]) ∧ RPushed w w' F g (endR r) := by
  unfold endR
  by_cases h1 : r.e ≠ 0 ∨ r.ended = true
  · rw [if_pos h1]
    refine (end_over h h1).mono ?_
    rintro x w' ⟨hx, rfl⟩
    exact ⟨hx, RPushed.refl h⟩
  rw [if_neg h1]
  have he : r.e = 0 := Classical.byContradiction fun h => h1 (.inl h)
  have hn : r.ended = false := by cases hh : r.ended with | false => rfl | true => exact absurd (.inr hh) h1
  by_cases hw : r.whole = false
  · rw [if_pos hw]; exact end_part h he hn hw
  rw [if_neg hw]
  have hw : r.whole = true := by simpa using hw
  cases hb : r.body with
  | none => exact absurd hb (hbw he hn hw)
  | some d =>
    show Calls _ _ _ _ fun x w' => _ ∧ RPushed w w' F g (if (endD d).e = 0 then { r with ended := true, body := some (endD d) } else { r with ended := true, body := some (endD d), e := (endD d).e, ahead := [] })
    by_cases hz : (endD d).e = 0
    · rw [if_pos hz]; exact end_body0 h he hn hw hb hz
    · rw [if_neg hz]; exact end_body1 h he hn hw hb hz

end Go.Proofs.YtfpcoanlkfgagaaGreatDoor.RdrQ
namespace Go.Proofs.YtfpcoanlkfgagaaGreatDoor.RdrY
open Go.RowKit Go.Proofs.YtfpcoanlkfgagaaGreatDoorW.PrintWords Go.Proofs.YtfpcoanlkfgagaaGreatDoorW.PrintLast Go.Proofs.YtfpcoanlkfgagaaGreatDoor.Ext Go.Proofs.YtfpcoanlkfgagaaGreatDoor.Dec Go.Proofs.YtfpcoanlkfgagaaGreatDoor.DecW Go.Proofs.YtfpcoanlkfgagaaGreatDoor.DecA Go.Proofs.YtfpcoanlkfgagaaGreatDoor.DecB Go.Proofs.YtfpcoanlkfgagaaGreatDoor.DecN Go.Proofs.YtfpcoanlkfgagaaGreatDoor.DecS Go.Proofs.YtfpcoanlkfgagaaGreatDoor.DecR Go.Proofs.YtfpcoanlkfgagaaGreatDoor.DecP Go.Proofs.YtfpcoanlkfgagaaGreatDoor.DecQ Go.Proofs.YtfpcoanlkfgagaaGreatDoor.DecE Go.Proofs.YtfpcoanlkfgagaaGreatDoor.Is Go.Proofs.YtfpcoanlkfgagaaGreatDoor.Rdr Go.Proofs.YtfpcoanlkfgagaaGreatDoor.RdrP Go.Proofs.YtfpcoanlkfgagaaGreatDoor.RdrW Go.Proofs.YtfpcoanlkfgagaaGreatDoor.RdrQ
set_option linter.unusedVariables false
set_option linter.unusedSimpArgs false
/-- Status, body, may it be used again, an error. -/
def replyA (r : R) : Int × List Int × Bool × Int :=
  if r.e ≠ 0 then (0, [], false, r.e)
  else match r.body with
    | none => (0, [], false, 7)
    | some d => if d.done = true then (r.hd.st, d.body, (if r.hd.cl = true then false else if r.rest = 0 then !r.ended else false), 0) else (0, [], false, 7)
def RepPost (w w' : World) (a : Int × List Int × Bool × Int) (x : Ending) : Prop :=
  ∃ v, x = .returned (.tuple #[.agg #[.int .i64 a.1, v, .bool a.2.2.1], .int .i64 a.2.2.2]) ∧ Own w' v a.2.1 ∧ (∀ k, v.ownBlock = some k → w.heap.size ≤ k) ∧ Below w.heap.size w w'
theorem cells3 {w w2 : World} {g : Nat} {a b c x y z : Value} {t : TypeId} (h : w.heap[g]? = some (.cells #[a, b, c] t (0, 0))) : (((w.setCell ⟨g, 0, none⟩ x).setCell ⟨g, 1, none⟩ y).setCell ⟨g, 2, none⟩ z).heap[g]? = some (.cells #[x, y, z] t (0, 0)) :=
  blk_put (blk_put (blk_put h 0 x rfl) 1 y rfl) 2 z rfl

set_option maxHeartbeats 8000000 in
set_option maxRecDepth 100000 in
theorem reply_nil_ (w : World) :
    Calls Tryz.prog 9 #[.pointer none] w fun x w' => RepPost w w' (0, [], false, 1) x := by

  go_enter Tryz.func9, Tryz.ntmps9
  go_wp2_with (first | (go_at_call 13; (with_reducible refine (wrong_nil_ _).mono ?_); rintro x w1 ⟨rfl, rfl⟩))
  refine bodyPost_ret (results_ct rfl _ _ w.heap.size 28 #[.int .i64 0, .slice none 0 0, .bool false] (0, 0) _ rfl (blk_new w _) Tryz.underlying28 rfl (by kernel_rfl)) rfl ?_
  exact ⟨_, rfl, own_empty _, fun k hk => by simp [Value.ownBlock] at hk, below_alloc (Below.refl _ _) _⟩

set_option maxHeartbeats 8000000 in
set_option maxRecDepth 100000 in
theorem reply_err {w : World} {F : Nat → Prop} {g : Nat} {r : R} (h : IsR w F g r) (he : 0 ≤ r.e ∧ r.e ≤ 26) (hz : r.e ≠ 0) :
    Calls Tryz.prog 9 #[.pointer (some ⟨g, 0, none⟩)] w fun x w' => RepPost w w' (0, [], false, r.e) x := by
  have HR := Aside0.mk h
  have HE := Aside0.mk he
  have y1 : (r.e != 0) = true := bne_iff_ne.2 hz
  clear h he hz
  go_enter Tryz.func9, Tryz.ntmps9
  go_wp2_with (first | (go_at_call 13; (with_reducible refine (wrongR_calls (HR.out.below (below_alloc (Below.refl _ _) _)) HE.out).mono ?_); rintro x w1 ⟨rfl, rfl⟩))
  refine bodyPost_ret (results_ct rfl _ _ w.heap.size 28 #[.int .i64 0, .slice none 0 0, .bool false] (0, 0) _ rfl (blk_new w _) Tryz.underlying28 rfl (by kernel_rfl)) rfl ?_
  exact ⟨_, rfl, own_empty _, fun k hk => by simp [Value.ownBlock] at hk, below_alloc (Below.refl _ _) _⟩

set_option maxHeartbeats 8000000 in
set_option maxRecDepth 100000 in
theorem reply_state {w : World} {F : Nat → Prop} {g : Nat} {r : R} (h : IsR w F g r) (hz : r.e = 0) (hd : r.done = false) :
    Calls Tryz.prog 9 #[.pointer (some ⟨g, 0, none⟩)] w fun x w' => RepPost w w' (0, [], false, 7) x := by
  have HR := Aside0.mk h
  have HE := Aside0.mk (show 0 ≤ r.e ∧ r.e ≤ 26 by omega)
  have HO := Aside0.mk (show r.over = false from by unfold R.over; rw [if_pos hz]; exact hd)
  have HZ := Aside0.mk hz
  have y1 : (r.e != 0) = false := bne_eq_false_iff_eq.2 hz
  clear h hz hd
  go_enter Tryz.func9, Tryz.ntmps9
  go_wp2_with (first | (go_at_call 13; (with_reducible refine (wrongR_calls (HR.out.below (below_alloc (Below.refl _ _) _)) HE.out).mono ?_); rintro x w1 ⟨rfl, rfl⟩) | (go_at_call 11; (with_reducible refine (over_calls (HR.out.below (below_alloc (Below.refl _ _) _))).mono ?_); rintro x w1 ⟨he1, rfl⟩; rw [HO.out] at he1; subst he1))
  refine bodyPost_ret (results_ct rfl _ _ w.heap.size 28 #[.int .i64 0, .slice none 0 0, .bool false] (0, 0) _ rfl (blk_new w _) Tryz.underlying28 rfl (by kernel_rfl)) rfl ?_
  exact ⟨_, rfl, own_empty _, fun k hk => by simp [Value.ownBlock] at hk, below_alloc (Below.refl _ _) _⟩

set_option maxHeartbeats 8000000 in
set_option maxRecDepth 100000 in
theorem reply_ok0 {w : World} {F : Nat → Prop} {g : Nat} {r : R} {d : D} (h : IsR w F g r) (hz : r.e = 0) (hb : r.body = some d) (hd : d.done = true) (hm : d.body.length ≤ 1099511627776) (hc : r.hd.cl = true) :
    Calls Tryz.prog 9 #[.pointer (some ⟨g, 0, none⟩)] w fun x w' => RepPost w w' (r.hd.st, d.body, false, 0) x := by
  have HR := Aside0.mk h
  have HE := Aside0.mk (show 0 ≤ r.e ∧ r.e ≤ 26 by omega)
  have HO := Aside0.mk (show r.over = true from by unfold R.over R.done; rw [if_pos hz, hb]; exact hd)
  have y1 : (r.e != 0) = false := bne_eq_false_iff_eq.2 hz
  have HM := Aside0.mk hm
  have HBD := Aside0.mk hb
  have HZ := Aside0.mk hz
  have HC := Aside0.mk hc
  clear hc
  clear h hz hd hm hb
  go_enter Tryz.func9, Tryz.ntmps9
  go_upto_region 5 with (first | (go_at_call 13; (with_reducible refine (wrongR_calls (HR.out.below (below_alloc (Below.refl _ _) _)) HE.out).mono ?_); rintro x w1 ⟨he1, rfl⟩; rw [HZ.out] at he1; subst he1) | (go_at_call 11; (with_reducible refine (over_calls (HR.out.below (below_alloc (Below.refl _ _) _))).mono ?_); rintro x w1 ⟨he1, rfl⟩; rw [HO.out] at he1; subst he1))
  obtain ⟨va, vb, F2, hB, hO, hA, hg, hb, h2⟩ := HR.out
  rw [HBD.out] at hb
  obtain ⟨gb, rfl, hD⟩ := hb
  obtain ⟨W, hW⟩ : ∃ W, W = w.alloc (Obj.cells #[.int .i64 0, .slice none 0 0, .bool false] 28) := ⟨_, rfl⟩
  obtain ⟨g2, hg2⟩ : ∃ g2, g2 = w.heap.size := ⟨_, rfl⟩
  have HW := Aside0.mk (show Below w.heap.size w W from by rw [hW]; exact below_alloc (Below.refl _ _) _)
  have HL := Aside0.mk (show W.heap[g2]? = some (.cells #[.int .i64 0, .slice none 0 0, .bool false] 28 (0, 0)) from by rw [hW, hg2]; exact blk_new w _)
  have HB := Aside0.mk (show RBlk W g va (.pointer (some ⟨gb, 0, none⟩)) r from hB.below HW.out)
  have HD := Aside0.mk (show IsD W F2 gb d from hD.below HW.out)
  have HN := Aside0.mk (show g ≠ g2 from by have := hB.lt; omega)
  have HS := Aside0.mk (show w.heap.size ≤ g2 ∧ w.heap.size ≤ W.heap.size ∧ g2 < W.heap.size from ⟨by omega, HW.out.size, blk_lt HL.out⟩)
  clear hB hO hA hg h2 hD HR
  rw [← hg2, ← hW]
  clear hW hg2
  refine start_ (n := 38) (S := fun w' => RBlk w' g va (.pointer (some ⟨gb, 0, none⟩)) r ∧ w'.heap[g2]? = some (.cells #[.int .i64 0, .slice none 0 0, .bool false] 28 (0, 0))) (ds := [36]) #[false, false, false, false, false, false, false, false, false, false, false, false, false, false, false, false, false, false, false, false, false, false, false, false, false, false, false, false, false, false, false, false, false, false, false, false, false, false] (by kernel_rfl) rfl rfl ⟨HB.out, HL.out⟩ (fun hHeld => ?_)
  refine pure_ (i := 0) (N := some 16) (v := ?_) (a' := ?_) #[true, false, false, false, false, false, false, false, false, false, false, false, false, false, false, false, false, false, false, false, false, false, false, false, false, false, false, false, false, false, false, false, false, false, false, false, false, false] rfl rfl (by kernel_rfl) (fun _ _ _ h => h) (Or.inl ⟨by rfl, ?_⟩) ?_ ?_
  rotate_left
  · intro w'
    go_simp
    with_reducible rfl
  rotate_left
  · simp only [Act.put, List.setIfInBounds_toArray, List.set_cons_zero, List.set_cons_succ, i64_w, i32_w]
    rfl
  refine pure_ (i := 1) (N := some 17) (v := ?_) (a' := ?_) #[true, true, false, false, false, false, false, false, false, false, false, false, false, false, false, false, false, false, false, false, false, false, false, false, false, false, false, false, false, false, false, false, false, false, false, false, false, false] rfl rfl (by kernel_rfl) (fun _ _ _ h => h) (Or.inl ⟨by rfl, ?_⟩) ?_ ?_
  rotate_left
  · intro w'
    go_simp
    with_reducible rfl
  rotate_left
  · simp only [Act.put, List.setIfInBounds_toArray, List.set_cons_zero, List.set_cons_succ, i64_w, i32_w]
    rfl
  refine pure_ (i := 2) (N := some 18) (v := ?_) (a' := ?_) #[true, true, true, false, false, false, false, false, false, false, false, false, false, false, false, false, false, false, false, false, false, false, false, false, false, false, false, false, false, false, false, false, false, false, false, false, false, false] rfl rfl (by kernel_rfl) (fun _ _ _ h => h) (Or.inl ⟨by rfl, ?_⟩) ?_ ?_
  rotate_left
  · intro w'
    go_simp
    with_reducible rfl
  rotate_left
  · simp only [Act.put, List.setIfInBounds_toArray, List.set_cons_zero, List.set_cons_succ, i64_w, i32_w]
    rfl
  refine pure_ (i := 3) (N := some 19) (v := ?_) (a' := ?_) #[true, true, true, true, false, false, false, false, false, false, false, false, false, false, false, false, false, false, false, false, false, false, false, false, false, false, false, false, false, false, false, false, false, false, false, false, false, false] rfl rfl (by kernel_rfl) (fun _ _ _ h => h) (Or.inl ⟨by rfl, ?_⟩) ?_ ?_
  rotate_left
  · intro w'
    go_simp
    with_reducible rfl
  rotate_left
  · simp only [Act.put, List.setIfInBounds_toArray, List.set_cons_zero, List.set_cons_succ, i64_w, i32_w]
    rfl
  refine pure_ (i := 4) (N := some 20) (v := ?_) (a' := ?_) #[true, true, true, true, true, false, false, false, false, false, false, false, false, false, false, false, false, false, false, false, false, false, false, false, false, false, false, false, false, false, false, false, false, false, false, false, false, false] rfl rfl (by kernel_rfl) (fun _ _ _ h => h) (Or.inl ⟨by rfl, ?_⟩) ?_ ?_
  rotate_left
  · intro w'
    go_simp
    with_reducible rfl
  rotate_left
  · simp only [Act.put, List.setIfInBounds_toArray, List.set_cons_zero, List.set_cons_succ, i64_w, i32_w]
    rfl
  refine pure_ (i := 6) (N := some 22) (v := ?_) (a' := ?_) #[true, true, true, true, true, false, true, false, false, false, false, false, false, false, false, false, false, false, false, false, false, false, false, false, false, false, false, false, false, false, false, false, false, false, false, false, false, false] rfl rfl (by kernel_rfl) (fun _ _ _ h => h) (Or.inl ⟨by rfl, ?_⟩) ?_ ?_
  rotate_left
  · intro w'
    go_simp
    with_reducible rfl
  rotate_left
  · simp only [Act.put, List.setIfInBounds_toArray, List.set_cons_zero, List.set_cons_succ, i64_w, i32_w]
    rfl
  refine pure_ (i := 7) (N := some 23) (v := ?_) (a' := ?_) #[true, true, true, true, true, false, true, true, false, false, false, false, false, false, false, false, false, false, false, false, false, false, false, false, false, false, false, false, false, false, false, false, false, false, false, false, false, false] rfl rfl (by kernel_rfl) (fun _ _ _ h => h) (Or.inl ⟨by rfl, ?_⟩) ?_ ?_
  rotate_left
  · intro w'
    go_simp
    with_reducible rfl
  rotate_left
  · simp only [Act.put, List.setIfInBounds_toArray, List.set_cons_zero, List.set_cons_succ, i64_w, i32_w]
    rfl
  refine pure_ (i := 8) (N := some 24) (v := ?_) (a' := ?_) #[true, true, true, true, true, false, true, true, true, false, false, false, false, false, false, false, false, false, false, false, false, false, false, false, false, false, false, false, false, false, false, false, false, false, false, false, false, false] rfl rfl (by kernel_rfl) (fun _ _ _ h => h) (Or.inl ⟨by rfl, ?_⟩) ?_ ?_
  rotate_left
  · intro w'
    go_simp
    with_reducible rfl
  rotate_left
  · simp only [Act.put, List.setIfInBounds_toArray, List.set_cons_zero, List.set_cons_succ, i64_w, i32_w]
    rfl
  refine pure_ (i := 9) (N := some 25) (v := ?_) (a' := ?_) #[true, true, true, true, true, false, true, true, true, true, false, false, false, false, false, false, false, false, false, false, false, false, false, false, false, false, false, false, false, false, false, false, false, false, false, false, false, false] rfl rfl (by kernel_rfl) (fun _ _ _ h => h) (Or.inl ⟨by rfl, ?_⟩) ?_ ?_
  rotate_left
  · intro w'
    go_simp
    with_reducible rfl
  rotate_left
  · simp only [Act.put, List.setIfInBounds_toArray, List.set_cons_zero, List.set_cons_succ, i64_w, i32_w]
    rfl
  refine pure_ (i := 12) (N := some 28) (v := ?_) (a' := ?_) #[true, true, true, true, true, false, true, true, true, true, false, false, true, false, false, false, false, false, false, false, false, false, false, false, false, false, false, false, false, false, false, false, false, false, false, false, false, false] rfl rfl (by kernel_rfl) (fun _ _ _ h => h) (Or.inl ⟨by rfl, ?_⟩) ?_ ?_
  rotate_left
  · intro w'
    go_simp
    with_reducible rfl
  rotate_left
  · simp only [Act.put, List.setIfInBounds_toArray, List.set_cons_zero, List.set_cons_succ, i64_w, i32_w]
    rfl
  refine pure_ (i := 13) (N := some 29) (v := ?_) (a' := ?_) #[true, true, true, true, true, false, true, true, true, true, false, false, true, true, false, false, false, false, false, false, false, false, false, false, false, false, false, false, false, false, false, false, false, false, false, false, false, false] rfl rfl (by kernel_rfl) (fun _ _ _ h => h) (Or.inl ⟨by rfl, ?_⟩) ?_ ?_
  rotate_left
  · intro w'
    go_simp
    with_reducible rfl
  rotate_left
  · simp only [Act.put, List.setIfInBounds_toArray, List.set_cons_zero, List.set_cons_succ, i64_w, i32_w]
    rfl
  refine pure_ (i := 14) (N := some 30) (v := ?_) (a' := ?_) #[true, true, true, true, true, false, true, true, true, true, false, false, true, true, true, false, false, false, false, false, false, false, false, false, false, false, false, false, false, false, false, false, false, false, false, false, false, false] rfl rfl (by kernel_rfl) (fun _ _ _ h => h) (Or.inl ⟨by rfl, ?_⟩) ?_ ?_
  rotate_left
  · intro w'
    go_simp
    with_reducible rfl
  rotate_left
  · simp only [Act.put, List.setIfInBounds_toArray, List.set_cons_zero, List.set_cons_succ, i64_w, i32_w]
    rfl
  refine pure_ (i := 15) (N := some 31) (v := ?_) (a' := ?_) #[true, true, true, true, true, false, true, true, true, true, false, false, true, true, true, true, false, false, false, false, false, false, false, false, false, false, false, false, false, false, false, false, false, false, false, false, false, false] rfl rfl (by kernel_rfl) (fun _ _ _ h => h) (Or.inl ⟨by rfl, ?_⟩) ?_ ?_
  rotate_left
  · intro w'
    go_simp
    with_reducible rfl
  rotate_left
  · simp only [Act.put, List.setIfInBounds_toArray, List.set_cons_zero, List.set_cons_succ, i64_w, i32_w]
    rfl
  refine pure_ (i := 16) (N := some 32) (v := ?_) (a' := ?_) #[true, true, true, true, true, false, true, true, true, true, false, false, true, true, true, true, true, false, false, false, false, false, false, false, false, false, false, false, false, false, false, false, false, false, false, false, false, false] rfl rfl (by kernel_rfl) (fun _ _ _ h => h) (Or.inl ⟨by rfl, ?_⟩) ?_ ?_
  rotate_left
  · intro w'
    go_simp
    with_reducible rfl
  rotate_left
  · simp only [Act.put, List.setIfInBounds_toArray, List.set_cons_zero, List.set_cons_succ, i64_w, i32_w]
    rfl
  refine take_ (i := 5) (N := some 21) (v := ?_) (a' := ?_) #[true, true, true, true, true, true, true, true, true, true, false, false, true, true, true, true, true, false, false, false, false, false, false, false, false, false, false, false, false, false, false, false, false, false, false, false, false, false] rfl rfl (by kernel_rfl) (fun _ _ _ h => h) (Or.inl ⟨by rfl, ?_⟩) hHeld ?_ ?_
  rotate_left
  · intro w' hS'
    have k1 : w'.cell? ⟨g, 1, none⟩ = some (.int .i64 r.hd.st) := (RBlk.cell hS'.1 1).trans rfl
    go_simp
    with_reducible rfl
  rotate_left
  · simp only [Act.put, List.setIfInBounds_toArray, List.set_cons_zero, List.set_cons_succ, i64_w, i32_w]
    rfl
  refine take_ (i := 10) (N := some 26) (v := ?_) (a' := ?_) #[true, true, true, true, true, true, true, true, true, true, true, false, true, true, true, true, true, false, false, false, false, false, false, false, false, false, false, false, false, false, false, false, false, false, false, false, false, false] rfl rfl (by kernel_rfl) (fun _ _ _ h => h) (Or.inl ⟨by rfl, ?_⟩) hHeld ?_ ?_
  rotate_left
  · intro w' hS'
    have k6 : w'.cell? ⟨g, 6, none⟩ = some (.pointer (some ⟨gb, 0, none⟩)) := (RBlk.cell hS'.1 6).trans rfl
    go_simp
    with_reducible rfl
  rotate_left
  · simp only [Act.put, List.setIfInBounds_toArray, List.set_cons_zero, List.set_cons_succ, i64_w, i32_w]
    rfl
  refine take_ (i := 17) (N := some 33) (v := ?_) (a' := ?_) #[true, true, true, true, true, true, true, true, true, true, true, false, true, true, true, true, true, true, false, false, false, false, false, false, false, false, false, false, false, false, false, false, false, false, false, false, false, false] rfl rfl (by kernel_rfl) (fun _ _ _ h => h) (Or.inl ⟨by rfl, ?_⟩) hHeld ?_ ?_
  rotate_left
  · intro w' hS'
    have k4 : w'.cell? ⟨g, 4, none⟩ = some (.bool true) := (RBlk.cell hS'.1 4).trans (by show some (Value.bool r.hd.cl) = _; rw [HC.out])
    go_simp
    with_reducible rfl
  rotate_left
  · simp only [Act.put, List.setIfInBounds_toArray, List.set_cons_zero, List.set_cons_succ, i64_w, i32_w]
    rfl
  refine pure_ (i := 18) (N := some 34) (v := ?_) (a' := ?_) #[true, true, true, true, true, true, true, true, true, true, true, false, true, true, true, true, true, true, true, false, false, false, false, false, false, false, false, false, false, false, false, false, false, false, false, false, false, false] rfl rfl (by kernel_rfl) (fun _ _ _ h => h) (Or.inl ⟨by rfl, ?_⟩) ?_ ?_
  rotate_left
  · intro w'
    go_simp
    with_reducible rfl
  rotate_left
  · simp only [Act.put, List.setIfInBounds_toArray, List.set_cons_zero, List.set_cons_succ, i64_w, i32_w]
    rfl
  obtain ⟨wd, hwd⟩ : ∃ wd, wd = W.drew := ⟨_, rfl⟩
  have HDd := Aside0.mk (show IsD W.drew F2 gb d from HD.out.keep (Keep.of_below (F := fun _ => False) (below_drew (Below.refl _ _))) fun _ _ _ => id)
  have HWd := Aside0.mk (show Below w.heap.size w W.drew from below_drew HW.out)
  have HSd := Aside0.mk (show W.drew.heap.size = W.heap.size from rfl)
  rw [← hwd] at HDd HWd HSd hHeld ⊢
  clear hwd
  refine one_ (i := 11) (N := some 27) #[true, true, true, true, true, true, true, true, true, true, true, true, true, true, true, true, true, true, true, false, false, false, false, false, false, false, false, false, false, false, false, false, false, false, false, false, false, false] rfl rfl (by kernel_rfl) (by decide) (fun K hK => ?_)
  refine goes_ Tryz.func22 (by kernel_rfl) rfl #[.pointer (some ⟨gb, 0, none⟩)] (by rfl) rfl rfl (by simp [Act.eval]) ?_
  refine (body_calls HDd.out HM.out).mono ?_
  rintro x w3 ⟨v, rfl, hov, hfr, hbe⟩
  obtain ⟨A3, n3, rfl, hn3⟩ := own_slice2 hov
  refine ⟨_, rfl, ?_⟩
  have HOV := Aside0.mk hov
  have HFR := Aside0.mk hfr
  have HB3 := Aside0.mk (hHeld.1.below hbe)
  have HL3 := Aside0.mk (blk_below hHeld.2 hbe)
  have HBE := Aside0.mk hbe
  have hS3 := And.intro HB3.out HL3.out
  clear hov hfr hbe hHeld
  refine hK.out _ _ hS3 (fun hHeld => ?_)
  clear hK K hS3
  refine norm_ (a' := ?_) ?_ ?_
  rotate_left
  · show Act.put _ (some 27) _ = _
    simp only [Act.put, List.setIfInBounds_toArray, List.set_cons_zero, List.set_cons_succ, i64_w, i32_w]
    rfl
  refine pure_ (i := 19) (N := some 35) (v := ?_) (a' := ?_) #[true, true, true, true, true, true, true, true, true, true, true, true, true, true, true, true, true, true, true, true, false, false, false, false, false, false, false, false, false, false, false, false, false, false, false, false, false, false] rfl rfl (by kernel_rfl) (fun _ _ _ h => h) (Or.inl ⟨by rfl, ?_⟩) ?_ ?_
  rotate_left
  · intro w'
    go_simp
    with_reducible rfl
  rotate_left
  · simp only [Act.put, List.setIfInBounds_toArray, List.set_cons_zero, List.set_cons_succ, i64_w, i32_w]
    rfl
  refine pure_ (i := 20) (N := some 36) (v := undef) (a' := ?_) #[true, true, true, true, true, true, true, true, true, true, true, true, true, true, true, true, true, true, true, true, true, false, false, false, false, false, false, false, false, false, false, false, false, false, false, false, false, false] rfl rfl (by kernel_rfl) (fun _ _ _ h => h) (Or.inr ⟨by rfl, rfl⟩) ?_ ?_
  rotate_left
  · simp only [Act.put, List.setIfInBounds_toArray, List.set_cons_zero, List.set_cons_succ, i64_w, i32_w]
    rfl
  refine pure_ (i := 21) (N := some 37) (v := undef) (a' := ?_) #[true, true, true, true, true, true, true, true, true, true, true, true, true, true, true, true, true, true, true, true, true, true, false, false, false, false, false, false, false, false, false, false, false, false, false, false, false, false] rfl rfl (by kernel_rfl) (fun _ _ _ h => h) (Or.inr ⟨by rfl, rfl⟩) ?_ ?_
  rotate_left
  · simp only [Act.put, List.setIfInBounds_toArray, List.set_cons_zero, List.set_cons_succ, i64_w, i32_w]
    rfl
  refine pure_ (i := 22) (N := some 38) (v := undef) (a' := ?_) #[true, true, true, true, true, true, true, true, true, true, true, true, true, true, true, true, true, true, true, true, true, true, true, false, false, false, false, false, false, false, false, false, false, false, false, false, false, false] rfl rfl (by kernel_rfl) (fun _ _ _ h => h) (Or.inr ⟨by rfl, rfl⟩) ?_ ?_
  rotate_left
  · simp only [Act.put, List.setIfInBounds_toArray, List.set_cons_zero, List.set_cons_succ, i64_w, i32_w]
    rfl
  refine pure_ (i := 23) (N := some 39) (v := undef) (a' := ?_) #[true, true, true, true, true, true, true, true, true, true, true, true, true, true, true, true, true, true, true, true, true, true, true, true, false, false, false, false, false, false, false, false, false, false, false, false, false, false] rfl rfl (by kernel_rfl) (fun _ _ _ h => h) (Or.inr ⟨by rfl, rfl⟩) ?_ ?_
  rotate_left
  · simp only [Act.put, List.setIfInBounds_toArray, List.set_cons_zero, List.set_cons_succ, i64_w, i32_w]
    rfl
  refine pure_ (i := 24) (N := some 40) (v := undef) (a' := ?_) #[true, true, true, true, true, true, true, true, true, true, true, true, true, true, true, true, true, true, true, true, true, true, true, true, true, false, false, false, false, false, false, false, false, false, false, false, false, false] rfl rfl (by kernel_rfl) (fun _ _ _ h => h) (Or.inr ⟨by rfl, rfl⟩) ?_ ?_
  rotate_left
  · simp only [Act.put, List.setIfInBounds_toArray, List.set_cons_zero, List.set_cons_succ, i64_w, i32_w]
    rfl
  refine pure_ (i := 25) (N := some 41) (v := undef) (a' := ?_) #[true, true, true, true, true, true, true, true, true, true, true, true, true, true, true, true, true, true, true, true, true, true, true, true, true, true, false, false, false, false, false, false, false, false, false, false, false, false] rfl rfl (by kernel_rfl) (fun _ _ _ h => h) (Or.inr ⟨by rfl, rfl⟩) ?_ ?_
  rotate_left
  · simp only [Act.put, List.setIfInBounds_toArray, List.set_cons_zero, List.set_cons_succ, i64_w, i32_w]
    rfl
  refine pure_ (i := 26) (N := some 42) (v := ?_) (a' := ?_) #[true, true, true, true, true, true, true, true, true, true, true, true, true, true, true, true, true, true, true, true, true, true, true, true, true, true, true, false, false, false, false, false, false, false, false, false, false, false] rfl rfl (by kernel_rfl) (fun _ _ _ h => h) (Or.inl ⟨by rfl, ?_⟩) ?_ ?_
  rotate_left
  · intro w'
    go_simp
    with_reducible rfl
  rotate_left
  · simp only [Act.put, List.setIfInBounds_toArray, List.set_cons_zero, List.set_cons_succ, i64_w, i32_w]
    rfl
  refine pure_ (i := 27) (N := some 43) (v := ?_) (a' := ?_) #[true, true, true, true, true, true, true, true, true, true, true, true, true, true, true, true, true, true, true, true, true, true, true, true, true, true, true, true, false, false, false, false, false, false, false, false, false, false] rfl rfl (by kernel_rfl) (fun _ _ _ h => h) (Or.inl ⟨by rfl, ?_⟩) ?_ ?_
  rotate_left
  · intro w'
    go_simp
    with_reducible rfl
  rotate_left
  · simp only [Act.put, List.setIfInBounds_toArray, List.set_cons_zero, List.set_cons_succ, i64_w, i32_w]
    rfl
  refine pure_ (i := 28) (N := some 44) (v := undef) (a' := ?_) #[true, true, true, true, true, true, true, true, true, true, true, true, true, true, true, true, true, true, true, true, true, true, true, true, true, true, true, true, true, false, false, false, false, false, false, false, false, false] rfl rfl (by kernel_rfl) (fun _ _ _ h => h) (Or.inr ⟨by rfl, rfl⟩) ?_ ?_
  rotate_left
  · simp only [Act.put, List.setIfInBounds_toArray, List.set_cons_zero, List.set_cons_succ, i64_w, i32_w]
    rfl
  refine pure_ (i := 29) (N := some 45) (v := undef) (a' := ?_) #[true, true, true, true, true, true, true, true, true, true, true, true, true, true, true, true, true, true, true, true, true, true, true, true, true, true, true, true, true, true, false, false, false, false, false, false, false, false] rfl rfl (by kernel_rfl) (fun _ _ _ h => h) (Or.inr ⟨by rfl, rfl⟩) ?_ ?_
  rotate_left
  · simp only [Act.put, List.setIfInBounds_toArray, List.set_cons_zero, List.set_cons_succ, i64_w, i32_w]
    rfl
  refine pure_ (i := 30) (N := some 46) (v := undef) (a' := ?_) #[true, true, true, true, true, true, true, true, true, true, true, true, true, true, true, true, true, true, true, true, true, true, true, true, true, true, true, true, true, true, true, false, false, false, false, false, false, false] rfl rfl (by kernel_rfl) (fun _ _ _ h => h) (Or.inr ⟨by rfl, rfl⟩) ?_ ?_
  rotate_left
  · simp only [Act.put, List.setIfInBounds_toArray, List.set_cons_zero, List.set_cons_succ, i64_w, i32_w]
    rfl
  refine pure_ (i := 31) (N := some 47) (v := undef) (a' := ?_) #[true, true, true, true, true, true, true, true, true, true, true, true, true, true, true, true, true, true, true, true, true, true, true, true, true, true, true, true, true, true, true, true, false, false, false, false, false, false] rfl rfl (by kernel_rfl) (fun _ _ _ h => h) (Or.inr ⟨by rfl, rfl⟩) ?_ ?_
  rotate_left
  · simp only [Act.put, List.setIfInBounds_toArray, List.set_cons_zero, List.set_cons_succ, i64_w, i32_w]
    rfl
  refine pure_ (i := 32) (N := some 48) (v := undef) (a' := ?_) #[true, true, true, true, true, true, true, true, true, true, true, true, true, true, true, true, true, true, true, true, true, true, true, true, true, true, true, true, true, true, true, true, true, false, false, false, false, false] rfl rfl (by kernel_rfl) (fun _ _ _ h => h) (Or.inr ⟨by rfl, rfl⟩) ?_ ?_
  rotate_left
  · simp only [Act.put, List.setIfInBounds_toArray, List.set_cons_zero, List.set_cons_succ, i64_w, i32_w]
    rfl
  refine pure_ (i := 33) (N := some 49) (v := undef) (a' := ?_) #[true, true, true, true, true, true, true, true, true, true, true, true, true, true, true, true, true, true, true, true, true, true, true, true, true, true, true, true, true, true, true, true, true, true, false, false, false, false] rfl rfl (by kernel_rfl) (fun _ _ _ h => h) (Or.inr ⟨by rfl, rfl⟩) ?_ ?_
  rotate_left
  · simp only [Act.put, List.setIfInBounds_toArray, List.set_cons_zero, List.set_cons_succ, i64_w, i32_w]
    rfl
  refine pure_ (i := 34) (N := some 50) (v := ?_) (a' := ?_) #[true, true, true, true, true, true, true, true, true, true, true, true, true, true, true, true, true, true, true, true, true, true, true, true, true, true, true, true, true, true, true, true, true, true, true, false, false, false] rfl rfl (by kernel_rfl) (fun _ _ _ h => h) (Or.inl ⟨by rfl, ?_⟩) ?_ ?_
  rotate_left
  · intro w'
    go_simp
    with_reducible rfl
  rotate_left
  · simp only [Act.put, List.setIfInBounds_toArray, List.set_cons_zero, List.set_cons_succ, i64_w, i32_w]
    rfl
  refine pure_ (i := 35) (N := some 51) (v := ?_) (a' := ?_) #[true, true, true, true, true, true, true, true, true, true, true, true, true, true, true, true, true, true, true, true, true, true, true, true, true, true, true, true, true, true, true, true, true, true, true, true, false, false] rfl rfl (by kernel_rfl) (fun _ _ _ h => h) (Or.inl ⟨by rfl, ?_⟩) ?_ ?_
  rotate_left
  · intro w'
    go_simp
    with_reducible rfl
  rotate_left
  · simp only [Act.put, List.setIfInBounds_toArray, List.set_cons_zero, List.set_cons_succ, i64_w, i32_w]
    rfl
  refine last_ (i := 36) (N := none) #[true, true, true, true, true, true, true, true, true, true, true, true, true, true, true, true, true, true, true, true, true, true, true, true, true, true, true, true, true, true, true, true, true, true, true, true, true, false] rfl rfl (by kernel_rfl) (by decide) (fun K hK => ?_)
  have hc0 : w3.cell? ⟨g2, 0, none⟩ = some (.int .i64 0) := (blk_cell HL3.out 0).trans rfl
  have hc1 : w3.cell? ⟨g2, 1, none⟩ = some (.slice none 0 0) := (blk_cell HL3.out 1).trans rfl
  have hc2 : w3.cell? ⟨g2, 2, none⟩ = some (.bool false) := (blk_cell HL3.out 2).trans rfl
  have hf0 := blk_frozen HL3.out 0
  have hf1 := blk_frozen HL3.out 1
  have hf2 := blk_frozen HL3.out 2
  refine skip_ (w1 := ((w3.setCell ⟨g2, 0, none⟩ (.int .i64 r.hd.st)).setCell ⟨g2, 1, none⟩ (.slice A3 d.body.length n3)).setCell ⟨g2, 2, none⟩ (.bool false)) (by rfl) rfl ?_ ?_
  · go_simp
  refine hK.out _ _ ?_
  clear hK K hc0 hc1 hc2 hf0 hf1 hf2
  refine pure_ (i := 37) (N := some 3) (v := ?_) (a' := ?_) #[true, true, true, true, true, true, true, true, true, true, true, true, true, true, true, true, true, true, true, true, true, true, true, true, true, true, true, true, true, true, true, true, true, true, true, true, true, true] rfl rfl (by kernel_rfl) (fun _ _ _ h => h) (Or.inl ⟨by rfl, ?_⟩) ?_ ?_
  rotate_left
  · intro w'
    go_simp
    with_reducible rfl
  rotate_left
  · simp only [Act.put, List.setIfInBounds_toArray, List.set_cons_zero, List.set_cons_succ, i64_w, i32_w]
    rfl
  refine done_ (by kernel_rfl) ?_
  go_wp2
  refine bodyPost_ret (results_ct rfl _ _ g2 28 #[.int .i64 r.hd.st, .slice A3 d.body.length n3, (.bool false)] (0, 0) _ rfl (cells3 (w2 := w3) HL3.out) Tryz.underlying28 rfl (by kernel_rfl)) rfl ?_
  have hks : Keep (fun k => k = g2) w3 (((w3.setCell ⟨g2, 0, none⟩ (.int .i64 r.hd.st)).setCell ⟨g2, 1, none⟩ (.slice A3 d.body.length n3)).setCell ⟨g2, 2, none⟩ (.bool false)) := (((Keep.refl (fun k => k = g2) w3).set (g := g2) rfl 0 _).set (g := g2) rfl 1 _).set (g := g2) rfl 2 _
  exact ⟨_, rfl, Own.keep HOV.out hks (fun i hi e => by have h1 := HFR.out i hi; have h2 := HS.out; have h3 := HSd.out; omega), fun k hk => by have h1 := HFR.out k hk; have h2 := HS.out; have h3 := HSd.out; omega, (below_step HWd.out HBE.out).trans (hks.below (fun k hk => by have h2 := HS.out; omega) (Nat.le_trans HWd.out.size HBE.out.size))⟩
set_option maxHeartbeats 8000000 in
set_option maxRecDepth 100000 in
theorem reply_ok1 {w : World} {F : Nat → Prop} {g : Nat} {r : R} {d : D} (h : IsR w F g r) (hz : r.e = 0) (hb : r.body = some d) (hd : d.done = true) (hm : d.body.length ≤ 1099511627776) (hc : r.hd.cl = false) (hq : r.rest ≠ 0) :
    Calls Tryz.prog 9 #[.pointer (some ⟨g, 0, none⟩)] w fun x w' => RepPost w w' (r.hd.st, d.body, false, 0) x := by
  have HR := Aside0.mk h
  have HE := Aside0.mk (show 0 ≤ r.e ∧ r.e ≤ 26 by omega)
  have HO := Aside0.mk (show r.over = true from by unfold R.over R.done; rw [if_pos hz, hb]; exact hd)
  have y1 : (r.e != 0) = false := bne_eq_false_iff_eq.2 hz
  have HM := Aside0.mk hm
  have HBD := Aside0.mk hb
  have HZ := Aside0.mk hz
  have HC := Aside0.mk hc
  have y5 : (r.rest == 0) = false := beq_eq_false_iff_ne.2 hq
  clear hc hq
  clear h hz hd hm hb
  go_enter Tryz.func9, Tryz.ntmps9
  go_upto_region 5 with (first | (go_at_call 13; (with_reducible refine (wrongR_calls (HR.out.below (below_alloc (Below.refl _ _) _)) HE.out).mono ?_); rintro x w1 ⟨he1, rfl⟩; rw [HZ.out] at he1; subst he1) | (go_at_call 11; (with_reducible refine (over_calls (HR.out.below (below_alloc (Below.refl _ _) _))).mono ?_); rintro x w1 ⟨he1, rfl⟩; rw [HO.out] at he1; subst he1))
  obtain ⟨va, vb, F2, hB, hO, hA, hg, hb, h2⟩ := HR.out
  rw [HBD.out] at hb
  obtain ⟨gb, rfl, hD⟩ := hb
  obtain ⟨W, hW⟩ : ∃ W, W = w.alloc (Obj.cells #[.int .i64 0, .slice none 0 0, .bool false] 28) := ⟨_, rfl⟩
  obtain ⟨g2, hg2⟩ : ∃ g2, g2 = w.heap.size := ⟨_, rfl⟩
  have HW := Aside0.mk (show Below w.heap.size w W from by rw [hW]; exact below_alloc (Below.refl _ _) _)
  have HL := Aside0.mk (show W.heap[g2]? = some (.cells #[.int .i64 0, .slice none 0 0, .bool false] 28 (0, 0)) from by rw [hW, hg2]; exact blk_new w _)
  have HB := Aside0.mk (show RBlk W g va (.pointer (some ⟨gb, 0, none⟩)) r from hB.below HW.out)
  have HD := Aside0.mk (show IsD W F2 gb d from hD.below HW.out)
  have HN := Aside0.mk (show g ≠ g2 from by have := hB.lt; omega)
  have HS := Aside0.mk (show w.heap.size ≤ g2 ∧ w.heap.size ≤ W.heap.size ∧ g2 < W.heap.size from ⟨by omega, HW.out.size, blk_lt HL.out⟩)
  clear hB hO hA hg h2 hD HR
  rw [← hg2, ← hW]
  clear hW hg2
  refine start_ (n := 38) (S := fun w' => RBlk w' g va (.pointer (some ⟨gb, 0, none⟩)) r ∧ w'.heap[g2]? = some (.cells #[.int .i64 0, .slice none 0 0, .bool false] 28 (0, 0))) (ds := [36]) #[false, false, false, false, false, false, false, false, false, false, false, false, false, false, false, false, false, false, false, false, false, false, false, false, false, false, false, false, false, false, false, false, false, false, false, false, false, false] (by kernel_rfl) rfl rfl ⟨HB.out, HL.out⟩ (fun hHeld => ?_)
  refine pure_ (i := 0) (N := some 16) (v := ?_) (a' := ?_) #[true, false, false, false, false, false, false, false, false, false, false, false, false, false, false, false, false, false, false, false, false, false, false, false, false, false, false, false, false, false, false, false, false, false, false, false, false, false] rfl rfl (by kernel_rfl) (fun _ _ _ h => h) (Or.inl ⟨by rfl, ?_⟩) ?_ ?_
  rotate_left
  · intro w'
    go_simp
    with_reducible rfl
  rotate_left
  · simp only [Act.put, List.setIfInBounds_toArray, List.set_cons_zero, List.set_cons_succ, i64_w, i32_w]
    rfl
  refine pure_ (i := 1) (N := some 17) (v := ?_) (a' := ?_) #[true, true, false, false, false, false, false, false, false, false, false, false, false, false, false, false, false, false, false, false, false, false, false, false, false, false, false, false, false, false, false, false, false, false, false, false, false, false] rfl rfl (by kernel_rfl) (fun _ _ _ h => h) (Or.inl ⟨by rfl, ?_⟩) ?_ ?_
  rotate_left
  · intro w'
    go_simp
    with_reducible rfl
  rotate_left
  · simp only [Act.put, List.setIfInBounds_toArray, List.set_cons_zero, List.set_cons_succ, i64_w, i32_w]
    rfl
  refine pure_ (i := 2) (N := some 18) (v := ?_) (a' := ?_) #[true, true, true, false, false, false, false, false, false, false, false, false, false, false, false, false, false, false, false, false, false, false, false, false, false, false, false, false, false, false, false, false, false, false, false, false, false, false] rfl rfl (by kernel_rfl) (fun _ _ _ h => h) (Or.inl ⟨by rfl, ?_⟩) ?_ ?_
  rotate_left
  · intro w'
    go_simp
    with_reducible rfl
  rotate_left
  · simp only [Act.put, List.setIfInBounds_toArray, List.set_cons_zero, List.set_cons_succ, i64_w, i32_w]
    rfl
  refine pure_ (i := 3) (N := some 19) (v := ?_) (a' := ?_) #[true, true, true, true, false, false, false, false, false, false, false, false, false, false, false, false, false, false, false, false, false, false, false, false, false, false, false, false, false, false, false, false, false, false, false, false, false, false] rfl rfl (by kernel_rfl) (fun _ _ _ h => h) (Or.inl ⟨by rfl, ?_⟩) ?_ ?_
  rotate_left
  · intro w'
    go_simp
    with_reducible rfl
  rotate_left
  · simp only [Act.put, List.setIfInBounds_toArray, List.set_cons_zero, List.set_cons_succ, i64_w, i32_w]
    rfl
  refine pure_ (i := 4) (N := some 20) (v := ?_) (a' := ?_) #[true, true, true, true, true, false, false, false, false, false, false, false, false, false, false, false, false, false, false, false, false, false, false, false, false, false, false, false, false, false, false, false, false, false, false, false, false, false] rfl rfl (by kernel_rfl) (fun _ _ _ h => h) (Or.inl ⟨by rfl, ?_⟩) ?_ ?_
  rotate_left
  · intro w'
    go_simp
    with_reducible rfl
  rotate_left
  · simp only [Act.put, List.setIfInBounds_toArray, List.set_cons_zero, List.set_cons_succ, i64_w, i32_w]
    rfl
  refine pure_ (i := 6) (N := some 22) (v := ?_) (a' := ?_) #[true, true, true, true, true, false, true, false, false, false, false, false, false, false, false, false, false, false, false, false, false, false, false, false, false, false, false, false, false, false, false, false, false, false, false, false, false, false] rfl rfl (by kernel_rfl) (fun _ _ _ h => h) (Or.inl ⟨by rfl, ?_⟩) ?_ ?_
  rotate_left
  · intro w'
    go_simp
    with_reducible rfl
  rotate_left
  · simp only [Act.put, List.setIfInBounds_toArray, List.set_cons_zero, List.set_cons_succ, i64_w, i32_w]
    rfl
  refine pure_ (i := 7) (N := some 23) (v := ?_) (a' := ?_) #[true, true, true, true, true, false, true, true, false, false, false, false, false, false, false, false, false, false, false, false, false, false, false, false, false, false, false, false, false, false, false, false, false, false, false, false, false, false] rfl rfl (by kernel_rfl) (fun _ _ _ h => h) (Or.inl ⟨by rfl, ?_⟩) ?_ ?_
  rotate_left
  · intro w'
    go_simp
    with_reducible rfl
  rotate_left
  · simp only [Act.put, List.setIfInBounds_toArray, List.set_cons_zero, List.set_cons_succ, i64_w, i32_w]
    rfl
  refine pure_ (i := 8) (N := some 24) (v := ?_) (a' := ?_) #[true, true, true, true, true, false, true, true, true, false, false, false, false, false, false, false, false, false, false, false, false, false, false, false, false, false, false, false, false, false, false, false, false, false, false, false, false, false] rfl rfl (by kernel_rfl) (fun _ _ _ h => h) (Or.inl ⟨by rfl, ?_⟩) ?_ ?_
  rotate_left
  · intro w'
    go_simp
    with_reducible rfl
  rotate_left
  · simp only [Act.put, List.setIfInBounds_toArray, List.set_cons_zero, List.set_cons_succ, i64_w, i32_w]
    rfl
  refine pure_ (i := 9) (N := some 25) (v := ?_) (a' := ?_) #[true, true, true, true, true, false, true, true, true, true, false, false, false, false, false, false, false, false, false, false, false, false, false, false, false, false, false, false, false, false, false, false, false, false, false, false, false, false] rfl rfl (by kernel_rfl) (fun _ _ _ h => h) (Or.inl ⟨by rfl, ?_⟩) ?_ ?_
  rotate_left
  · intro w'
    go_simp
    with_reducible rfl
  rotate_left
  · simp only [Act.put, List.setIfInBounds_toArray, List.set_cons_zero, List.set_cons_succ, i64_w, i32_w]
    rfl
  refine pure_ (i := 12) (N := some 28) (v := ?_) (a' := ?_) #[true, true, true, true, true, false, true, true, true, true, false, false, true, false, false, false, false, false, false, false, false, false, false, false, false, false, false, false, false, false, false, false, false, false, false, false, false, false] rfl rfl (by kernel_rfl) (fun _ _ _ h => h) (Or.inl ⟨by rfl, ?_⟩) ?_ ?_
  rotate_left
  · intro w'
    go_simp
    with_reducible rfl
  rotate_left
  · simp only [Act.put, List.setIfInBounds_toArray, List.set_cons_zero, List.set_cons_succ, i64_w, i32_w]
    rfl
  refine pure_ (i := 13) (N := some 29) (v := ?_) (a' := ?_) #[true, true, true, true, true, false, true, true, true, true, false, false, true, true, false, false, false, false, false, false, false, false, false, false, false, false, false, false, false, false, false, false, false, false, false, false, false, false] rfl rfl (by kernel_rfl) (fun _ _ _ h => h) (Or.inl ⟨by rfl, ?_⟩) ?_ ?_
  rotate_left
  · intro w'
    go_simp
    with_reducible rfl
  rotate_left
  · simp only [Act.put, List.setIfInBounds_toArray, List.set_cons_zero, List.set_cons_succ, i64_w, i32_w]
    rfl
  refine pure_ (i := 14) (N := some 30) (v := ?_) (a' := ?_) #[true, true, true, true, true, false, true, true, true, true, false, false, true, true, true, false, false, false, false, false, false, false, false, false, false, false, false, false, false, false, false, false, false, false, false, false, false, false] rfl rfl (by kernel_rfl) (fun _ _ _ h => h) (Or.inl ⟨by rfl, ?_⟩) ?_ ?_
  rotate_left
  · intro w'
    go_simp
    with_reducible rfl
  rotate_left
  · simp only [Act.put, List.setIfInBounds_toArray, List.set_cons_zero, List.set_cons_succ, i64_w, i32_w]
    rfl
  refine pure_ (i := 15) (N := some 31) (v := ?_) (a' := ?_) #[true, true, true, true, true, false, true, true, true, true, false, false, true, true, true, true, false, false, false, false, false, false, false, false, false, false, false, false, false, false, false, false, false, false, false, false, false, false] rfl rfl (by kernel_rfl) (fun _ _ _ h => h) (Or.inl ⟨by rfl, ?_⟩) ?_ ?_
  rotate_left
  · intro w'
    go_simp
    with_reducible rfl
  rotate_left
  · simp only [Act.put, List.setIfInBounds_toArray, List.set_cons_zero, List.set_cons_succ, i64_w, i32_w]
    rfl
  refine pure_ (i := 16) (N := some 32) (v := ?_) (a' := ?_) #[true, true, true, true, true, false, true, true, true, true, false, false, true, true, true, true, true, false, false, false, false, false, false, false, false, false, false, false, false, false, false, false, false, false, false, false, false, false] rfl rfl (by kernel_rfl) (fun _ _ _ h => h) (Or.inl ⟨by rfl, ?_⟩) ?_ ?_
  rotate_left
  · intro w'
    go_simp
    with_reducible rfl
  rotate_left
  · simp only [Act.put, List.setIfInBounds_toArray, List.set_cons_zero, List.set_cons_succ, i64_w, i32_w]
    rfl
  refine take_ (i := 5) (N := some 21) (v := ?_) (a' := ?_) #[true, true, true, true, true, true, true, true, true, true, false, false, true, true, true, true, true, false, false, false, false, false, false, false, false, false, false, false, false, false, false, false, false, false, false, false, false, false] rfl rfl (by kernel_rfl) (fun _ _ _ h => h) (Or.inl ⟨by rfl, ?_⟩) hHeld ?_ ?_
  rotate_left
  · intro w' hS'
    have k1 : w'.cell? ⟨g, 1, none⟩ = some (.int .i64 r.hd.st) := (RBlk.cell hS'.1 1).trans rfl
    go_simp
    with_reducible rfl
  rotate_left
  · simp only [Act.put, List.setIfInBounds_toArray, List.set_cons_zero, List.set_cons_succ, i64_w, i32_w]
    rfl
  refine take_ (i := 10) (N := some 26) (v := ?_) (a' := ?_) #[true, true, true, true, true, true, true, true, true, true, true, false, true, true, true, true, true, false, false, false, false, false, false, false, false, false, false, false, false, false, false, false, false, false, false, false, false, false] rfl rfl (by kernel_rfl) (fun _ _ _ h => h) (Or.inl ⟨by rfl, ?_⟩) hHeld ?_ ?_
  rotate_left
  · intro w' hS'
    have k6 : w'.cell? ⟨g, 6, none⟩ = some (.pointer (some ⟨gb, 0, none⟩)) := (RBlk.cell hS'.1 6).trans rfl
    go_simp
    with_reducible rfl
  rotate_left
  · simp only [Act.put, List.setIfInBounds_toArray, List.set_cons_zero, List.set_cons_succ, i64_w, i32_w]
    rfl
  refine take_ (i := 17) (N := some 33) (v := ?_) (a' := ?_) #[true, true, true, true, true, true, true, true, true, true, true, false, true, true, true, true, true, true, false, false, false, false, false, false, false, false, false, false, false, false, false, false, false, false, false, false, false, false] rfl rfl (by kernel_rfl) (fun _ _ _ h => h) (Or.inl ⟨by rfl, ?_⟩) hHeld ?_ ?_
  rotate_left
  · intro w' hS'
    have k4 : w'.cell? ⟨g, 4, none⟩ = some (.bool false) := (RBlk.cell hS'.1 4).trans (by show some (Value.bool r.hd.cl) = _; rw [HC.out])
    go_simp
    with_reducible rfl
  rotate_left
  · simp only [Act.put, List.setIfInBounds_toArray, List.set_cons_zero, List.set_cons_succ, i64_w, i32_w]
    rfl
  refine pure_ (i := 18) (N := some 34) (v := ?_) (a' := ?_) #[true, true, true, true, true, true, true, true, true, true, true, false, true, true, true, true, true, true, true, false, false, false, false, false, false, false, false, false, false, false, false, false, false, false, false, false, false, false] rfl rfl (by kernel_rfl) (fun _ _ _ h => h) (Or.inl ⟨by rfl, ?_⟩) ?_ ?_
  rotate_left
  · intro w'
    go_simp
    with_reducible rfl
  rotate_left
  · simp only [Act.put, List.setIfInBounds_toArray, List.set_cons_zero, List.set_cons_succ, i64_w, i32_w]
    rfl
  obtain ⟨wd, hwd⟩ : ∃ wd, wd = W.drew := ⟨_, rfl⟩
  have HDd := Aside0.mk (show IsD W.drew F2 gb d from HD.out.keep (Keep.of_below (F := fun _ => False) (below_drew (Below.refl _ _))) fun _ _ _ => id)
  have HWd := Aside0.mk (show Below w.heap.size w W.drew from below_drew HW.out)
  have HSd := Aside0.mk (show W.drew.heap.size = W.heap.size from rfl)
  rw [← hwd] at HDd HWd HSd hHeld ⊢
  clear hwd
  refine one_ (i := 11) (N := some 27) #[true, true, true, true, true, true, true, true, true, true, true, true, true, true, true, true, true, true, true, false, false, false, false, false, false, false, false, false, false, false, false, false, false, false, false, false, false, false] rfl rfl (by kernel_rfl) (by decide) (fun K hK => ?_)
  refine goes_ Tryz.func22 (by kernel_rfl) rfl #[.pointer (some ⟨gb, 0, none⟩)] (by rfl) rfl rfl (by simp [Act.eval]) ?_
  refine (body_calls HDd.out HM.out).mono ?_
  rintro x w3 ⟨v, rfl, hov, hfr, hbe⟩
  obtain ⟨A3, n3, rfl, hn3⟩ := own_slice2 hov
  refine ⟨_, rfl, ?_⟩
  have HOV := Aside0.mk hov
  have HFR := Aside0.mk hfr
  have HB3 := Aside0.mk (hHeld.1.below hbe)
  have HL3 := Aside0.mk (blk_below hHeld.2 hbe)
  have HBE := Aside0.mk hbe
  have hS3 := And.intro HB3.out HL3.out
  clear hov hfr hbe hHeld
  refine hK.out _ _ hS3 (fun hHeld => ?_)
  clear hK K hS3
  refine norm_ (a' := ?_) ?_ ?_
  rotate_left
  · show Act.put _ (some 27) _ = _
    simp only [Act.put, List.setIfInBounds_toArray, List.set_cons_zero, List.set_cons_succ, i64_w, i32_w]
    rfl
  refine pure_ (i := 19) (N := some 35) (v := ?_) (a' := ?_) #[true, true, true, true, true, true, true, true, true, true, true, true, true, true, true, true, true, true, true, true, false, false, false, false, false, false, false, false, false, false, false, false, false, false, false, false, false, false] rfl rfl (by kernel_rfl) (fun _ _ _ h => h) (Or.inl ⟨by rfl, ?_⟩) ?_ ?_
  rotate_left
  · intro w'
    go_simp
    with_reducible rfl
  rotate_left
  · simp only [Act.put, List.setIfInBounds_toArray, List.set_cons_zero, List.set_cons_succ, i64_w, i32_w]
    rfl
  refine pure_ (i := 20) (N := some 36) (v := ?_) (a' := ?_) #[true, true, true, true, true, true, true, true, true, true, true, true, true, true, true, true, true, true, true, true, true, false, false, false, false, false, false, false, false, false, false, false, false, false, false, false, false, false] rfl rfl (by kernel_rfl) (fun _ _ _ h => h) (Or.inl ⟨by rfl, ?_⟩) ?_ ?_
  rotate_left
  · intro w'
    go_simp
    with_reducible rfl
  rotate_left
  · simp only [Act.put, List.setIfInBounds_toArray, List.set_cons_zero, List.set_cons_succ, i64_w, i32_w]
    rfl
  refine pure_ (i := 21) (N := some 37) (v := ?_) (a' := ?_) #[true, true, true, true, true, true, true, true, true, true, true, true, true, true, true, true, true, true, true, true, true, true, false, false, false, false, false, false, false, false, false, false, false, false, false, false, false, false] rfl rfl (by kernel_rfl) (fun _ _ _ h => h) (Or.inl ⟨by rfl, ?_⟩) ?_ ?_
  rotate_left
  · intro w'
    go_simp
    with_reducible rfl
  rotate_left
  · simp only [Act.put, List.setIfInBounds_toArray, List.set_cons_zero, List.set_cons_succ, i64_w, i32_w]
    rfl
  refine pure_ (i := 22) (N := some 38) (v := ?_) (a' := ?_) #[true, true, true, true, true, true, true, true, true, true, true, true, true, true, true, true, true, true, true, true, true, true, true, false, false, false, false, false, false, false, false, false, false, false, false, false, false, false] rfl rfl (by kernel_rfl) (fun _ _ _ h => h) (Or.inl ⟨by rfl, ?_⟩) ?_ ?_
  rotate_left
  · intro w'
    go_simp
    with_reducible rfl
  rotate_left
  · simp only [Act.put, List.setIfInBounds_toArray, List.set_cons_zero, List.set_cons_succ, i64_w, i32_w]
    rfl
  refine pure_ (i := 23) (N := some 39) (v := ?_) (a' := ?_) #[true, true, true, true, true, true, true, true, true, true, true, true, true, true, true, true, true, true, true, true, true, true, true, true, false, false, false, false, false, false, false, false, false, false, false, false, false, false] rfl rfl (by kernel_rfl) (fun _ _ _ h => h) (Or.inl ⟨by rfl, ?_⟩) ?_ ?_
  rotate_left
  · intro w'
    go_simp
    with_reducible rfl
  rotate_left
  · simp only [Act.put, List.setIfInBounds_toArray, List.set_cons_zero, List.set_cons_succ, i64_w, i32_w]
    rfl
  refine take_ (i := 24) (N := some 40) (v := ?_) (a' := ?_) #[true, true, true, true, true, true, true, true, true, true, true, true, true, true, true, true, true, true, true, true, true, true, true, true, true, false, false, false, false, false, false, false, false, false, false, false, false, false] rfl rfl (by kernel_rfl) (fun _ _ _ h => h) (Or.inl ⟨by rfl, ?_⟩) hHeld ?_ ?_
  rotate_left
  · intro w' hS'
    have k7 : w'.cell? ⟨g, 7, none⟩ = some (.int .i64 r.rest) := (RBlk.cell hS'.1 7).trans rfl
    go_simp
    with_reducible rfl
  rotate_left
  · simp only [Act.put, List.setIfInBounds_toArray, List.set_cons_zero, List.set_cons_succ, i64_w, i32_w]
    rfl
  refine pure_ (i := 25) (N := some 41) (v := ?_) (a' := ?_) #[true, true, true, true, true, true, true, true, true, true, true, true, true, true, true, true, true, true, true, true, true, true, true, true, true, true, false, false, false, false, false, false, false, false, false, false, false, false] rfl rfl (by kernel_rfl) (fun _ _ _ h => h) (Or.inl ⟨by rfl, ?_⟩) ?_ ?_
  rotate_left
  · intro w'
    go_simp
    with_reducible rfl
  rotate_left
  · simp only [Act.put, List.setIfInBounds_toArray, List.set_cons_zero, List.set_cons_succ, i64_w, i32_w]
    rfl
  refine pure_ (i := 26) (N := some 42) (v := ?_) (a' := ?_) #[true, true, true, true, true, true, true, true, true, true, true, true, true, true, true, true, true, true, true, true, true, true, true, true, true, true, true, false, false, false, false, false, false, false, false, false, false, false] rfl rfl (by kernel_rfl) (fun _ _ _ h => h) (Or.inl ⟨by rfl, ?_⟩) ?_ ?_
  rotate_left
  · intro w'
    go_simp
    with_reducible rfl
  rotate_left
  · simp only [Act.put, List.setIfInBounds_toArray, List.set_cons_zero, List.set_cons_succ, i64_w, i32_w]
    rfl
  refine pure_ (i := 27) (N := some 43) (v := ?_) (a' := ?_) #[true, true, true, true, true, true, true, true, true, true, true, true, true, true, true, true, true, true, true, true, true, true, true, true, true, true, true, true, false, false, false, false, false, false, false, false, false, false] rfl rfl (by kernel_rfl) (fun _ _ _ h => h) (Or.inl ⟨by rfl, ?_⟩) ?_ ?_
  rotate_left
  · intro w'
    go_simp
    with_reducible rfl
  rotate_left
  · simp only [Act.put, List.setIfInBounds_toArray, List.set_cons_zero, List.set_cons_succ, i64_w, i32_w]
    rfl
  refine pure_ (i := 28) (N := some 44) (v := undef) (a' := ?_) #[true, true, true, true, true, true, true, true, true, true, true, true, true, true, true, true, true, true, true, true, true, true, true, true, true, true, true, true, true, false, false, false, false, false, false, false, false, false] rfl rfl (by kernel_rfl) (fun _ _ _ h => h) (Or.inr ⟨by rfl, rfl⟩) ?_ ?_
  rotate_left
  · simp only [Act.put, List.setIfInBounds_toArray, List.set_cons_zero, List.set_cons_succ, i64_w, i32_w]
    rfl
  refine pure_ (i := 29) (N := some 45) (v := undef) (a' := ?_) #[true, true, true, true, true, true, true, true, true, true, true, true, true, true, true, true, true, true, true, true, true, true, true, true, true, true, true, true, true, true, false, false, false, false, false, false, false, false] rfl rfl (by kernel_rfl) (fun _ _ _ h => h) (Or.inr ⟨by rfl, rfl⟩) ?_ ?_
  rotate_left
  · simp only [Act.put, List.setIfInBounds_toArray, List.set_cons_zero, List.set_cons_succ, i64_w, i32_w]
    rfl
  refine pure_ (i := 30) (N := some 46) (v := undef) (a' := ?_) #[true, true, true, true, true, true, true, true, true, true, true, true, true, true, true, true, true, true, true, true, true, true, true, true, true, true, true, true, true, true, true, false, false, false, false, false, false, false] rfl rfl (by kernel_rfl) (fun _ _ _ h => h) (Or.inr ⟨by rfl, rfl⟩) ?_ ?_
  rotate_left
  · simp only [Act.put, List.setIfInBounds_toArray, List.set_cons_zero, List.set_cons_succ, i64_w, i32_w]
    rfl
  refine pure_ (i := 31) (N := some 47) (v := undef) (a' := ?_) #[true, true, true, true, true, true, true, true, true, true, true, true, true, true, true, true, true, true, true, true, true, true, true, true, true, true, true, true, true, true, true, true, false, false, false, false, false, false] rfl rfl (by kernel_rfl) (fun _ _ _ h => h) (Or.inr ⟨by rfl, rfl⟩) ?_ ?_
  rotate_left
  · simp only [Act.put, List.setIfInBounds_toArray, List.set_cons_zero, List.set_cons_succ, i64_w, i32_w]
    rfl
  refine pure_ (i := 32) (N := some 48) (v := undef) (a' := ?_) #[true, true, true, true, true, true, true, true, true, true, true, true, true, true, true, true, true, true, true, true, true, true, true, true, true, true, true, true, true, true, true, true, true, false, false, false, false, false] rfl rfl (by kernel_rfl) (fun _ _ _ h => h) (Or.inr ⟨by rfl, rfl⟩) ?_ ?_
  rotate_left
  · simp only [Act.put, List.setIfInBounds_toArray, List.set_cons_zero, List.set_cons_succ, i64_w, i32_w]
    rfl
  refine pure_ (i := 33) (N := some 49) (v := undef) (a' := ?_) #[true, true, true, true, true, true, true, true, true, true, true, true, true, true, true, true, true, true, true, true, true, true, true, true, true, true, true, true, true, true, true, true, true, true, false, false, false, false] rfl rfl (by kernel_rfl) (fun _ _ _ h => h) (Or.inr ⟨by rfl, rfl⟩) ?_ ?_
  rotate_left
  · simp only [Act.put, List.setIfInBounds_toArray, List.set_cons_zero, List.set_cons_succ, i64_w, i32_w]
    rfl
  refine pure_ (i := 34) (N := some 50) (v := ?_) (a' := ?_) #[true, true, true, true, true, true, true, true, true, true, true, true, true, true, true, true, true, true, true, true, true, true, true, true, true, true, true, true, true, true, true, true, true, true, true, false, false, false] rfl rfl (by kernel_rfl) (fun _ _ _ h => h) (Or.inl ⟨by rfl, ?_⟩) ?_ ?_
  rotate_left
  · intro w'
    go_simp
    with_reducible rfl
  rotate_left
  · simp only [Act.put, List.setIfInBounds_toArray, List.set_cons_zero, List.set_cons_succ, i64_w, i32_w]
    rfl
  refine pure_ (i := 35) (N := some 51) (v := ?_) (a' := ?_) #[true, true, true, true, true, true, true, true, true, true, true, true, true, true, true, true, true, true, true, true, true, true, true, true, true, true, true, true, true, true, true, true, true, true, true, true, false, false] rfl rfl (by kernel_rfl) (fun _ _ _ h => h) (Or.inl ⟨by rfl, ?_⟩) ?_ ?_
  rotate_left
  · intro w'
    go_simp
    with_reducible rfl
  rotate_left
  · simp only [Act.put, List.setIfInBounds_toArray, List.set_cons_zero, List.set_cons_succ, i64_w, i32_w]
    rfl
  refine last_ (i := 36) (N := none) #[true, true, true, true, true, true, true, true, true, true, true, true, true, true, true, true, true, true, true, true, true, true, true, true, true, true, true, true, true, true, true, true, true, true, true, true, true, false] rfl rfl (by kernel_rfl) (by decide) (fun K hK => ?_)
  have hc0 : w3.cell? ⟨g2, 0, none⟩ = some (.int .i64 0) := (blk_cell HL3.out 0).trans rfl
  have hc1 : w3.cell? ⟨g2, 1, none⟩ = some (.slice none 0 0) := (blk_cell HL3.out 1).trans rfl
  have hc2 : w3.cell? ⟨g2, 2, none⟩ = some (.bool false) := (blk_cell HL3.out 2).trans rfl
  have hf0 := blk_frozen HL3.out 0
  have hf1 := blk_frozen HL3.out 1
  have hf2 := blk_frozen HL3.out 2
  refine skip_ (w1 := ((w3.setCell ⟨g2, 0, none⟩ (.int .i64 r.hd.st)).setCell ⟨g2, 1, none⟩ (.slice A3 d.body.length n3)).setCell ⟨g2, 2, none⟩ (.bool false)) (by rfl) rfl ?_ ?_
  · go_simp
  refine hK.out _ _ ?_
  clear hK K hc0 hc1 hc2 hf0 hf1 hf2
  refine pure_ (i := 37) (N := some 3) (v := ?_) (a' := ?_) #[true, true, true, true, true, true, true, true, true, true, true, true, true, true, true, true, true, true, true, true, true, true, true, true, true, true, true, true, true, true, true, true, true, true, true, true, true, true] rfl rfl (by kernel_rfl) (fun _ _ _ h => h) (Or.inl ⟨by rfl, ?_⟩) ?_ ?_
  rotate_left
  · intro w'
    go_simp
    with_reducible rfl
  rotate_left
  · simp only [Act.put, List.setIfInBounds_toArray, List.set_cons_zero, List.set_cons_succ, i64_w, i32_w]
    rfl
  refine done_ (by kernel_rfl) ?_
  go_wp2
  refine bodyPost_ret (results_ct rfl _ _ g2 28 #[.int .i64 r.hd.st, .slice A3 d.body.length n3, (.bool false)] (0, 0) _ rfl (cells3 (w2 := w3) HL3.out) Tryz.underlying28 rfl (by kernel_rfl)) rfl ?_
  have hks : Keep (fun k => k = g2) w3 (((w3.setCell ⟨g2, 0, none⟩ (.int .i64 r.hd.st)).setCell ⟨g2, 1, none⟩ (.slice A3 d.body.length n3)).setCell ⟨g2, 2, none⟩ (.bool false)) := (((Keep.refl (fun k => k = g2) w3).set (g := g2) rfl 0 _).set (g := g2) rfl 1 _).set (g := g2) rfl 2 _
  exact ⟨_, rfl, Own.keep HOV.out hks (fun i hi e => by have h1 := HFR.out i hi; have h2 := HS.out; have h3 := HSd.out; omega), fun k hk => by have h1 := HFR.out k hk; have h2 := HS.out; have h3 := HSd.out; omega, (below_step HWd.out HBE.out).trans (hks.below (fun k hk => by have h2 := HS.out; omega) (Nat.le_trans HWd.out.size HBE.out.size))⟩
set_option maxHeartbeats 8000000 in
set_option maxRecDepth 100000 in
theorem reply_ok2 {w : World} {F : Nat → Prop} {g : Nat} {r : R} {d : D} (h : IsR w F g r) (hz : r.e = 0) (hb : r.body = some d) (hd : d.done = true) (hm : d.body.length ≤ 1099511627776) (hc : r.hd.cl = false) (hq : r.rest = 0) :
    Calls Tryz.prog 9 #[.pointer (some ⟨g, 0, none⟩)] w fun x w' => RepPost w w' (r.hd.st, d.body, (!r.ended), 0) x := by
  have HR := Aside0.mk h
  have HE := Aside0.mk (show 0 ≤ r.e ∧ r.e ≤ 26 by omega)
  have HO := Aside0.mk (show r.over = true from by unfold R.over R.done; rw [if_pos hz, hb]; exact hd)
  have y1 : (r.e != 0) = false := bne_eq_false_iff_eq.2 hz
  have HM := Aside0.mk hm
  have HBD := Aside0.mk hb
  have HZ := Aside0.mk hz
  have HC := Aside0.mk hc
  have y5 : (r.rest == 0) = true := beq_iff_eq.2 hq
  clear hc hq
  clear h hz hd hm hb
  go_enter Tryz.func9, Tryz.ntmps9
  go_upto_region 5 with (first | (go_at_call 13; (with_reducible refine (wrongR_calls (HR.out.below (below_alloc (Below.refl _ _) _)) HE.out).mono ?_); rintro x w1 ⟨he1, rfl⟩; rw [HZ.out] at he1; subst he1) | (go_at_call 11; (with_reducible refine (over_calls (HR.out.below (below_alloc (Below.refl _ _) _))).mono ?_); rintro x w1 ⟨he1, rfl⟩; rw [HO.out] at he1; subst he1))
  obtain ⟨va, vb, F2, hB, hO, hA, hg, hb, h2⟩ := HR.out
  rw [HBD.out] at hb
  obtain ⟨gb, rfl, hD⟩ := hb
  obtain ⟨W, hW⟩ : ∃ W, W = w.alloc (Obj.cells #[.int .i64 0, .slice none 0 0, .bool false] 28) := ⟨_, rfl⟩
  obtain ⟨g2, hg2⟩ : ∃ g2, g2 = w.heap.size := ⟨_, rfl⟩
  have HW := Aside0.mk (show Below w.heap.size w W from by rw [hW]; exact below_alloc (Below.refl _ _) _)
  have HL := Aside0.mk (show W.heap[g2]? = some (.cells #[.int .i64 0, .slice none 0 0, .bool false] 28 (0, 0)) from by rw [hW, hg2]; exact blk_new w _)
  have HB := Aside0.mk (show RBlk W g va (.pointer (some ⟨gb, 0, none⟩)) r from hB.below HW.out)
  have HD := Aside0.mk (show IsD W F2 gb d from hD.below HW.out)
  have HN := Aside0.mk (show g ≠ g2 from by have := hB.lt; omega)
  have HS := Aside0.mk (show w.heap.size ≤ g2 ∧ w.heap.size ≤ W.heap.size ∧ g2 < W.heap.size from ⟨by omega, HW.out.size, blk_lt HL.out⟩)
  clear hB hO hA hg h2 hD HR
  rw [← hg2, ← hW]
  clear hW hg2
  refine start_ (n := 38) (S := fun w' => RBlk w' g va (.pointer (some ⟨gb, 0, none⟩)) r ∧ w'.heap[g2]? = some (.cells #[.int .i64 0, .slice none 0 0, .bool false] 28 (0, 0))) (ds := [36]) #[false, false, false, false, false, false, false, false, false, false, false, false, false, false, false, false, false, false, false, false, false, false, false, false, false, false, false, false, false, false, false, false, false, false, false, false, false, false] (by kernel_rfl) rfl rfl ⟨HB.out, HL.out⟩ (fun hHeld => ?_)
  refine pure_ (i := 0) (N := some 16) (v := ?_) (a' := ?_) #[true, false, false, false, false, false, false, false, false, false, false, false, false, false, false, false, false, false, false, false, false, false, false, false, false, false, false, false, false, false, false, false, false, false, false, false, false, false] rfl rfl (by kernel_rfl) (fun _ _ _ h => h) (Or.inl ⟨by rfl, ?_⟩) ?_ ?_
  rotate_left
  · intro w'
    go_simp
    with_reducible rfl
  rotate_left
  · simp only [Act.put, List.setIfInBounds_toArray, List.set_cons_zero, List.set_cons_succ, i64_w, i32_w]
    rfl
  refine pure_ (i := 1) (N := some 17) (v := ?_) (a' := ?_) #[true, true, false, false, false, false, false, false, false, false, false, false, false, false, false, false, false, false, false, false, false, false, false, false, false, false, false, false, false, false, false, false, false, false, false, false, false, false] rfl rfl (by kernel_rfl) (fun _ _ _ h => h) (Or.inl ⟨by rfl, ?_⟩) ?_ ?_
  rotate_left
  · intro w'
    go_simp
    with_reducible rfl
  rotate_left
  · simp only [Act.put, List.setIfInBounds_toArray, List.set_cons_zero, List.set_cons_succ, i64_w, i32_w]
    rfl
  refine pure_ (i := 2) (N := some 18) (v := ?_) (a' := ?_) #[true, true, true, false, false, false, false, false, false, false, false, false, false, false, false, false, false, false, false, false, false, false, false, false, false, false, false, false, false, false, false, false, false, false, false, false, false, false] rfl rfl (by kernel_rfl) (fun _ _ _ h => h) (Or.inl ⟨by rfl, ?_⟩) ?_ ?_
  rotate_left
  · intro w'
    go_simp
    with_reducible rfl
  rotate_left
  · simp only [Act.put, List.setIfInBounds_toArray, List.set_cons_zero, List.set_cons_succ, i64_w, i32_w]
    rfl
  refine pure_ (i := 3) (N := some 19) (v := ?_) (a' := ?_) #[true, true, true, true, false, false, false, false, false, false, false, false, false, false, false, false, false, false, false, false, false, false, false, false, false, false, false, false, false, false, false, false, false, false, false, false, false, false] rfl rfl (by kernel_rfl) (fun _ _ _ h => h) (Or.inl ⟨by rfl, ?_⟩) ?_ ?_
  rotate_left
  · intro w'
    go_simp
    with_reducible rfl
  rotate_left
  · simp only [Act.put, List.setIfInBounds_toArray, List.set_cons_zero, List.set_cons_succ, i64_w, i32_w]
    rfl
  refine pure_ (i := 4) (N := some 20) (v := ?_) (a' := ?_) #[true, true, true, true, true, false, false, false, false, false, false, false, false, false, false, false, false, false, false, false, false, false, false, false, false, false, false, false, false, false, false, false, false, false, false, false, false, false] rfl rfl (by kernel_rfl) (fun _ _ _ h => h) (Or.inl ⟨by rfl, ?_⟩) ?_ ?_
  rotate_left
  · intro w'
    go_simp
    with_reducible rfl
  rotate_left
  · simp only [Act.put, List.setIfInBounds_toArray, List.set_cons_zero, List.set_cons_succ, i64_w, i32_w]
    rfl
  refine pure_ (i := 6) (N := some 22) (v := ?_) (a' := ?_) #[true, true, true, true, true, false, true, false, false, false, false, false, false, false, false, false, false, false, false, false, false, false, false, false, false, false, false, false, false, false, false, false, false, false, false, false, false, false] rfl rfl (by kernel_rfl) (fun _ _ _ h => h) (Or.inl ⟨by rfl, ?_⟩) ?_ ?_
  rotate_left
  · intro w'
    go_simp
    with_reducible rfl
  rotate_left
  · simp only [Act.put, List.setIfInBounds_toArray, List.set_cons_zero, List.set_cons_succ, i64_w, i32_w]
    rfl
  refine pure_ (i := 7) (N := some 23) (v := ?_) (a' := ?_) #[true, true, true, true, true, false, true, true, false, false, false, false, false, false, false, false, false, false, false, false, false, false, false, false, false, false, false, false, false, false, false, false, false, false, false, false, false, false] rfl rfl (by kernel_rfl) (fun _ _ _ h => h) (Or.inl ⟨by rfl, ?_⟩) ?_ ?_
  rotate_left
  · intro w'
    go_simp
    with_reducible rfl
  rotate_left
  · simp only [Act.put, List.setIfInBounds_toArray, List.set_cons_zero, List.set_cons_succ, i64_w, i32_w]
    rfl
  refine pure_ (i := 8) (N := some 24) (v := ?_) (a' := ?_) #[true, true, true, true, true, false, true, true, true, false, false, false, false, false, false, false, false, false, false, false, false, false, false, false, false, false, false, false, false, false, false, false, false, false, false, false, false, false] rfl rfl (by kernel_rfl) (fun _ _ _ h => h) (Or.inl ⟨by rfl, ?_⟩) ?_ ?_
  rotate_left
  · intro w'
    go_simp
    with_reducible rfl
  rotate_left
  · simp only [Act.put, List.setIfInBounds_toArray, List.set_cons_zero, List.set_cons_succ, i64_w, i32_w]
    rfl
  refine pure_ (i := 9) (N := some 25) (v := ?_) (a' := ?_) #[true, true, true, true, true, false, true, true, true, true, false, false, false, false, false, false, false, false, false, false, false, false, false, false, false, false, false, false, false, false, false, false, false, false, false, false, false, false] rfl rfl (by kernel_rfl) (fun _ _ _ h => h) (Or.inl ⟨by rfl, ?_⟩) ?_ ?_
  rotate_left
  · intro w'
    go_simp
    with_reducible rfl
  rotate_left
  · simp only [Act.put, List.setIfInBounds_toArray, List.set_cons_zero, List.set_cons_succ, i64_w, i32_w]
    rfl
  refine pure_ (i := 12) (N := some 28) (v := ?_) (a' := ?_) #[true, true, true, true, true, false, true, true, true, true, false, false, true, false, false, false, false, false, false, false, false, false, false, false, false, false, false, false, false, false, false, false, false, false, false, false, false, false] rfl rfl (by kernel_rfl) (fun _ _ _ h => h) (Or.inl ⟨by rfl, ?_⟩) ?_ ?_
  rotate_left
  · intro w'
    go_simp
    with_reducible rfl
  rotate_left
  · simp only [Act.put, List.setIfInBounds_toArray, List.set_cons_zero, List.set_cons_succ, i64_w, i32_w]
    rfl
  refine pure_ (i := 13) (N := some 29) (v := ?_) (a' := ?_) #[true, true, true, true, true, false, true, true, true, true, false, false, true, true, false, false, false, false, false, false, false, false, false, false, false, false, false, false, false, false, false, false, false, false, false, false, false, false] rfl rfl (by kernel_rfl) (fun _ _ _ h => h) (Or.inl ⟨by rfl, ?_⟩) ?_ ?_
  rotate_left
  · intro w'
    go_simp
    with_reducible rfl
  rotate_left
  · simp only [Act.put, List.setIfInBounds_toArray, List.set_cons_zero, List.set_cons_succ, i64_w, i32_w]
    rfl
  refine pure_ (i := 14) (N := some 30) (v := ?_) (a' := ?_) #[true, true, true, true, true, false, true, true, true, true, false, false, true, true, true, false, false, false, false, false, false, false, false, false, false, false, false, false, false, false, false, false, false, false, false, false, false, false] rfl rfl (by kernel_rfl) (fun _ _ _ h => h) (Or.inl ⟨by rfl, ?_⟩) ?_ ?_
  rotate_left
  · intro w'
    go_simp
    with_reducible rfl
  rotate_left
  · simp only [Act.put, List.setIfInBounds_toArray, List.set_cons_zero, List.set_cons_succ, i64_w, i32_w]
    rfl
  refine pure_ (i := 15) (N := some 31) (v := ?_) (a' := ?_) #[true, true, true, true, true, false, true, true, true, true, false, false, true, true, true, true, false, false, false, false, false, false, false, false, false, false, false, false, false, false, false, false, false, false, false, false, false, false] rfl rfl (by kernel_rfl) (fun _ _ _ h => h) (Or.inl ⟨by rfl, ?_⟩) ?_ ?_
  rotate_left
  · intro w'
    go_simp
    with_reducible rfl
  rotate_left
  · simp only [Act.put, List.setIfInBounds_toArray, List.set_cons_zero, List.set_cons_succ, i64_w, i32_w]
    rfl
  refine pure_ (i := 16) (N := some 32) (v := ?_) (a' := ?_) #[true, true, true, true, true, false, true, true, true, true, false, false, true, true, true, true, true, false, false, false, false, false, false, false, false, false, false, false, false, false, false, false, false, false, false, false, false, false] rfl rfl (by kernel_rfl) (fun _ _ _ h => h) (Or.inl ⟨by rfl, ?_⟩) ?_ ?_
  rotate_left
  · intro w'
    go_simp
    with_reducible rfl
  rotate_left
  · simp only [Act.put, List.setIfInBounds_toArray, List.set_cons_zero, List.set_cons_succ, i64_w, i32_w]
    rfl
  refine take_ (i := 5) (N := some 21) (v := ?_) (a' := ?_) #[true, true, true, true, true, true, true, true, true, true, false, false, true, true, true, true, true, false, false, false, false, false, false, false, false, false, false, false, false, false, false, false, false, false, false, false, false, false] rfl rfl (by kernel_rfl) (fun _ _ _ h => h) (Or.inl ⟨by rfl, ?_⟩) hHeld ?_ ?_
  rotate_left
  · intro w' hS'
    have k1 : w'.cell? ⟨g, 1, none⟩ = some (.int .i64 r.hd.st) := (RBlk.cell hS'.1 1).trans rfl
    go_simp
    with_reducible rfl
  rotate_left
  · simp only [Act.put, List.setIfInBounds_toArray, List.set_cons_zero, List.set_cons_succ, i64_w, i32_w]
    rfl
  refine take_ (i := 10) (N := some 26) (v := ?_) (a' := ?_) #[true, true, true, true, true, true, true, true, true, true, true, false, true, true, true, true, true, false, false, false, false, false, false, false, false, false, false, false, false, false, false, false, false, false, false, false, false, false] rfl rfl (by kernel_rfl) (fun _ _ _ h => h) (Or.inl ⟨by rfl, ?_⟩) hHeld ?_ ?_
  rotate_left
  · intro w' hS'
    have k6 : w'.cell? ⟨g, 6, none⟩ = some (.pointer (some ⟨gb, 0, none⟩)) := (RBlk.cell hS'.1 6).trans rfl
    go_simp
    with_reducible rfl
  rotate_left
  · simp only [Act.put, List.setIfInBounds_toArray, List.set_cons_zero, List.set_cons_succ, i64_w, i32_w]
    rfl
  refine take_ (i := 17) (N := some 33) (v := ?_) (a' := ?_) #[true, true, true, true, true, true, true, true, true, true, true, false, true, true, true, true, true, true, false, false, false, false, false, false, false, false, false, false, false, false, false, false, false, false, false, false, false, false] rfl rfl (by kernel_rfl) (fun _ _ _ h => h) (Or.inl ⟨by rfl, ?_⟩) hHeld ?_ ?_
  rotate_left
  · intro w' hS'
    have k4 : w'.cell? ⟨g, 4, none⟩ = some (.bool false) := (RBlk.cell hS'.1 4).trans (by show some (Value.bool r.hd.cl) = _; rw [HC.out])
    go_simp
    with_reducible rfl
  rotate_left
  · simp only [Act.put, List.setIfInBounds_toArray, List.set_cons_zero, List.set_cons_succ, i64_w, i32_w]
    rfl
  refine pure_ (i := 18) (N := some 34) (v := ?_) (a' := ?_) #[true, true, true, true, true, true, true, true, true, true, true, false, true, true, true, true, true, true, true, false, false, false, false, false, false, false, false, false, false, false, false, false, false, false, false, false, false, false] rfl rfl (by kernel_rfl) (fun _ _ _ h => h) (Or.inl ⟨by rfl, ?_⟩) ?_ ?_
  rotate_left
  · intro w'
    go_simp
    with_reducible rfl
  rotate_left
  · simp only [Act.put, List.setIfInBounds_toArray, List.set_cons_zero, List.set_cons_succ, i64_w, i32_w]
    rfl
  obtain ⟨wd, hwd⟩ : ∃ wd, wd = W.drew := ⟨_, rfl⟩
  have HDd := Aside0.mk (show IsD W.drew F2 gb d from HD.out.keep (Keep.of_below (F := fun _ => False) (below_drew (Below.refl _ _))) fun _ _ _ => id)
  have HWd := Aside0.mk (show Below w.heap.size w W.drew from below_drew HW.out)
  have HSd := Aside0.mk (show W.drew.heap.size = W.heap.size from rfl)
  rw [← hwd] at HDd HWd HSd hHeld ⊢
  clear hwd
  refine one_ (i := 11) (N := some 27) #[true, true, true, true, true, true, true, true, true, true, true, true, true, true, true, true, true, true, true, false, false, false, false, false, false, false, false, false, false, false, false, false, false, false, false, false, false, false] rfl rfl (by kernel_rfl) (by decide) (fun K hK => ?_)
  refine goes_ Tryz.func22 (by kernel_rfl) rfl #[.pointer (some ⟨gb, 0, none⟩)] (by rfl) rfl rfl (by simp [Act.eval]) ?_
  refine (body_calls HDd.out HM.out).mono ?_
  rintro x w3 ⟨v, rfl, hov, hfr, hbe⟩
  obtain ⟨A3, n3, rfl, hn3⟩ := own_slice2 hov
  refine ⟨_, rfl, ?_⟩
  have HOV := Aside0.mk hov
  have HFR := Aside0.mk hfr
  have HB3 := Aside0.mk (hHeld.1.below hbe)
  have HL3 := Aside0.mk (blk_below hHeld.2 hbe)
  have HBE := Aside0.mk hbe
  have hS3 := And.intro HB3.out HL3.out
  clear hov hfr hbe hHeld
  refine hK.out _ _ hS3 (fun hHeld => ?_)
  clear hK K hS3
  refine norm_ (a' := ?_) ?_ ?_
  rotate_left
  · show Act.put _ (some 27) _ = _
    simp only [Act.put, List.setIfInBounds_toArray, List.set_cons_zero, List.set_cons_succ, i64_w, i32_w]
    rfl
  refine pure_ (i := 19) (N := some 35) (v := ?_) (a' := ?_) #[true, true, true, true, true, true, true, true, true, true, true, true, true, true, true, true, true, true, true, true, false, false, false, false, false, false, false, false, false, false, false, false, false, false, false, false, false, false] rfl rfl (by kernel_rfl) (fun _ _ _ h => h) (Or.inl ⟨by rfl, ?_⟩) ?_ ?_
  rotate_left
  · intro w'
    go_simp
    with_reducible rfl
  rotate_left
  · simp only [Act.put, List.setIfInBounds_toArray, List.set_cons_zero, List.set_cons_succ, i64_w, i32_w]
    rfl
  refine pure_ (i := 20) (N := some 36) (v := ?_) (a' := ?_) #[true, true, true, true, true, true, true, true, true, true, true, true, true, true, true, true, true, true, true, true, true, false, false, false, false, false, false, false, false, false, false, false, false, false, false, false, false, false] rfl rfl (by kernel_rfl) (fun _ _ _ h => h) (Or.inl ⟨by rfl, ?_⟩) ?_ ?_
  rotate_left
  · intro w'
    go_simp
    with_reducible rfl
  rotate_left
  · simp only [Act.put, List.setIfInBounds_toArray, List.set_cons_zero, List.set_cons_succ, i64_w, i32_w]
    rfl
  refine pure_ (i := 21) (N := some 37) (v := ?_) (a' := ?_) #[true, true, true, true, true, true, true, true, true, true, true, true, true, true, true, true, true, true, true, true, true, true, false, false, false, false, false, false, false, false, false, false, false, false, false, false, false, false] rfl rfl (by kernel_rfl) (fun _ _ _ h => h) (Or.inl ⟨by rfl, ?_⟩) ?_ ?_
  rotate_left
  · intro w'
    go_simp
    with_reducible rfl
  rotate_left
  · simp only [Act.put, List.setIfInBounds_toArray, List.set_cons_zero, List.set_cons_succ, i64_w, i32_w]
    rfl
  refine pure_ (i := 22) (N := some 38) (v := ?_) (a' := ?_) #[true, true, true, true, true, true, true, true, true, true, true, true, true, true, true, true, true, true, true, true, true, true, true, false, false, false, false, false, false, false, false, false, false, false, false, false, false, false] rfl rfl (by kernel_rfl) (fun _ _ _ h => h) (Or.inl ⟨by rfl, ?_⟩) ?_ ?_
  rotate_left
  · intro w'
    go_simp
    with_reducible rfl
  rotate_left
  · simp only [Act.put, List.setIfInBounds_toArray, List.set_cons_zero, List.set_cons_succ, i64_w, i32_w]
    rfl
  refine pure_ (i := 23) (N := some 39) (v := ?_) (a' := ?_) #[true, true, true, true, true, true, true, true, true, true, true, true, true, true, true, true, true, true, true, true, true, true, true, true, false, false, false, false, false, false, false, false, false, false, false, false, false, false] rfl rfl (by kernel_rfl) (fun _ _ _ h => h) (Or.inl ⟨by rfl, ?_⟩) ?_ ?_
  rotate_left
  · intro w'
    go_simp
    with_reducible rfl
  rotate_left
  · simp only [Act.put, List.setIfInBounds_toArray, List.set_cons_zero, List.set_cons_succ, i64_w, i32_w]
    rfl
  refine take_ (i := 24) (N := some 40) (v := ?_) (a' := ?_) #[true, true, true, true, true, true, true, true, true, true, true, true, true, true, true, true, true, true, true, true, true, true, true, true, true, false, false, false, false, false, false, false, false, false, false, false, false, false] rfl rfl (by kernel_rfl) (fun _ _ _ h => h) (Or.inl ⟨by rfl, ?_⟩) hHeld ?_ ?_
  rotate_left
  · intro w' hS'
    have k7 : w'.cell? ⟨g, 7, none⟩ = some (.int .i64 r.rest) := (RBlk.cell hS'.1 7).trans rfl
    go_simp
    with_reducible rfl
  rotate_left
  · simp only [Act.put, List.setIfInBounds_toArray, List.set_cons_zero, List.set_cons_succ, i64_w, i32_w]
    rfl
  refine pure_ (i := 25) (N := some 41) (v := ?_) (a' := ?_) #[true, true, true, true, true, true, true, true, true, true, true, true, true, true, true, true, true, true, true, true, true, true, true, true, true, true, false, false, false, false, false, false, false, false, false, false, false, false] rfl rfl (by kernel_rfl) (fun _ _ _ h => h) (Or.inl ⟨by rfl, ?_⟩) ?_ ?_
  rotate_left
  · intro w'
    go_simp
    with_reducible rfl
  rotate_left
  · simp only [Act.put, List.setIfInBounds_toArray, List.set_cons_zero, List.set_cons_succ, i64_w, i32_w]
    rfl
  refine pure_ (i := 26) (N := some 42) (v := ?_) (a' := ?_) #[true, true, true, true, true, true, true, true, true, true, true, true, true, true, true, true, true, true, true, true, true, true, true, true, true, true, true, false, false, false, false, false, false, false, false, false, false, false] rfl rfl (by kernel_rfl) (fun _ _ _ h => h) (Or.inl ⟨by rfl, ?_⟩) ?_ ?_
  rotate_left
  · intro w'
    go_simp
    with_reducible rfl
  rotate_left
  · simp only [Act.put, List.setIfInBounds_toArray, List.set_cons_zero, List.set_cons_succ, i64_w, i32_w]
    rfl
  refine pure_ (i := 27) (N := some 43) (v := ?_) (a' := ?_) #[true, true, true, true, true, true, true, true, true, true, true, true, true, true, true, true, true, true, true, true, true, true, true, true, true, true, true, true, false, false, false, false, false, false, false, false, false, false] rfl rfl (by kernel_rfl) (fun _ _ _ h => h) (Or.inl ⟨by rfl, ?_⟩) ?_ ?_
  rotate_left
  · intro w'
    go_simp
    with_reducible rfl
  rotate_left
  · simp only [Act.put, List.setIfInBounds_toArray, List.set_cons_zero, List.set_cons_succ, i64_w, i32_w]
    rfl
  refine pure_ (i := 28) (N := some 44) (v := ?_) (a' := ?_) #[true, true, true, true, true, true, true, true, true, true, true, true, true, true, true, true, true, true, true, true, true, true, true, true, true, true, true, true, true, false, false, false, false, false, false, false, false, false] rfl rfl (by kernel_rfl) (fun _ _ _ h => h) (Or.inl ⟨by rfl, ?_⟩) ?_ ?_
  rotate_left
  · intro w'
    go_simp
    with_reducible rfl
  rotate_left
  · simp only [Act.put, List.setIfInBounds_toArray, List.set_cons_zero, List.set_cons_succ, i64_w, i32_w]
    rfl
  refine pure_ (i := 29) (N := some 45) (v := ?_) (a' := ?_) #[true, true, true, true, true, true, true, true, true, true, true, true, true, true, true, true, true, true, true, true, true, true, true, true, true, true, true, true, true, true, false, false, false, false, false, false, false, false] rfl rfl (by kernel_rfl) (fun _ _ _ h => h) (Or.inl ⟨by rfl, ?_⟩) ?_ ?_
  rotate_left
  · intro w'
    go_simp
    with_reducible rfl
  rotate_left
  · simp only [Act.put, List.setIfInBounds_toArray, List.set_cons_zero, List.set_cons_succ, i64_w, i32_w]
    rfl
  refine pure_ (i := 30) (N := some 46) (v := ?_) (a' := ?_) #[true, true, true, true, true, true, true, true, true, true, true, true, true, true, true, true, true, true, true, true, true, true, true, true, true, true, true, true, true, true, true, false, false, false, false, false, false, false] rfl rfl (by kernel_rfl) (fun _ _ _ h => h) (Or.inl ⟨by rfl, ?_⟩) ?_ ?_
  rotate_left
  · intro w'
    go_simp
    with_reducible rfl
  rotate_left
  · simp only [Act.put, List.setIfInBounds_toArray, List.set_cons_zero, List.set_cons_succ, i64_w, i32_w]
    rfl
  refine pure_ (i := 31) (N := some 47) (v := ?_) (a' := ?_) #[true, true, true, true, true, true, true, true, true, true, true, true, true, true, true, true, true, true, true, true, true, true, true, true, true, true, true, true, true, true, true, true, false, false, false, false, false, false] rfl rfl (by kernel_rfl) (fun _ _ _ h => h) (Or.inl ⟨by rfl, ?_⟩) ?_ ?_
  rotate_left
  · intro w'
    go_simp
    with_reducible rfl
  rotate_left
  · simp only [Act.put, List.setIfInBounds_toArray, List.set_cons_zero, List.set_cons_succ, i64_w, i32_w]
    rfl
  refine take_ (i := 32) (N := some 48) (v := ?_) (a' := ?_) #[true, true, true, true, true, true, true, true, true, true, true, true, true, true, true, true, true, true, true, true, true, true, true, true, true, true, true, true, true, true, true, true, true, false, false, false, false, false] rfl rfl (by kernel_rfl) (fun _ _ _ h => h) (Or.inl ⟨by rfl, ?_⟩) hHeld ?_ ?_
  rotate_left
  · intro w' hS'
    have k8 : w'.cell? ⟨g, 8, none⟩ = some (.bool r.ended) := (RBlk.cell hS'.1 8).trans rfl
    go_simp
    with_reducible rfl
  rotate_left
  · simp only [Act.put, List.setIfInBounds_toArray, List.set_cons_zero, List.set_cons_succ, i64_w, i32_w]
    rfl
  refine pure_ (i := 33) (N := some 49) (v := ?_) (a' := ?_) #[true, true, true, true, true, true, true, true, true, true, true, true, true, true, true, true, true, true, true, true, true, true, true, true, true, true, true, true, true, true, true, true, true, true, false, false, false, false] rfl rfl (by kernel_rfl) (fun _ _ _ h => h) (Or.inl ⟨by rfl, ?_⟩) ?_ ?_
  rotate_left
  · intro w'
    go_simp
    with_reducible rfl
  rotate_left
  · simp only [Act.put, List.setIfInBounds_toArray, List.set_cons_zero, List.set_cons_succ, i64_w, i32_w]
    rfl
  refine pure_ (i := 34) (N := some 50) (v := ?_) (a' := ?_) #[true, true, true, true, true, true, true, true, true, true, true, true, true, true, true, true, true, true, true, true, true, true, true, true, true, true, true, true, true, true, true, true, true, true, true, false, false, false] rfl rfl (by kernel_rfl) (fun _ _ _ h => h) (Or.inl ⟨by rfl, ?_⟩) ?_ ?_
  rotate_left
  · intro w'
    go_simp
    with_reducible rfl
  rotate_left
  · simp only [Act.put, List.setIfInBounds_toArray, List.set_cons_zero, List.set_cons_succ, i64_w, i32_w]
    rfl
  refine pure_ (i := 35) (N := some 51) (v := ?_) (a' := ?_) #[true, true, true, true, true, true, true, true, true, true, true, true, true, true, true, true, true, true, true, true, true, true, true, true, true, true, true, true, true, true, true, true, true, true, true, true, false, false] rfl rfl (by kernel_rfl) (fun _ _ _ h => h) (Or.inl ⟨by rfl, ?_⟩) ?_ ?_
  rotate_left
  · intro w'
    go_simp
    with_reducible rfl
  rotate_left
  · simp only [Act.put, List.setIfInBounds_toArray, List.set_cons_zero, List.set_cons_succ, i64_w, i32_w]
    rfl
  refine last_ (i := 36) (N := none) #[true, true, true, true, true, true, true, true, true, true, true, true, true, true, true, true, true, true, true, true, true, true, true, true, true, true, true, true, true, true, true, true, true, true, true, true, true, false] rfl rfl (by kernel_rfl) (by decide) (fun K hK => ?_)
  have hc0 : w3.cell? ⟨g2, 0, none⟩ = some (.int .i64 0) := (blk_cell HL3.out 0).trans rfl
  have hc1 : w3.cell? ⟨g2, 1, none⟩ = some (.slice none 0 0) := (blk_cell HL3.out 1).trans rfl
  have hc2 : w3.cell? ⟨g2, 2, none⟩ = some (.bool false) := (blk_cell HL3.out 2).trans rfl
  have hf0 := blk_frozen HL3.out 0
  have hf1 := blk_frozen HL3.out 1
  have hf2 := blk_frozen HL3.out 2
  refine skip_ (w1 := ((w3.setCell ⟨g2, 0, none⟩ (.int .i64 r.hd.st)).setCell ⟨g2, 1, none⟩ (.slice A3 d.body.length n3)).setCell ⟨g2, 2, none⟩ (.bool (!r.ended))) (by rfl) rfl ?_ ?_
  · go_simp
  refine hK.out _ _ ?_
  clear hK K hc0 hc1 hc2 hf0 hf1 hf2
  refine pure_ (i := 37) (N := some 3) (v := ?_) (a' := ?_) #[true, true, true, true, true, true, true, true, true, true, true, true, true, true, true, true, true, true, true, true, true, true, true, true, true, true, true, true, true, true, true, true, true, true, true, true, true, true] rfl rfl (by kernel_rfl) (fun _ _ _ h => h) (Or.inl ⟨by rfl, ?_⟩) ?_ ?_
  rotate_left
  · intro w'
    go_simp
    with_reducible rfl
  rotate_left
  · simp only [Act.put, List.setIfInBounds_toArray, List.set_cons_zero, List.set_cons_succ, i64_w, i32_w]
    rfl
  refine done_ (by kernel_rfl) ?_
  go_wp2
  refine bodyPost_ret (results_ct rfl _ _ g2 28 #[.int .i64 r.hd.st, .slice A3 d.body.length n3, (.bool (!r.ended))] (0, 0) _ rfl (cells3 (w2 := w3) HL3.out) Tryz.underlying28 rfl (by kernel_rfl)) rfl ?_
  have hks : Keep (fun k => k = g2) w3 (((w3.setCell ⟨g2, 0, none⟩ (.int .i64 r.hd.st)).setCell ⟨g2, 1, none⟩ (.slice A3 d.body.length n3)).setCell ⟨g2, 2, none⟩ (.bool (!r.ended))) := (((Keep.refl (fun k => k = g2) w3).set (g := g2) rfl 0 _).set (g := g2) rfl 1 _).set (g := g2) rfl 2 _
  exact ⟨_, rfl, Own.keep HOV.out hks (fun i hi e => by have h1 := HFR.out i hi; have h2 := HS.out; have h3 := HSd.out; omega), fun k hk => by have h1 := HFR.out k hk; have h2 := HS.out; have h3 := HSd.out; omega, (below_step HWd.out HBE.out).trans (hks.below (fun k hk => by have h2 := HS.out; omega) (Nat.le_trans HWd.out.size HBE.out.size))⟩
theorem reply_calls {w : World} {F : Nat → Prop} {g : Nat} {r : R} (h : IsR w F g r) (he : 0 ≤ r.e ∧ r.e ≤ 26) (hm : ∀ d, r.body = some d → d.body.length ≤ 1099511627776) :
    Calls Tryz.prog 9 #[.pointer (some ⟨g, 0, none⟩)] w fun x w' => RepPost w w' (replyA r) x := by
  unfold replyA
  by_cases hz : r.e ≠ 0
  · rw [if_pos hz]; exact reply_err h he hz
  rw [if_neg hz]
  have hz : r.e = 0 := Classical.byContradiction hz
  cases hb : r.body with
  | none => exact reply_state h hz (by unfold R.done; rw [hb])
  | some d =>
    show Calls _ _ _ _ fun x w' => RepPost w w' (if d.done = true then (r.hd.st, d.body, (if r.hd.cl = true then false else if r.rest = 0 then !r.ended else false), 0) else (0, [], false, 7)) x
    cases hd : d.done with
    | false => rw [if_neg (by decide)]; exact reply_state h hz (by unfold R.done; rw [hb]; exact hd)
    | true =>
      rw [if_pos rfl]
      cases hc : r.hd.cl with
      | true => rw [if_pos rfl]; exact reply_ok0 h hz hb hd (hm d hb) hc
      | false =>
        rw [if_neg (by decide)]
        by_cases hq : r.rest = 0
        · rw [if_pos hq]; exact reply_ok2 h hz hb hd (hm d hb) hc hq
        · rw [if_neg hq]; exact reply_ok1 h hz hb hd (hm d hb) hc hq

set_option maxHeartbeats 8000000 in
set_option maxRecDepth 100000 in
theorem head_nil_ (w : World) : Calls Tryz.prog 12 #[.pointer none] w fun x w' => x = .returned (.tuple #[.agg #[.int .i64 0, .int .i64 0, .bool false, .bool false], .bool false]) ∧ Below w.heap.size w w' := by
  go_enter Tryz.func12, Tryz.ntmps12
  go_wp2
  refine bodyPost_ret (results_ct rfl _ _ w.heap.size 35 #[.int .i64 0, .int .i64 0, .bool false, .bool false] (0, 0) _ rfl (blk_new w _) Tryz.underlying35 rfl (by kernel_rfl)) rfl ?_
  exact ⟨rfl, below_alloc (Below.refl _ _) _⟩

end Go.Proofs.YtfpcoanlkfgagaaGreatDoor.RdrY
namespace Go.Proofs.YtfpcoanlkfgagaaGreatDoor.RdrK
open Go.RowKit Go.Proofs.YtfpcoanlkfgagaaGreatDoorW.PrintWords Go.Proofs.YtfpcoanlkfgagaaGreatDoorW.PrintLast Go.Proofs.YtfpcoanlkfgagaaGreatDoor.Ext Go.Proofs.YtfpcoanlkfgagaaGreatDoor.Dec Go.Proofs.YtfpcoanlkfgagaaGreatDoor.DecW Go.Proofs.YtfpcoanlkfgagaaGreatDoor.DecA Go.Proofs.YtfpcoanlkfgagaaGreatDoor.DecB Go.Proofs.YtfpcoanlkfgagaaGreatDoor.DecN Go.Proofs.YtfpcoanlkfgagaaGreatDoor.DecS Go.Proofs.YtfpcoanlkfgagaaGreatDoor.DecR Go.Proofs.YtfpcoanlkfgagaaGreatDoor.DecP Go.Proofs.YtfpcoanlkfgagaaGreatDoor.DecQ Go.Proofs.YtfpcoanlkfgagaaGreatDoor.DecE Go.Proofs.YtfpcoanlkfgagaaGreatDoor.Is Go.Proofs.YtfpcoanlkfgagaaGreatDoor.Rdr Go.Proofs.YtfpcoanlkfgagaaGreatDoor.RdrP Go.Proofs.YtfpcoanlkfgagaaGreatDoor.RdrW Go.Proofs.YtfpcoanlkfgagaaGreatDoor.RdrQ Go.Proofs.YtfpcoanlkfgagaaGreatDoor.RdrY
set_option linter.unusedVariables false
set_option linter.unusedSimpArgs false
/-- []byte(s) as a row of one's own, its address told. -/
theorem conv_mine {P : Program} {o : Oper} {a : Act} {K : Act → World → Prop} {Q : Exit → Act → World → Prop} {W : World} {src dst e : TypeId} {u : TypeDesc}
    (hs : P.underlying src = some u) (hd : P.underlying dst = some (.slice e)) (he : P.underlying e = some (.int .u8))
    (s : ByteArray) (t : List Int) (hA : bytesConv.f s = some t)
    (h : ∀ c w1, t.length ≤ c → Kd.C (Kd.int .u8) w1 (some ⟨W.heap.size, 0, none⟩) t.length t → Below W.heap.size W w1 → Oper.upon P o a K Q (.ok (Next.value (.slice (some ⟨W.heap.size, 0, none⟩) t.length c)) w1)) :
    Oper.upon P o a K Q ((Sem.run P (convert src dst (.string s)) W).andThen fun a w' => Result.ok (Next.value a) w') := by
  unfold bytesConv.f at hA
  split at hA
  · rename_i hsz
    obtain rfl := Option.some.inj hA
    rw [show Sem.run P (convert src dst (.string s)) W = _ from print_bytes src dst e hs hd he s W]
    have hV := bytesConv_V W e s hsz
    obtain ⟨A, c, hv, hl, hF⟩ := hV
    injection hv with h1 h2 h3
    have h4 : grownCap W s.size 0 e = c := h3
    rw [h4, show s.size = (bytesOf s).length from h2]
    subst h1
    exact h _ _ hl (hF _ fun k _ _ => rfl) (bytesConv_below W e s)
  · cases hA
noncomputable abbrev P60 : List Int → Option Ans := fun l => PA.head_Parse.f 60 l
theorem hP60 : ∀ l t, P60 l = some t → ∃ k, PA.head_Parse.f k l = some t := fun l t h => ⟨60, h⟩

set_option maxRecDepth 100000 in
theorem parse0 : P60 [72, 84, 84, 80, 47, 49, 46, 49, 32, 50, 48, 48, 32, 79, 75, 13, 10, 67, 111, 110, 116, 101, 110, 116, 45, 76, 101, 110, 103, 116, 104, 58, 32, 50, 13, 10, 13, 10, 97, 98] = some (200, 2, false, false, 38, 0) := by decide +kernel
set_option maxRecDepth 100000 in
theorem bytes0 : bytesConv.f (⟨#[72, 84, 84, 80, 47, 49, 46, 49, 32, 50, 48, 48, 32, 79, 75, 13, 10, 67, 111, 110, 116, 101, 110, 116, 45, 76, 101, 110, 103, 116, 104, 58, 32, 50, 13, 10, 13, 10, 97, 98]⟩ : ByteArray) = some [72, 84, 84, 80, 47, 49, 46, 49, 32, 50, 48, 48, 32, 79, 75, 13, 10, 67, 111, 110, 116, 101, 110, 116, 45, 76, 101, 110, 103, 116, 104, 58, 32, 50, 13, 10, 13, 10, 97, 98] := by decide +kernel
set_option maxRecDepth 100000 in
theorem pushed0 : pushR P60 (newR 9) [72, 84, 84, 80, 47, 49, 46, 49, 32, 50, 48, 48, 32, 79, 75, 13, 10, 67, 111, 110, 116, 101, 110, 116, 45, 76, 101, 110, 103, 116, 104, 58, 32, 50, 13, 10, 13, 10, 97, 98] = some ⟨[], ⟨200, 2, false, false⟩, true, some ⟨.nil, 9, 0, 0, [], 0, [97, 98], false, true, 0⟩, 0, false, 0, 9⟩ := by
  unfold pushR
  rw [if_neg (by decide), if_neg (by decide)]
  show (P60 [72, 84, 84, 80, 47, 49, 46, 49, 32, 50, 48, 48, 32, 79, 75, 13, 10, 67, 111, 110, 116, 101, 110, 116, 45, 76, 101, 110, 103, 116, 104, 58, 32, 50, 13, 10, 13, 10, 97, 98]).bind _ = _
  rw [parse0, Option.bind_some]
  rw [if_neg (by decide), if_pos ⟨rfl, by decide, by decide +kernel⟩, if_pos rfl]
  rw [show List.drop (Int.toNat (200, (2 : Int), false, false, (38 : Int), (0 : Int)).2.2.2.2.1) ((newR 9).ahead ++ [72, 84, 84, 80, 47, 49, 46, 49, 32, 50, 48, 48, 32, 79, 75, 13, 10, 67, 111, 110, 116, 101, 110, 116, 45, 76, 101, 110, 103, 116, 104, 58, 32, 50, 13, 10, 13, 10, 97, 98]) = [97, 98] from by decide +kernel]
  rfl
set_option maxRecDepth 100000 in
theorem parse1 : P60 [72, 84, 84, 80, 47, 49, 46, 49, 32, 52, 48, 52, 32, 78, 111, 13, 10, 32, 13, 10] = some (0, 0, false, false, 0, 10) := by decide +kernel
set_option maxRecDepth 100000 in
theorem bytes1 : bytesConv.f (⟨#[72, 84, 84, 80, 47, 49, 46, 49, 32, 52, 48, 52, 32, 78, 111, 13, 10, 32, 13, 10]⟩ : ByteArray) = some [72, 84, 84, 80, 47, 49, 46, 49, 32, 52, 48, 52, 32, 78, 111, 13, 10, 32, 13, 10] := by decide +kernel
set_option maxRecDepth 100000 in
theorem pushed1 : pushR P60 (newR 9) [72, 84, 84, 80, 47, 49, 46, 49, 32, 52, 48, 52, 32, 78, 111, 13, 10, 32, 13, 10] = some ⟨[], ⟨0, 0, false, false⟩, false, none, 0, false, 10, 9⟩ := by
  unfold pushR
  rw [if_neg (by decide), if_neg (by decide)]
  show (P60 [72, 84, 84, 80, 47, 49, 46, 49, 32, 52, 48, 52, 32, 78, 111, 13, 10, 32, 13, 10]).bind _ = _
  rw [parse1, Option.bind_some]
  rw [if_pos rfl]
  rfl
set_option maxRecDepth 100000 in
theorem parse2 : P60 [72, 84, 84, 80, 47, 49, 46, 49, 32, 52, 48, 52, 32, 78, 111, 13, 10, 13, 10] = some (404, -1, false, true, 19, 0) := by decide +kernel
set_option maxRecDepth 100000 in
theorem bytes2 : bytesConv.f (⟨#[72, 84, 84, 80, 47, 49, 46, 49, 32, 52, 48, 52, 32, 78, 111, 13, 10, 13, 10]⟩ : ByteArray) = some [72, 84, 84, 80, 47, 49, 46, 49, 32, 52, 48, 52, 32, 78, 111, 13, 10, 13, 10] := by decide +kernel
set_option maxRecDepth 100000 in
theorem pushed2 : pushR P60 (newR 9) [72, 84, 84, 80, 47, 49, 46, 49, 32, 52, 48, 52, 32, 78, 111, 13, 10, 13, 10] = some ⟨[], ⟨404, -1, false, true⟩, true, none, 0, false, 14, 9⟩ := by
  unfold pushR
  rw [if_neg (by decide), if_neg (by decide)]
  show (P60 [72, 84, 84, 80, 47, 49, 46, 49, 32, 52, 48, 52, 32, 78, 111, 13, 10, 13, 10]).bind _ = _
  rw [parse2, Option.bind_some]
  rw [if_neg (by decide), if_pos ⟨rfl, by decide, by decide +kernel⟩, if_neg (by decide)]
  rfl
theorem keepL {w w' : World} {g : Nat} {cs : Array Value} {t : TypeId} {fr : Nat × Nat} (h : w.heap[g]? = some (.cells cs t fr)) (k : Below w.heap.size w w') : w'.heap[g]? = some (.cells cs t fr) := blk_below h k

set_option maxHeartbeats 16000000 in
set_option maxRecDepth 100000 in
theorem known_calls (w : World) (hG : Glob w) : Calls Tryz.prog 5 #[] w fun e w' => e = .returned (.bool true) ∧ Below w.heap.size w w' := by
  have HZ := Aside0.mk (show 0 < w.heap.size by obtain ⟨m, hm⟩ := hG; exact World.block_lt_of_cell? w ⟨0, 0, none⟩ hm)
  have HG := Aside0.mk hG
  clear hG
  go_enter Tryz.func5, Tryz.ntmps5
  go_upto_region 3 with (fail)
  obtain ⟨gl, hgl⟩ : ∃ gl, gl = w.heap.size := ⟨_, rfl⟩
  obtain ⟨gw, hgw⟩ : ∃ gw, gw = w.heap.size + 1 := ⟨_, rfl⟩
  obtain ⟨W, hW⟩ : ∃ W, W = (w.alloc (Obj.cells #[.string (⟨#[72, 84, 84, 80, 47, 49, 46, 49, 32, 50, 48, 48, 32, 79, 75, 13, 10, 67, 111, 110, 116, 101, 110, 116, 45, 76, 101, 110, 103, 116, 104, 58, 32, 50, 13, 10, 13, 10, 97, 98]⟩ : ByteArray), .string (⟨#[72, 84, 84, 80, 47, 49, 46, 49, 32, 52, 48, 52, 32, 78, 111, 13, 10, 32, 13, 10]⟩ : ByteArray), .string (⟨#[72, 84, 84, 80, 47, 49, 46, 49, 32, 52, 48, 52, 32, 78, 111, 13, 10, 13, 10]⟩ : ByteArray)] 9)).alloc (Obj.cells #[.int .i64 0, .int .i64 10, .int .i64 14] 29) := ⟨_, rfl⟩
  have HLW := Aside0.mk (show W.heap[gl]? = some (.cells #[.string (⟨#[72, 84, 84, 80, 47, 49, 46, 49, 32, 50, 48, 48, 32, 79, 75, 13, 10, 67, 111, 110, 116, 101, 110, 116, 45, 76, 101, 110, 103, 116, 104, 58, 32, 50, 13, 10, 13, 10, 97, 98]⟩ : ByteArray), .string (⟨#[72, 84, 84, 80, 47, 49, 46, 49, 32, 52, 48, 52, 32, 78, 111, 13, 10, 32, 13, 10]⟩ : ByteArray), .string (⟨#[72, 84, 84, 80, 47, 49, 46, 49, 32, 52, 48, 52, 32, 78, 111, 13, 10, 13, 10]⟩ : ByteArray)] 9 (0, 0)) from by rw [hW, hgl]; exact blk_alloc (blk_new w _) _)
  have HWW := Aside0.mk (show W.heap[gw]? = some (.cells #[.int .i64 0, .int .i64 10, .int .i64 14] 29 (0, 0)) from by rw [hW, hgw]; exact two_blk w _ _)
  have HBW := Aside0.mk (show Below w.heap.size w W from by rw [hW]; exact below_alloc (below_alloc (Below.refl _ _) _) _)
  rw [← hgw, ← hgl, ← hW]
  clear hW hgl hgw
  go_upto_region 4 with (fail)
  go_loopg [3] 3 (fun kq v3 w' => ∃ i : Nat, v3 = .int .i64 (i : Int) ∧ Aside0 (kq + i = 3) ∧ Aside0 (w'.heap[gl]? = some (.cells #[.string (⟨#[72, 84, 84, 80, 47, 49, 46, 49, 32, 50, 48, 48, 32, 79, 75, 13, 10, 67, 111, 110, 116, 101, 110, 116, 45, 76, 101, 110, 103, 116, 104, 58, 32, 50, 13, 10, 13, 10, 97, 98]⟩ : ByteArray), .string (⟨#[72, 84, 84, 80, 47, 49, 46, 49, 32, 52, 48, 52, 32, 78, 111, 13, 10, 32, 13, 10]⟩ : ByteArray), .string (⟨#[72, 84, 84, 80, 47, 49, 46, 49, 32, 52, 48, 52, 32, 78, 111, 13, 10, 13, 10]⟩ : ByteArray)] 9 (0, 0))) ∧ Aside0 (w'.heap[gw]? = some (.cells #[.int .i64 0, .int .i64 10, .int .i64 14] 29 (0, 0))) ∧ Aside0 (Below w.heap.size w w'))
  case atStart => exact ⟨0, rfl, ⟨rfl⟩, HLW, HWW, HBW⟩
  case round =>
    clear HLW HWW HBW
    obtain ⟨i, rfl, HI, HLW, HWW, HBW⟩ := hrel
    have hw : i = 0 ∨ i = 1 ∨ i = 2 ∨ i = 3 := by have := HI.out; omega
    have hG0 := HG.out.below HBW.out
    have HGR := Aside0.mk hG0
    have HZR := Aside0.mk (Nat.lt_of_lt_of_le HZ.out HBW.out.size)
    clear hG0
    rcases hw with rfl | rfl | rfl | rfl
    · obtain rfl : gk = 3 := by have := HI.out; omega
      have l0 : wr.cell? ⟨gl, 0, none⟩ = some (.string (⟨#[72, 84, 84, 80, 47, 49, 46, 49, 32, 50, 48, 48, 32, 79, 75, 13, 10, 67, 111, 110, 116, 101, 110, 116, 45, 76, 101, 110, 103, 116, 104, 58, 32, 50, 13, 10, 13, 10, 97, 98]⟩ : ByteArray)) := (blk_cell HLW.out 0).trans rfl
      go_upto_region 9 with (first | (go_at_call 6; (with_reducible refine (new_calls_ 9 _).mono ?_); rintro x w1 ⟨g, rfl, h1, hg1, hb1⟩; have HR := Aside0.mk (IsR.bound h1); have HN := Aside0.mk hg1; have HB := Aside0.mk hb1; clear h1 hg1 hb1))
      have HL1 := Aside0.mk (keepL HLW.out HB.out)
      have HW1 := Aside0.mk (keepL HWW.out HB.out)
      clear l0
      have l0 : w1.cell? ⟨gl, 0, none⟩ = some (.string (⟨#[72, 84, 84, 80, 47, 49, 46, 49, 32, 50, 48, 48, 32, 79, 75, 13, 10, 67, 111, 110, 116, 101, 110, 116, 45, 76, 101, 110, 103, 116, 104, 58, 32, 50, 13, 10, 13, 10, 97, 98]⟩ : ByteArray)) := (blk_cell HL1.out 0).trans rfl
      go_upto_region 10 with (first | (refine conv_mine Tryz.underlying9 Tryz.underlying22 Tryz.underlying5 _ [72, 84, 84, 80, 47, 49, 46, 49, 32, 50, 48, 48, 32, 79, 75, 13, 10, 67, 111, 110, 116, 101, 110, 116, 45, 76, 101, 110, 103, 116, 104, 58, 32, 50, 13, 10, 13, 10, 97, 98] bytes0 ?_; intro cc w2 hcc hC hb2; have HC := Aside0.mk hC; have HCC := Aside0.mk hcc; have HB2 := Aside0.mk hb2; clear hC hcc hb2; have HPC := Aside0.mk (show Calls Tryz.prog 7 #[.pointer (some ⟨g, 0, none⟩), .slice (some ⟨w1.heap.size, 0, none⟩) 40 cc] w2 (fun x w' => x = .returned (.tuple #[]) ∧ RPushed w2 w' (fun i => i = g ∧ i < w1.heap.size) g ⟨[], ⟨200, 2, false, false⟩, true, some ⟨.nil, 9, 0, 0, [], 0, [97, 98], false, true, 0⟩, 0, false, 0, 9⟩) from pushR_calls (bs := [72, 84, 84, 80, 47, 49, 46, 49, 32, 50, 48, 48, 32, 79, 75, 13, 10, 67, 111, 110, 116, 101, 110, 116, 45, 76, 101, 110, 103, 116, 104, 58, 32, 50, 13, 10, 13, 10, 97, 98]) hP60 (HR.out.below HB2.out) (fun h => by have h1 := h.1; have h2 := HN.out; have h3 := HZR.out; omega) (fun ad e _ hf => by injection e with e; subst e; have h1 := hf.2; exact absurd h1 (Nat.lt_irrefl _)) ((HGR.out.below HB.out).below HB2.out) (by decide) HCC.out HC.out pushed0)) | (go_at_call 7; (with_reducible refine HPC.out.mono ?_); rintro x w3 ⟨rfl, hp⟩; have HP := Aside0.mk hp; clear hp HPC))
      obtain ⟨F3, hR3, hF3, hK3⟩ := HP.out
      have HR3 := Aside0.mk hR3
      have HK3 := Aside0.mk hK3
      have HB3 := Aside0.mk (show Below wr.heap.size wr w3 from (below_step HB.out HB2.out).trans (hK3.below (fun k hk => by have h1 := hk.1; have h2 := HN.out; omega) (Nat.le_trans HB.out.size HB2.out.size)))
      clear hR3 hF3 hK3 HR HC HCC HP l0
      have HRA := Aside0.mk (show replyA ⟨[], ⟨200, 2, false, false⟩, true, some ⟨.nil, 9, 0, 0, [], 0, [97, 98], false, true, 0⟩, 0, false, 0, 9⟩ = (200, [97, 98], true, 0) from rfl)
      go_upto_region 11 with (first | (go_at_call 9; (with_reducible refine (reply_calls HR3.out (by decide) (fun d hd => by first | (injection hd with hd; subst hd; decide) | cases hd)).mono ?_); rintro x w4 ⟨v, hx, ho, hfr, hb4⟩; rw [HRA.out] at hx ho; subst hx; obtain ⟨A3, n3, rfl, hn3⟩ := own_slice2 ho; have HO4 := Aside0.mk ho; have HB4 := Aside0.mk hb4; clear ho hfr hb4))
      obtain ⟨g5, hg5⟩ : ∃ g5, g5 = w4.heap.size := ⟨_, rfl⟩
      obtain ⟨w5, hw5⟩ : ∃ w5, w5 = w4.alloc (Obj.cells #[.int .i64 200, .slice A3 2 n3, .bool true] 28) := ⟨_, rfl⟩
      have HL5 := Aside0.mk (show w5.heap[g5]? = some (.cells #[.int .i64 200, .slice A3 2 n3, .bool true] 28 (0, 0)) from by rw [hw5, hg5]; exact blk_new w4 _)
      have HB45 := Aside0.mk (show Below w4.heap.size w4 w5 from by rw [hw5]; exact below_alloc (Below.refl _ _) _)
      have HB5 := Aside0.mk (below_step (below_step HB3.out HB4.out) HB45.out)
      have HR5 := Aside0.mk ((HR3.out.below HB4.out).below HB45.out)
      have HO5 := Aside0.mk (show Own w5 (.slice A3 2 n3) [97, 98] from Own.keep HO4.out (Keep.of_below (F := fun _ => False) HB45.out) fun _ _ => id)
      have HOV := Aside0.mk (show R.over ⟨[], ⟨200, 2, false, false⟩, true, some ⟨.nil, 9, 0, 0, [], 0, [97, 98], false, true, 0⟩, 0, false, 0, 9⟩ = true from rfl)
      have HL6 := Aside0.mk (keepL HLW.out HB5.out)
      have HW6 := Aside0.mk (keepL HWW.out HB5.out)
      have HB6 := Aside0.mk (below_step HBW.out HB5.out)
      have e0 : w5.cell? ⟨gw, 0, none⟩ = some (.int .i64 0) := (blk_cell HW6.out 0).trans rfl
      have k0 : w5.cell? ⟨g5, 0, none⟩ = some (.int .i64 200) := (blk_cell HL5.out 0).trans rfl
      have k1 : w5.cell? ⟨g5, 1, none⟩ = some (.slice A3 2 n3) := (blk_cell HL5.out 1).trans rfl
      have k2 : w5.cell? ⟨g5, 2, none⟩ = some (.bool true) := (blk_cell HL5.out 2).trans rfl
      have hs2 : strOfNums [97, 98] = (⟨#[97, 98]⟩ : ByteArray) := by rfl
      obtain ⟨A9, n9, hv9, _, hC9⟩ := own_C (show w5.ownsRow 0 5 1 (.slice A3 2 n3) ([97, 98] : List Int).length (nums .u8 [97, 98]) from HO5.out)
      injection hv9 with hv1 _ hv2
      subst hv1 hv2
      have hcv := C_string0 (P := Tryz.prog) (c := n3) Tryz.underlying22 Tryz.underlying5 Tryz.underlying9 (show Kd.C (Kd.int .u8) w5 A3 2 [97, 98] from hC9)
      clear hC9
      rw [← hg5, ← hw5]
      clear hg5 hw5
      go_wp2_with (first | (go_at_call 11; (with_reducible refine (over_calls HR5.out).mono ?_); rintro x w_ ⟨hx, rfl⟩; rw [HOV.out] at hx; subst hx))
      go_roundg 2
      case measure => omega
      case rel => exact ⟨1, rfl, ⟨rfl⟩, HL6, HW6, HB6⟩
    · obtain rfl : gk = 2 := by have := HI.out; omega
      have l1 : wr.cell? ⟨gl, 1, none⟩ = some (.string (⟨#[72, 84, 84, 80, 47, 49, 46, 49, 32, 52, 48, 52, 32, 78, 111, 13, 10, 32, 13, 10]⟩ : ByteArray)) := (blk_cell HLW.out 1).trans rfl
      go_upto_region 9 with (first | (go_at_call 6; (with_reducible refine (new_calls_ 9 _).mono ?_); rintro x w1 ⟨g, rfl, h1, hg1, hb1⟩; have HR := Aside0.mk (IsR.bound h1); have HN := Aside0.mk hg1; have HB := Aside0.mk hb1; clear h1 hg1 hb1))
      have HL1 := Aside0.mk (keepL HLW.out HB.out)
      have HW1 := Aside0.mk (keepL HWW.out HB.out)
      clear l1
      have l1 : w1.cell? ⟨gl, 1, none⟩ = some (.string (⟨#[72, 84, 84, 80, 47, 49, 46, 49, 32, 52, 48, 52, 32, 78, 111, 13, 10, 32, 13, 10]⟩ : ByteArray)) := (blk_cell HL1.out 1).trans rfl
      go_upto_region 10 with (first | (refine conv_mine Tryz.underlying9 Tryz.underlying22 Tryz.underlying5 _ [72, 84, 84, 80, 47, 49, 46, 49, 32, 52, 48, 52, 32, 78, 111, 13, 10, 32, 13, 10] bytes1 ?_; intro cc w2 hcc hC hb2; have HC := Aside0.mk hC; have HCC := Aside0.mk hcc; have HB2 := Aside0.mk hb2; clear hC hcc hb2; have HPC := Aside0.mk (show Calls Tryz.prog 7 #[.pointer (some ⟨g, 0, none⟩), .slice (some ⟨w1.heap.size, 0, none⟩) 20 cc] w2 (fun x w' => x = .returned (.tuple #[]) ∧ RPushed w2 w' (fun i => i = g ∧ i < w1.heap.size) g ⟨[], ⟨0, 0, false, false⟩, false, none, 0, false, 10, 9⟩) from pushR_calls (bs := [72, 84, 84, 80, 47, 49, 46, 49, 32, 52, 48, 52, 32, 78, 111, 13, 10, 32, 13, 10]) hP60 (HR.out.below HB2.out) (fun h => by have h1 := h.1; have h2 := HN.out; have h3 := HZR.out; omega) (fun ad e _ hf => by injection e with e; subst e; have h1 := hf.2; exact absurd h1 (Nat.lt_irrefl _)) ((HGR.out.below HB.out).below HB2.out) (by decide) HCC.out HC.out pushed1)) | (go_at_call 7; (with_reducible refine HPC.out.mono ?_); rintro x w3 ⟨rfl, hp⟩; have HP := Aside0.mk hp; clear hp HPC))
      obtain ⟨F3, hR3, hF3, hK3⟩ := HP.out
      have HR3 := Aside0.mk hR3
      have HK3 := Aside0.mk hK3
      have HB3 := Aside0.mk (show Below wr.heap.size wr w3 from (below_step HB.out HB2.out).trans (hK3.below (fun k hk => by have h1 := hk.1; have h2 := HN.out; omega) (Nat.le_trans HB.out.size HB2.out.size)))
      clear hR3 hF3 hK3 HR HC HCC HP l1
      have HRA := Aside0.mk (show replyA ⟨[], ⟨0, 0, false, false⟩, false, none, 0, false, 10, 9⟩ = (0, [], false, 10) from rfl)
      go_upto_region 11 with (first | (go_at_call 9; (with_reducible refine (reply_calls HR3.out (by decide) (fun d hd => by first | (injection hd with hd; subst hd; decide) | cases hd)).mono ?_); rintro x w4 ⟨v, hx, ho, hfr, hb4⟩; rw [HRA.out] at hx ho; subst hx; obtain ⟨A3, n3, rfl, hn3⟩ := own_slice2 ho; have HO4 := Aside0.mk ho; have HB4 := Aside0.mk hb4; clear ho hfr hb4))
      obtain ⟨g5, hg5⟩ : ∃ g5, g5 = w4.heap.size := ⟨_, rfl⟩
      obtain ⟨w5, hw5⟩ : ∃ w5, w5 = w4.alloc (Obj.cells #[.int .i64 0, .slice A3 0 n3, .bool false] 28) := ⟨_, rfl⟩
      have HL5 := Aside0.mk (show w5.heap[g5]? = some (.cells #[.int .i64 0, .slice A3 0 n3, .bool false] 28 (0, 0)) from by rw [hw5, hg5]; exact blk_new w4 _)
      have HB45 := Aside0.mk (show Below w4.heap.size w4 w5 from by rw [hw5]; exact below_alloc (Below.refl _ _) _)
      have HB5 := Aside0.mk (below_step (below_step HB3.out HB4.out) HB45.out)
      have HR5 := Aside0.mk ((HR3.out.below HB4.out).below HB45.out)
      have HO5 := Aside0.mk (show Own w5 (.slice A3 0 n3) [] from Own.keep HO4.out (Keep.of_below (F := fun _ => False) HB45.out) fun _ _ => id)
      have HOV := Aside0.mk (show R.over ⟨[], ⟨0, 0, false, false⟩, false, none, 0, false, 10, 9⟩ = true from rfl)
      have HL6 := Aside0.mk (keepL HLW.out HB5.out)
      have HW6 := Aside0.mk (keepL HWW.out HB5.out)
      have HB6 := Aside0.mk (below_step HBW.out HB5.out)
      have e1 : w5.cell? ⟨gw, 1, none⟩ = some (.int .i64 10) := (blk_cell HW6.out 1).trans rfl
      rw [← hg5, ← hw5]
      clear hg5 hw5
      go_wp2_with (first | (go_at_call 11; (with_reducible refine (over_calls HR5.out).mono ?_); rintro x w_ ⟨hx, rfl⟩; rw [HOV.out] at hx; subst hx))
      go_roundg 1
      case measure => omega
      case rel => exact ⟨2, rfl, ⟨rfl⟩, HL6, HW6, HB6⟩
    · obtain rfl : gk = 1 := by have := HI.out; omega
      have l2 : wr.cell? ⟨gl, 2, none⟩ = some (.string (⟨#[72, 84, 84, 80, 47, 49, 46, 49, 32, 52, 48, 52, 32, 78, 111, 13, 10, 13, 10]⟩ : ByteArray)) := (blk_cell HLW.out 2).trans rfl
      go_upto_region 9 with (first | (go_at_call 6; (with_reducible refine (new_calls_ 9 _).mono ?_); rintro x w1 ⟨g, rfl, h1, hg1, hb1⟩; have HR := Aside0.mk (IsR.bound h1); have HN := Aside0.mk hg1; have HB := Aside0.mk hb1; clear h1 hg1 hb1))
      have HL1 := Aside0.mk (keepL HLW.out HB.out)
      have HW1 := Aside0.mk (keepL HWW.out HB.out)
      clear l2
      have l2 : w1.cell? ⟨gl, 2, none⟩ = some (.string (⟨#[72, 84, 84, 80, 47, 49, 46, 49, 32, 52, 48, 52, 32, 78, 111, 13, 10, 13, 10]⟩ : ByteArray)) := (blk_cell HL1.out 2).trans rfl
      go_upto_region 10 with (first | (refine conv_mine Tryz.underlying9 Tryz.underlying22 Tryz.underlying5 _ [72, 84, 84, 80, 47, 49, 46, 49, 32, 52, 48, 52, 32, 78, 111, 13, 10, 13, 10] bytes2 ?_; intro cc w2 hcc hC hb2; have HC := Aside0.mk hC; have HCC := Aside0.mk hcc; have HB2 := Aside0.mk hb2; clear hC hcc hb2; have HPC := Aside0.mk (show Calls Tryz.prog 7 #[.pointer (some ⟨g, 0, none⟩), .slice (some ⟨w1.heap.size, 0, none⟩) 19 cc] w2 (fun x w' => x = .returned (.tuple #[]) ∧ RPushed w2 w' (fun i => i = g ∧ i < w1.heap.size) g ⟨[], ⟨404, -1, false, true⟩, true, none, 0, false, 14, 9⟩) from pushR_calls (bs := [72, 84, 84, 80, 47, 49, 46, 49, 32, 52, 48, 52, 32, 78, 111, 13, 10, 13, 10]) hP60 (HR.out.below HB2.out) (fun h => by have h1 := h.1; have h2 := HN.out; have h3 := HZR.out; omega) (fun ad e _ hf => by injection e with e; subst e; have h1 := hf.2; exact absurd h1 (Nat.lt_irrefl _)) ((HGR.out.below HB.out).below HB2.out) (by decide) HCC.out HC.out pushed2)) | (go_at_call 7; (with_reducible refine HPC.out.mono ?_); rintro x w3 ⟨rfl, hp⟩; have HP := Aside0.mk hp; clear hp HPC))
      obtain ⟨F3, hR3, hF3, hK3⟩ := HP.out
      have HR3 := Aside0.mk hR3
      have HK3 := Aside0.mk hK3
      have HB3 := Aside0.mk (show Below wr.heap.size wr w3 from (below_step HB.out HB2.out).trans (hK3.below (fun k hk => by have h1 := hk.1; have h2 := HN.out; omega) (Nat.le_trans HB.out.size HB2.out.size)))
      clear hR3 hF3 hK3 HR HC HCC HP l2
      have HRA := Aside0.mk (show replyA ⟨[], ⟨404, -1, false, true⟩, true, none, 0, false, 14, 9⟩ = (0, [], false, 14) from rfl)
      go_upto_region 11 with (first | (go_at_call 9; (with_reducible refine (reply_calls HR3.out (by decide) (fun d hd => by first | (injection hd with hd; subst hd; decide) | cases hd)).mono ?_); rintro x w4 ⟨v, hx, ho, hfr, hb4⟩; rw [HRA.out] at hx ho; subst hx; obtain ⟨A3, n3, rfl, hn3⟩ := own_slice2 ho; have HO4 := Aside0.mk ho; have HB4 := Aside0.mk hb4; clear ho hfr hb4))
      obtain ⟨g5, hg5⟩ : ∃ g5, g5 = w4.heap.size := ⟨_, rfl⟩
      obtain ⟨w5, hw5⟩ : ∃ w5, w5 = w4.alloc (Obj.cells #[.int .i64 0, .slice A3 0 n3, .bool false] 28) := ⟨_, rfl⟩
      have HL5 := Aside0.mk (show w5.heap[g5]? = some (.cells #[.int .i64 0, .slice A3 0 n3, .bool false] 28 (0, 0)) from by rw [hw5, hg5]; exact blk_new w4 _)
      have HB45 := Aside0.mk (show Below w4.heap.size w4 w5 from by rw [hw5]; exact below_alloc (Below.refl _ _) _)
      have HB5 := Aside0.mk (below_step (below_step HB3.out HB4.out) HB45.out)
      have HR5 := Aside0.mk ((HR3.out.below HB4.out).below HB45.out)
      have HO5 := Aside0.mk (show Own w5 (.slice A3 0 n3) [] from Own.keep HO4.out (Keep.of_below (F := fun _ => False) HB45.out) fun _ _ => id)
      have HOV := Aside0.mk (show R.over ⟨[], ⟨404, -1, false, true⟩, true, none, 0, false, 14, 9⟩ = true from rfl)
      have HL6 := Aside0.mk (keepL HLW.out HB5.out)
      have HW6 := Aside0.mk (keepL HWW.out HB5.out)
      have HB6 := Aside0.mk (below_step HBW.out HB5.out)
      have e2 : w5.cell? ⟨gw, 2, none⟩ = some (.int .i64 14) := (blk_cell HW6.out 2).trans rfl
      rw [← hg5, ← hw5]
      clear hg5 hw5
      go_wp2_with (first | (go_at_call 11; (with_reducible refine (over_calls HR5.out).mono ?_); rintro x w_ ⟨hx, rfl⟩; rw [HOV.out] at hx; subst hx))
      go_roundg 0
      case measure => omega
      case rel => exact ⟨3, rfl, ⟨rfl⟩, HL6, HW6, HB6⟩
    · clear HLW HWW
      go_wp2
      try rw [Exit.noGoto_ret]
      go_ret
      exact ⟨rfl, HBW.out⟩
end Go.Proofs.YtfpcoanlkfgagaaGreatDoor.RdrK
