/- What is answered of a sink that is not there. -/
import Derived.Test.YtpihpkphhkcdlaaGreatDoorKn
import Derived.Test.YtpihpkphhkcdlaaGreatDoorShelfS
import Derived.Shelf.SlIter.Nil
namespace Go.Proofs.YtpihpkphhkcdlaaGreatDoor.Nl
open Go.RowKit Go.Maps Go.Shelf Go.Proofs.YtpihpkphhkcdlaaGreatDoorW.PrintWords Go.Proofs.YtpihpkphhkcdlaaGreatDoorW.PrintLast Go.Proofs.YtpihpkphhkcdlaaGreatDoor.Tab Go.Proofs.YtpihpkphhkcdlaaGreatDoor.Kp Go.Proofs.YtpihpkphhkcdlaaGreatDoor.Pd Go.Proofs.YtpihpkphhkcdlaaGreatDoor.Pk Go.Proofs.YtpihpkphhkcdlaaGreatDoor.Sk Go.Proofs.YtpihpkphhkcdlaaGreatDoor.Lk Go.Proofs.YtpihpkphhkcdlaaGreatDoor.Ku Go.Proofs.YtpihpkphhkcdlaaGreatDoor.Cr Go.Proofs.YtpihpkphhkcdlaaGreatDoor.Al Go.Proofs.YtpihpkphhkcdlaaGreatDoor.Mi
set_option linter.unusedVariables false
set_option linter.unusedSimpArgs false
attribute [local go_sem] Oper.semAt_some
theorem total_nil (name : ByteArray) (a b : Int) (w : World) : Calls Tryz.prog 10 #[.pointer none, .string name, .int .i64 a, .int .i64 b] w fun e w' => e = .returned (.tuple #[.int .i64 0, .bool false]) ∧ w' = w := by
  go_enter Tryz.func10, Tryz.ntmps10
  go_wp2
  refine bodyPost_ret (results_tmp2 rfl _ _ _) rfl ?_
  exact ⟨rfl, rfl⟩
theorem len_nil (w : World) : Calls Tryz.prog 12 #[.pointer none] w fun e w' => e = .returned (.int .i64 0) ∧ w' = w := by
  go_enter Tryz.func12, Tryz.ntmps12
  go_wp2
  go_ret
  exact ⟨rfl, rfl⟩
theorem last_nil (w : World) : Calls Tryz.prog 13 #[.pointer none] w fun e w' => e = .returned (.int .u64 0) ∧ w' = w := by
  go_enter Tryz.func13, Tryz.ntmps13
  go_wp2
  go_ret
  exact ⟨rfl, rfl⟩
theorem count_nil (t : Int) (w : World) : Calls Tryz.prog 20 #[.pointer none, .int .i64 t] w fun e w' => e = .returned (.int .i64 0) ∧ w' = w := by
  go_enter Tryz.func20, Tryz.ntmps20
  go_wp2
  go_ret
  exact ⟨rfl, rfl⟩
theorem same_nn (w : World) : Calls Tryz.prog 22 #[.pointer none, .pointer none] w fun e w' => e = .returned (.bool true) ∧ w' = w := by
  go_enter Tryz.func22, Tryz.ntmps22
  go_wp2
  go_ret
  exact ⟨rfl, rfl⟩
theorem same_ns (ad : Addr) (w : World) : Calls Tryz.prog 22 #[.pointer none, .pointer (some ad)] w fun e w' => e = .returned (.bool false) ∧ w' = w := by
  go_enter Tryz.func22, Tryz.ntmps22
  go_wp2
  go_ret
  exact ⟨rfl, rfl⟩
theorem same_sn (ad : Addr) (w : World) : Calls Tryz.prog 22 #[.pointer (some ad), .pointer none] w fun e w' => e = .returned (.bool false) ∧ w' = w := by
  go_enter Tryz.func22, Tryz.ntmps22
  go_wp2
  go_ret
  exact ⟨rfl, rfl⟩
theorem get_nil (q : Int) (w : World) : Calls Tryz.prog 14 #[.pointer none, .int .u64 q] w fun e w' => e = .returned (.tuple #[.agg #[.int .u64 0, .int .i64 0, .slice none 0 0], .bool false]) ∧ Below w.heap.size w w' := by
  have HSZ := Aside0.mk (show (Tryz.prog.info? 44).map (·.size) = some 3 from by kernel_rfl)
  go_enter Tryz.func14, Tryz.ntmps14
  go_wp2
  refine bodyPost_ret (results_ct rfl _ _ w.heap.size 44 _ (0, 0) _ rfl (blk_new w _) Tryz.underlying44 rfl HSZ.out) rfl ?_
  exact ⟨rfl, below_alloc (Below.refl _ _) _⟩
/-- The iterator of a sink that is not there hands on nothing. -/
theorem nil_stops {F : Fence} (n : Nat) (hF : F.fn 30) (hro : F.round = none) (Kp : World → World → Prop) (B : Nat) (w : World) (hbx : w.heap[B]? = some (.cells #[.pointer none] 25 (0, 0))) :
    SeqStopsK F n Tryz.prog 30 #[.pointer (some ⟨B, 0, none⟩)] (fun x : Empty => x.elim) Kp (fun _ => True) (fun _ => True) 0 w := fun l J Jx W hW hJ _ hY h0 => by
  have cb : W.cell? ⟨B, 0, none⟩ = some (.pointer none) := blk_cell (blk_b hbx hW) 0
  have H0 := Aside0.mk h0
  clear hY h0 hJ hbx
  refine callsIn_of_wp Tryz.func30 rfl hF ?_ hro
  simp only [Tryz.ntmps30, List.size_toArray, List.length_cons, List.length_nil, Nat.reduceAdd, Nat.reduceSub, Array.replicate_succ, Array.replicate_zero, List.push_toArray, List.append_toArray, List.nil_append, List.cons_append]
  gi_wp2
  refine bodyPost_ret (results_none rfl _ _ _) rfl ?_
  exact ⟨⟨_, rfl⟩, .inl ⟨[], trivial, H0.out⟩⟩
set_option maxHeartbeats 16000000 in
set_option maxRecDepth 1000000 in
theorem missing_nil (w : World) : Calls Tryz.prog 19 #[.pointer none] w fun e w' => e = .returned (.slice none 0 0) ∧ Below w.heap.size w w' := by
  refine (callsIn_wide (n := 9)).1 ?_
  refine callsIn_of_wp_marks Tryz.func19 rfl trivial ?_ rfl
  simp only [Tryz.ntmps19, List.size_toArray, List.length_cons, List.length_nil, Nat.reduceAdd, Nat.reduceSub, Array.replicate_succ, Array.replicate_zero, List.push_toArray, List.append_toArray, List.nil_append, List.cons_append]
  gi_wp2_with (first
    | (refine ⟨trivial, ?_⟩; gi_at_call 16; refine (callsIn_wide.2 (all_nil _)).mono ?_; rintro e_ w2 ⟨rfl, rfl⟩))
  obtain ⟨w2, hw2⟩ : ∃ w2, w2 = ((w.alloc (.cells #[.slice none 0 0] 61)).alloc (.cells #[.int .u64 1] 40)).alloc (.cells #[.pointer none] 25) := ⟨_, rfl⟩
  rw [← hw2]
  have hB2 : Below w.heap.size w w2 := by rw [hw2]; exact below_alloc (below_alloc (below_alloc (Below.refl _ _) _) _) _
  have hs2 : w2.heap.size = w.heap.size + 1 + 1 + 1 := by rw [hw2]; simp
  have hbo : Boxed w2 w.heap.size 61 (.slice none 0 0) := by rw [hw2]; exact blk_b (blk_b (blk_new w _) (below_alloc (Below.refl _ _) _)) (below_alloc (Below.refl _ _) _)
  have hbx : w2.heap[w.heap.size + 1 + 1]? = some (.cells #[.pointer none] 25 (0, 0)) := by
    rw [hw2]
    have h := blk_new ((w.alloc (.cells #[.slice none 0 0] 61)).alloc (.cells #[.int .u64 1] 40)) (.cells #[.pointer none] 25)
    rw [World.size_alloc, World.size_alloc] at h
    exact h
  clear hw2
  refine wpIn_rangeFunc_ownH rfl (by decide) (gf := 30) (lb := #[.pointer (some ⟨w.heap.size + 1 + 1, 0, none⟩)]) rfl trivial (enters_of Tryz.func30 (by kernel_rfl) rfl)
    (nil_stops 8 trivial rfl (fun _ _ => True) (w.heap.size + 1 + 1) w2 hbx) (fun _ _ => trivial) (fun _ _ _ _ _ _ _ _ => trivial) (Below.refl _ _) (fun x => x.elim)
    (fun _ W => Below w2.heap.size w2 W) (fun _ _ _ => False) (ownFrom_below (Nat.le_refl _) (Nat.le_refl _)) (fun _ _ _ _ _ hs _ _ => hs) (Below.refl _ _)
    (fun x _ _ => x.elim) (fun x => x.elim) (fun _ _ x => x.elim) (fun _ _ x => x.elim) ?done (fun _ _ _ _ _ _ h _ => h.elim)
  case done =>
    rintro D' ys W hD _ hB hK
    have h1 : Boxed W w.heap.size 61 (.slice none 0 0) := blk_b hbo hB
    have hc := h1.cell
    have hf := h1.frozen
    have HB9 := Aside0.mk (hB2.trans (hB.mono hB2.size))
    have HBK := Aside0.mk h1
    have HDD := Aside0.mk (show w.heap.size ≤ D' from by omega)
    clear h1 hB hB2 hs2 hbo hbx hD
    gi_wp2
    refine ⟨by simp, .inl ⟨_, _, rfl, run_takeDeferred ((KeepsOthers.setCell W ⟨w.heap.size, 0, none⟩ _).same D' _ hK rfl), ?_⟩⟩
    have hb8 : Boxed (W.setCell ⟨w.heap.size, 0, none⟩ (.slice none 0 0)) w.heap.size 61 (.slice none 0 0) := HBK.out.set _
    have hK8 := (KeepsOthers.setCell W ⟨w.heap.size, 0, none⟩ (.slice none 0 0)).same D' _ hK rfl
    have hnd : w.heap.size ≠ D' := fun e => by rw [← e] at hK8; rw [hb8] at hK8; cases hK8
    have hb9 := (hb8.kept (grownBy_putObj' _ D' (.deferred none)) (fun e => hnd (Option.some.inj e)))
    refine ⟨_, res61 _ _ _ _ rfl hb9.cell, rfl, ?_⟩
    have h3 := HB9.out.setCell (p := ⟨w.heap.size, 0, none⟩) (Nat.le_refl _) (.slice none 0 0)
    exact h3.trans (belowK_b (w := w) (Nat.le_refl _) _ D' _ _ HDD.out hK8 rfl rfl)
end Go.Proofs.YtpihpkphhkcdlaaGreatDoor.Nl
namespace Go.Proofs.YtpihpkphhkcdlaaGreatDoor.Nm
open Go.RowKit Go.Maps Go.Sort Go.Shelf Go.Proofs.YtpihpkphhkcdlaaGreatDoorW.PrintWords Go.Proofs.YtpihpkphhkcdlaaGreatDoorW.PrintLast Go.Proofs.YtpihpkphhkcdlaaGreatDoor.Tab Go.Proofs.YtpihpkphhkcdlaaGreatDoor.Kp Go.Proofs.YtpihpkphhkcdlaaGreatDoor.Sk Go.Proofs.YtpihpkphhkcdlaaGreatDoor.Cr Go.Proofs.YtpihpkphhkcdlaaGreatDoor.Al Go.Proofs.YtpihpkphhkcdlaaGreatDoor.Nl
set_option linter.unusedVariables false
set_option linter.unusedSimpArgs false
attribute [local go_sem] Oper.semAt_some
theorem sortsS (m : Nat) : AnyZ.SortsIn Tryz.prog Tryz.sortedS_ren Fence.wide m :=
  ⟨fun blk off cap ss W hH hblk hsz => callsIn_wide.2 (AnyM.slices_Sort_string Tryz.sortS blk off cap ss W hH hblk hsz),
   fun p cap W => callsIn_wide.2 (AnyM.slices_Sort_string_none Tryz.sortS p cap W)⟩
theorem skeys_calls (mb : Option Nat) (W : World) : Calls Tryz.prog 35 #[.map mb] W fun e w' => e = .returned (.func (.func 57) #[] #[.pointer (some ⟨W.heap.size, 0, none⟩)]) ∧ w' = W.alloc (.cells #[.map mb] 85) :=
  callsIn_wide.1 (AnyZ.keys_in Tryz.keysS Fence.wide 5 trivial rfl mb W)
set_option maxHeartbeats 1000000 in
theorem ssorted_none (b nn : Nat) (w : World) (hown : w.ownsMap Tryz.prog 9 idR b nn (.map [])) :
    Calls Tryz.prog 34 #[.func (.func 57) #[] #[.pointer (some ⟨w.heap.size, 0, none⟩)]] (w.alloc (.cells #[.map (some b)] 85)) fun e w' => e = .returned (.slice none 0 0) ∧ Below w.heap.size w w' := by
  have hbl := hown.lt
  have hseq : SeqGives Fence.wide 2 Tryz.prog 57 #[.pointer (some ⟨w.heap.size, 0, none⟩)] encStr (fun ss => ss.Perm (strKeys (DataW.map (H := Value) []))) (Maps.size (DataW.map (H := Value) [])) (w.alloc (.cells #[.map (some b)] 85)) :=
    AnyZ.keys_gives (ρ := Tryz.keysS_ren) { Tryz.keysS with } Fence.wide _ trivial rfl (by omega) w.heap.size b nn (DataW.map (H := Value) []) (R := idR) _ (by simp) (by simp) (by
      obtain ⟨es, clock, hb, Ft, hs, hD⟩ := hown
      exact ⟨es, clock, (Below.heap_alloc _ _ b hbl).trans hb, Ft, hs, hD⟩)
  have cS := AnyZ.sorted_in Tryz.sortedS Fence.wide 5 trivial trivial trivial trivial rfl (by omega) (sortsS _) (enters_of Tryz.func56 (by kernel_rfl) rfl) 57 #[.pointer (some ⟨w.heap.size, 0, none⟩)] trivial (enters_of Tryz.func57 (by kernel_rfl) rfl) _ _ (by decide) (by decide) _ hseq
  change CallsIn _ _ Tryz.prog 34 _ _ _ at cS
  refine (callsIn_wide.1 cS).mono ?_
  rintro e w' ⟨v, ss, rfl, hS, hrow, hnil, hb⟩
  have hs0 : ss = [] := List.Perm.eq_nil (show ss.Perm [] from hS)
  rw [hnil.2 hs0]
  exact ⟨rfl, (below_alloc (Below.refl _ _) _).trans (hb.mono (by simp))⟩
set_option maxHeartbeats 16000000 in
set_option maxRecDepth 1000000 in
theorem names_nil (w : World) : Calls Tryz.prog 18 #[.pointer none] w fun e w' => e = .returned (.slice none 0 0) ∧ Below w.heap.size w w' := by
  have hmm := @run_makeMap Tryz.prog
  refine (callsIn_wide (n := 9)).1 ?_
  refine callsIn_of_wp_marks Tryz.func18 rfl trivial ?_ rfl
  simp only [Tryz.ntmps18, List.size_toArray, List.length_cons, List.length_nil, Nat.reduceAdd, Nat.reduceSub, Array.replicate_succ, Array.replicate_zero, List.push_toArray, List.append_toArray, List.nil_append, List.cons_append]
  gi_wp2_with (first
    | (refine ⟨trivial, ?_⟩; gi_at_call 16; refine (callsIn_wide.2 (all_nil _)).mono ?_; rintro e_ w2 ⟨rfl, rfl⟩))
  obtain ⟨w2, hw2⟩ : ∃ w2, w2 = ((w.alloc (.map #[] 0)).alloc (.cells #[.map (some w.heap.size)] 85)).alloc (.cells #[.pointer none] 25) := ⟨_, rfl⟩
  rw [← hw2]
  have hB2 : Below w.heap.size w w2 := by rw [hw2]; exact below_alloc (below_alloc (below_alloc (Below.refl _ _) _) _) _
  have hs2 : w2.heap.size = w.heap.size + 1 + 1 + 1 := by rw [hw2]; simp
  have hmp : w2.ownsMap Tryz.prog 9 idR w.heap.size 0 (.map []) := by rw [hw2]; exact ((World.ownsMap_made w Tryz.prog 9 idR).alloc _).alloc _
  have hbm : Boxed w2 (w.heap.size + 1) 85 (.map (some w.heap.size)) := by
    rw [hw2]
    have h := blk_new (w.alloc (.map #[] 0)) (.cells #[.map (some w.heap.size)] 85)
    rw [World.size_alloc] at h
    have h2 := blk_b h (below_alloc (Below.refl _ _) (.cells #[.pointer none] 25))
    exact h2
  have hbx : w2.heap[w.heap.size + 1 + 1]? = some (.cells #[.pointer none] 25 (0, 0)) := by
    rw [hw2]
    have h := blk_new ((w.alloc (.map #[] 0)).alloc (.cells #[.map (some w.heap.size)] 85)) (.cells #[.pointer none] 25)
    rw [World.size_alloc, World.size_alloc] at h
    exact h
  clear hw2 hmm
  refine wpIn_rangeFunc_ownH rfl (by decide) (gf := 30) (lb := #[.pointer (some ⟨w.heap.size + 1 + 1, 0, none⟩)]) rfl trivial (enters_of Tryz.func30 (by kernel_rfl) rfl)
    (nil_stops 8 trivial rfl (fun _ _ => True) (w.heap.size + 1 + 1) w2 hbx) (fun _ _ => trivial) (fun _ _ _ _ _ _ _ _ => trivial) (Below.refl _ _) (fun x => x.elim)
    (fun _ W => Below w2.heap.size w2 W) (fun _ _ _ => False) (ownFrom_below (Nat.le_refl _) (Nat.le_refl _)) (fun _ _ _ _ _ hs _ _ => hs) (Below.refl _ _)
    (fun x _ _ => x.elim) (fun x => x.elim) (fun _ _ x => x.elim) (fun _ _ x => x.elim) ?done (fun _ _ _ _ _ _ h _ => h.elim)
  case done =>
    rintro D' ys W hD _ hB hK
    have hc : W.cell? ⟨w.heap.size + 1, 0, none⟩ = some (.map (some w.heap.size)) := blk_cell (blk_b hbm hB) 0
    have HB9 := Aside0.mk (hB2.trans (hB.mono hB2.size))
    have HMP := Aside0.mk (own_map_keep hmp (Keep.of_below (F := fun _ => False) hB) id)
    have HDD := Aside0.mk (show w.heap.size ≤ D' from by omega)
    have HKK := Aside0.mk hK
    clear hB hB2 hs2 hbm hbx hD hmp hK
    gi_wp2_with (first
      | (refine ⟨trivial, ?_⟩; gi_at_call 35; refine (callsIn_wide.2 (skeys_calls _ _)).mono ?_; rintro e_ w3 ⟨rfl, rfl⟩)
      | (refine ⟨trivial, ?_⟩; gi_at_call 34; refine (callsIn_wide.2 (ssorted_none w.heap.size 0 W HMP.out)).mono ?_; rintro e_ w4 ⟨rfl, h4⟩))
    have hk4 := blk_b HKK.out h4
    refine ⟨by simp, .inl ⟨_, _, rfl, run_takeDeferred hk4, ?_⟩⟩
    exact ⟨_, results_tmp rfl _ _ _, rfl, (HB9.out.trans (h4.mono HB9.out.size)).trans (belowK_b (w := w) (Nat.le_refl _) _ D' _ _ HDD.out hk4 rfl rfl)⟩
end Go.Proofs.YtpihpkphhkcdlaaGreatDoor.Nm
namespace Go.Proofs.YtpihpkphhkcdlaaGreatDoor.Tz
open Go.RowKit Go.Maps Go.Proofs.YtpihpkphhkcdlaaGreatDoorW.PrintWords Go.Proofs.YtpihpkphhkcdlaaGreatDoorW.PrintLast Go.Proofs.YtpihpkphhkcdlaaGreatDoor.Tab Go.Proofs.YtpihpkphhkcdlaaGreatDoor.Kp Go.Proofs.YtpihpkphhkcdlaaGreatDoor.Pd Go.Proofs.YtpihpkphhkcdlaaGreatDoor.Pk Go.Proofs.YtpihpkphhkcdlaaGreatDoor.Fr Go.Proofs.YtpihpkphhkcdlaaGreatDoor.May Go.Proofs.YtpihpkphhkcdlaaGreatDoor.De Go.Proofs.YtpihpkphhkcdlaaGreatDoor.Sk Go.Proofs.YtpihpkphhkcdlaaGreatDoor.Eq Go.Proofs.YtpihpkphhkcdlaaGreatDoor.Lk Go.Proofs.YtpihpkphhkcdlaaGreatDoor.Cl Go.Proofs.YtpihpkphhkcdlaaGreatDoor.Sc
set_option linter.unusedVariables false
set_option linter.unusedSimpArgs false
theorem look0 (W : World) : (Instr.lookup 51 (.map none) (.int .u64 1) true).run Tryz.prog W = .ok (.tuple #[.agg #[.int .u64 0, .int .i64 0, .slice none 0 0, .slice none 0 0], .bool false]) W := by kernel_rfl
theorem look0w (W : World) : (Instr.lookup 52 (.map none) (.int .i64 1) true).run Tryz.prog W = .ok (.tuple #[.int .u64 0, .bool false]) W := by kernel_rfl
theorem len0 (W : World) : (Builtin.len_ #[51] 3 #[.map none]).run Tryz.prog W = .ok (.int .i64 0) W := by kernel_rfl
theorem eq0 (W : World) : (binOp .eql 51 (.map none) (.map none)).run Tryz.prog W = .ok (.bool true) W := by kernel_rfl
abbrev W6 (W5 : World) (g : Nat) : World := (((W5.alloc (.map #[] 0)).alloc (.map #[] 0)).setCell ⟨g, 0, none⟩ (.map (some W5.heap.size))).setCell ⟨g, 1, none⟩ (.map (some (W5.heap.size + 1)))
theorem made (W5 : World) (g : Nat) (cs : List Int) (h : W5.heap[g]? = some (.cells (skC none none cs) 54 (0, 0))) :
    (W6 W5 g).heap[g]? = some (.cells (skC (some W5.heap.size) (some (W5.heap.size + 1)) cs) 54 (0, 0)) ∧ (W6 W5 g).ownsMap Tryz.prog 40 kR W5.heap.size 0 (.map []) ∧ (W6 W5 g).ownsMap Tryz.prog 2 idR (W5.heap.size + 1) 0 (.map []) ∧ Keep (fun j => j = g) W5 (W6 W5 g) ∧ (W6 W5 g).heap.size = W5.heap.size + 1 + 1 := by
  have hlt := blk_lt h
  have k2 : Keep (fun j => j = g) ((W5.alloc (.map #[] 0)).alloc (.map #[] 0)) (W6 W5 g) := ((Keep.refl (fun j => j = g) _).set (g := g) rfl 0 _).set (g := g) rfl 1 _
  have k1 : Keep (fun j => j = g) W5 (W6 W5 g) := (((Keep.refl (fun j => j = g) W5).alloc _).alloc _).trans k2 (fun _ _ => id)
  have hb : ((W5.alloc (.map #[] 0)).alloc (.map #[] 0)).heap[g]? = some (.cells (skC none none cs) 54 (0, 0)) := by
    have b2 : Below W5.heap.size W5 ((W5.alloc (.map #[] 0)).alloc (.map #[] 0)) := below_alloc (below_alloc (Below.refl _ _) _) _
    exact (b2.block g hlt).trans h
  refine ⟨?_, ?_, ?_, k1, by simp [W6]⟩
  · have h1 := blk_put hb 0 (.map (some W5.heap.size)) (cs' := skC (some W5.heap.size) none cs) rfl
    exact blk_put h1 1 (.map (some (W5.heap.size + 1))) (cs' := skC (some W5.heap.size) (some (W5.heap.size + 1)) cs) rfl
  · exact own_map_keep ((World.ownsMap_made W5 Tryz.prog 40 kR).alloc _) k2 (fun e => by have e2 : W5.heap.size = g := e; omega)
  · have h2 := World.ownsMap_made (W5.alloc (.map #[] 0)) Tryz.prog 2 idR
    rw [World.size_alloc] at h2
    exact own_map_keep h2 k2 (fun e => by have e2 : W5.heap.size + 1 = g := e; omega)
theorem skC_no8 (a b : Option Nat) (c : List Int) (x : Int) : ∀ j : Nat, (skC a b c)[j]? ≠ some (.int .u8 x)
  | 0 | 1 | 2 | 3 | 4 | 5 | 6 | 7 => by simp [skC]
  | n + 8 => by simp [skC]
theorem reads_ne {w : World} {g : Nat} {cs : List Int} {A : Option Addr} {bs : List UInt8} (h : ReadsInt w .u8 A bs.length (nb bs)) (hb : w.heap[g]? = some (.cells (skC none none cs) 54 (0, 0))) : ∀ ad, A = some ad → 0 < bs.length → ad.block ≠ g := by
  rintro ad rfl hp rfl
  obtain ⟨ad', e, hc⟩ := h.2.2 hp
  obtain rfl := Option.some.inj e
  have h0 := hc 0 hp
  have hbk : (ad.add 0).block = ad.block := by unfold Addr.add; split <;> rfl
  unfold World.cell? at h0
  rw [hbk, hb] at h0
  dsimp only at h0
  split at h0
  · cases h0
  · exact skC_no8 _ _ _ _ _ h0
theorem put1 (v : DataW Value) : Maps.size ((DataW.map (H := Value) []).put (uL 1) v) = 1 := rfl
set_option maxHeartbeats 4000000 in
set_option maxRecDepth 1000000 in
theorem tookz_calls (g : Nat) (cs : List Int) (A : Option Addr) (cp : Nat) (bs : List UInt8) (recs : List Rec) (hf : decP bs = (⟨1, 1, recs⟩, 0)) (hl : bs.length ≤ 1000000) (h8 : 0 < bs.length) (hcp : bs.length ≤ cp) (w : World) (hG : Glob w) (hr : ReadsInt w .u8 A bs.length (nb bs)) (hblk : w.heap[g]? = some (.cells (skC none none cs) 54 (0, 0))) :
    Calls Tryz.prog 23 #[.pointer (some ⟨g, 0, none⟩), .slice A bs.length cp] w fun e w' => e = .returned (.int .i64 1) ∧ (∃ ml mw D, w'.heap[g]? = some (.cells (skC (some ml) (some mw) cs) 54 (0, 0)) ∧ w'.ownsMap Tryz.prog 40 kR ml 1 D ∧ Maps.size D = 1 ∧ g < ml) ∧ Keep (fun j => j = g) w w' := by
  have HD := Aside0.mk (decode_calls A cp bs hl hcp w hG hr)
  have HS0 := Aside0.mk hblk
  have HR := Aside0.mk hr
  have HL := Aside0.mk (And.intro hl (And.intro hcp h8))
  rw [hf] at HD
  dsimp only at HD
  have HGL := Aside0.mk (blk_lt hblk)
  clear hf hG hr hblk hl hcp h8
  go_enter Tryz.func23, Tryz.ntmps23
  go_upto_region 2 with (first | (go_at_call 41; (with_reducible refine HD.out.mono ?_); rintro e_ w1 ⟨rv, rfl, ho, hb⟩; obtain ⟨Ar, cr, rfl⟩ := row_form ho; have HO1 := Aside0.mk ho; have HB1 := Aside0.mk hb; clear ho hb; simp only [FrmV]; try simp only [Int.ofNat_one]))
  have HX := Aside0.mk (blk_new w1 (.cells #[.int .u64 1, .int .i64 1, .slice Ar recs.length cr] 44))
  have HBA := Aside0.mk (below_alloc (Below.refl w1.heap.size w1) (.cells #[.int .u64 1, .int .i64 1, .slice Ar recs.length cr] 44))
  have HB := Aside0.mk (HB1.out.trans (HBA.out.mono HB1.out.size))
  have HO := Aside0.mk (pw_own_below HO1.out HBA.out)
  have HGF := Aside0.mk HB1.out.size
  try generalize w1.alloc (.cells #[.int .u64 1, .int .i64 1, .slice Ar recs.length cr] 44) = W at HX HB HO ⊢
  try generalize w1.heap.size = gf at HX HGF ⊢
  clear HO1 HB1 HD HBA
  have HXB := Aside0.mk ((HB.out.block g HGL.out).trans HS0.out)
  have x0 : W.cell? ⟨gf, 0, none⟩ = some (.int .u64 1) := (blk_cell HX.out 0).trans rfl
  have x1 : W.cell? ⟨gf, 1, none⟩ = some (.int .i64 1) := (blk_cell HX.out 1).trans rfl
  have x2 : W.cell? ⟨gf, 2, none⟩ = some (.slice Ar recs.length cr) := (blk_cell HX.out 2).trans rfl
  have s0 : W.cell? ⟨g, 0, none⟩ = some (.map none) := (blk_cell HXB.out 0).trans rfl
  have s1 : W.cell? ⟨g, 1, none⟩ = some (.map none) := (blk_cell HXB.out 1).trans rfl
  go_upto_region 4 with (fail)
  refine start_ (n := 13) (S := fun w' => Below W.heap.size W w') (ds := []) #[false, false, false, false, false, false, false, false, false, false, false, false, false] (by kernel_rfl) rfl rfl (below_drew1 (Below.refl _ _)) (fun hHeld => ?_)
  have hS0 := Aside0.mk (show Below W.heap.size W W.drew from below_drew1 (Below.refl _ _))
  refine pure_ (i := 0) (N := some 19) (v := ?_) (a' := ?_) #[true, false, false, false, false, false, false, false, false, false, false, false, false] rfl rfl (by kernel_rfl) (fun _ _ _ h => h) (Or.inl ⟨by rfl, ?_⟩) ?_ ?_
  rotate_left
  · intro w'
    go_simp
    with_reducible rfl
  rotate_left
  · simp only [Act.put, List.setIfInBounds_toArray, List.set_cons_zero, List.set_cons_succ, i64_w, i32_w]
    rfl
  refine pure_ (i := 1) (N := some 20) (v := ?_) (a' := ?_) #[true, true, false, false, false, false, false, false, false, false, false, false, false] rfl rfl (by kernel_rfl) (fun _ _ _ h => h) (Or.inl ⟨by rfl, ?_⟩) ?_ ?_
  rotate_left
  · intro w'
    go_simp
    with_reducible rfl
  rotate_left
  · simp only [Act.put, List.setIfInBounds_toArray, List.set_cons_zero, List.set_cons_succ, i64_w, i32_w]
    rfl
  refine pure_ (i := 2) (N := some 21) (v := ?_) (a' := ?_) #[true, true, true, false, false, false, false, false, false, false, false, false, false] rfl rfl (by kernel_rfl) (fun _ _ _ h => h) (Or.inl ⟨by rfl, ?_⟩) ?_ ?_
  rotate_left
  · intro w'
    go_simp
    with_reducible rfl
  rotate_left
  · simp only [Act.put, List.setIfInBounds_toArray, List.set_cons_zero, List.set_cons_succ, i64_w, i32_w]
    rfl
  refine pure_ (i := 4) (N := some 23) (v := ?_) (a' := ?_) #[true, true, true, false, true, false, false, false, false, false, false, false, false] rfl rfl (by kernel_rfl) (fun _ _ _ h => h) (Or.inl ⟨by rfl, ?_⟩) ?_ ?_
  rotate_left
  · intro w'
    go_simp
    with_reducible rfl
  rotate_left
  · simp only [Act.put, List.setIfInBounds_toArray, List.set_cons_zero, List.set_cons_succ, i64_w, i32_w]
    rfl
  refine take_ (i := 3) (N := some 22) (v := ?_) (a' := ?_) #[true, true, true, true, true, false, false, false, false, false, false, false, false] rfl rfl (by kernel_rfl) (fun _ _ _ h => h) (Or.inl ⟨by rfl, ?_⟩) hHeld ?_ ?_
  rotate_left
  · intro w' hS'
    have x0' := pw_cell_below hS' x0; have x1' := pw_cell_below hS' x1; have x2' := pw_cell_below hS' x2; have s0' := pw_cell_below hS' s0; have s1' := pw_cell_below hS' s1; have lk1 := look0 w'
    go_simp
    with_reducible rfl
  rotate_left
  · simp only [Act.put, List.setIfInBounds_toArray, List.set_cons_zero, List.set_cons_succ, i64_w, i32_w]
    rfl
  refine take_ (i := 5) (N := some 24) (v := ?_) (a' := ?_) #[true, true, true, true, true, true, false, false, false, false, false, false, false] rfl rfl (by kernel_rfl) (fun _ _ _ h => h) (Or.inl ⟨by rfl, ?_⟩) hHeld ?_ ?_
  rotate_left
  · intro w' hS'
    have x0' := pw_cell_below hS' x0; have x1' := pw_cell_below hS' x1; have x2' := pw_cell_below hS' x2; have s0' := pw_cell_below hS' s0; have s1' := pw_cell_below hS' s1; have lk1 := look0 w'
    go_simp
    with_reducible rfl
  rotate_left
  · simp only [Act.put, List.setIfInBounds_toArray, List.set_cons_zero, List.set_cons_succ, i64_w, i32_w]
    rfl
  refine take_ (i := 6) (N := some 25) (v := ?_) (a' := ?_) #[true, true, true, true, true, true, true, false, false, false, false, false, false] rfl rfl (by kernel_rfl) (fun _ _ _ h => h) (Or.inl ⟨by rfl, ?_⟩) hHeld ?_ ?_
  rotate_left
  · intro w' hS'
    have x0' := pw_cell_below hS' x0; have x1' := pw_cell_below hS' x1; have x2' := pw_cell_below hS' x2; have s0' := pw_cell_below hS' s0; have s1' := pw_cell_below hS' s1; have lk1 := look0 w'
    go_simp
    with_reducible rfl
  rotate_left
  · simp only [Act.put, List.setIfInBounds_toArray, List.set_cons_zero, List.set_cons_succ, i64_w, i32_w]
    rfl
  refine pure_ (i := 7) (N := some 18) (v := ?_) (a' := ?_) #[true, true, true, true, true, true, true, true, false, false, false, false, false] rfl rfl (by kernel_rfl) (fun _ _ _ h => h) (Or.inl ⟨by rfl, ?_⟩) ?_ ?_
  rotate_left
  · intro w'
    go_simp
    with_reducible rfl
  rotate_left
  · simp only [Act.put, List.setIfInBounds_toArray, List.set_cons_zero, List.set_cons_succ, i64_w, i32_w]
    rfl
  refine pure_ (i := 8) (N := some 26) (v := ?_) (a' := ?_) #[true, true, true, true, true, true, true, true, true, false, false, false, false] rfl rfl (by kernel_rfl) (fun _ _ _ h => h) (Or.inl ⟨by rfl, ?_⟩) ?_ ?_
  rotate_left
  · intro w'
    go_simp
    with_reducible rfl
  rotate_left
  · simp only [Act.put, List.setIfInBounds_toArray, List.set_cons_zero, List.set_cons_succ, i64_w, i32_w]
    rfl
  refine pure_ (i := 9) (N := some 27) (v := ?_) (a' := ?_) #[true, true, true, true, true, true, true, true, true, true, false, false, false] rfl rfl (by kernel_rfl) (fun _ _ _ h => h) (Or.inl ⟨by rfl, ?_⟩) ?_ ?_
  rotate_left
  · intro w'
    go_simp
    with_reducible rfl
  rotate_left
  · simp only [Act.put, List.setIfInBounds_toArray, List.set_cons_zero, List.set_cons_succ, i64_w, i32_w]
    rfl
  refine one_ (i := 10) (N := some 7) #[true, true, true, true, true, true, true, true, true, true, true, false, false] rfl rfl (by kernel_rfl) (by decide) (fun K hK => ?_)
  refine value_ (w1 := W.drew.alloc (.cells #[.int .u64 0, .int .i64 0, .slice none 0 0, .slice none 0 0] 71)) (v := .pointer (some ⟨W.heap.size, 0, none⟩)) (by rfl) rfl (by go_simp <;> rfl) ?_
  have hS1 := Aside0.mk (show Below W.heap.size W (W.drew.alloc (.cells #[.int .u64 0, .int .i64 0, .slice none 0 0, .slice none 0 0] 71)) from below_alloc hS0.out _)
  refine hK.out _ _ hS1.out (fun hHeld => ?_)
  clear hK K
  refine norm_ (a' := ?_) ?_ ?_
  rotate_left
  · show Act.put _ (some 7) _ = _
    simp only [Act.put, List.setIfInBounds_toArray, List.set_cons_zero, List.set_cons_succ, i64_w, i32_w]
    rfl
  refine one_ (i := 11) (N := none) #[true, true, true, true, true, true, true, true, true, true, true, true, false] rfl rfl (by kernel_rfl) (by decide) (fun K hK => ?_)
  refine skip_ (w1 := W.drew.alloc (.cells #[.int .u64 0, .int .i64 0, .slice none 0 0, .slice none 0 0] 71)) (by rfl) rfl (by go_simp; first | done | rfl) ?_
  have hS2 := Aside0.mk (show Below W.heap.size W (W.drew.alloc (.cells #[.int .u64 0, .int .i64 0, .slice none 0 0, .slice none 0 0] 71)) from below_alloc hS0.out _)
  refine hK.out _ _ hS2.out (fun hHeld => ?_)
  clear hK K
  refine pure_ (i := 12) (N := some 8) (v := ?_) (a' := ?_) #[true, true, true, true, true, true, true, true, true, true, true, true, true] rfl rfl (by kernel_rfl) (fun _ _ _ h => h) (Or.inl ⟨by rfl, ?_⟩) ?_ ?_
  rotate_left
  · intro w'
    go_simp
    with_reducible rfl
  rotate_left
  · simp only [Act.put, List.setIfInBounds_toArray, List.set_cons_zero, List.set_cons_succ, i64_w, i32_w]
    rfl
  refine done_ (by kernel_rfl) ?_
  have HXK := Aside0.mk (show (W.drew.alloc (.cells #[.int .u64 0, .int .i64 0, .slice none 0 0, .slice none 0 0] 71)).heap[W.heap.size]? = some (.cells #[.int .u64 0, .int .i64 0, .slice none 0 0, .slice none 0 0] 71 (0, 0)) from blk_new W.drew _)
  clear hS0 hS1
  generalize W.drew.alloc (.cells #[.int .u64 0, .int .i64 0, .slice none 0 0, .slice none 0 0] 71) = W4 at hS2 HXK ⊢
  have HB4 := Aside0.mk (HB.out.trans (hS2.out.mono HB.out.size))
  have HX4 := Aside0.mk ((hS2.out.block _ (blk_lt HX.out)).trans HX.out)
  have HO4 := Aside0.mk (pw_own_below HO.out hS2.out)
  have HXB4 := Aside0.mk ((hS2.out.block _ (blk_lt HXB.out)).trans HXB.out)
  clear x0 x1 x2 s0 s1 HX HO HXB hS2 hHeld
  have x0 : W4.cell? ⟨gf, 0, none⟩ = some (.int .u64 1) := (blk_cell HX4.out 0).trans rfl
  have x1 : W4.cell? ⟨gf, 1, none⟩ = some (.int .i64 1) := (blk_cell HX4.out 1).trans rfl
  have s0 : W4.cell? ⟨g, 0, none⟩ = some (.map none) := (blk_cell HXB4.out 0).trans rfl
  have s1 : W4.cell? ⟨g, 1, none⟩ = some (.map none) := (blk_cell HXB4.out 1).trans rfl
  go_upto_region 5 with (fail)
  refine start_ (n := 12) (S := fun w' => Below W4.heap.size W4 w') (ds := []) #[false, false, false, false, false, false, false, false, false, false, false, false] (by kernel_rfl) rfl rfl (below_drew1 (Below.refl _ _)) (fun hHeld => ?_)
  have hS0 := Aside0.mk (show Below W4.heap.size W4 W4.drew from below_drew1 (Below.refl _ _))
  refine pure_ (i := 0) (N := some 29) (v := ?_) (a' := ?_) #[true, false, false, false, false, false, false, false, false, false, false, false] rfl rfl (by kernel_rfl) (fun _ _ _ h => h) (Or.inl ⟨by rfl, ?_⟩) ?_ ?_
  rotate_left
  · intro w'
    go_simp
    with_reducible rfl
  rotate_left
  · simp only [Act.put, List.setIfInBounds_toArray, List.set_cons_zero, List.set_cons_succ, i64_w, i32_w]
    rfl
  refine pure_ (i := 1) (N := some 30) (v := ?_) (a' := ?_) #[true, true, false, false, false, false, false, false, false, false, false, false] rfl rfl (by kernel_rfl) (fun _ _ _ h => h) (Or.inl ⟨by rfl, ?_⟩) ?_ ?_
  rotate_left
  · intro w'
    go_simp
    with_reducible rfl
  rotate_left
  · simp only [Act.put, List.setIfInBounds_toArray, List.set_cons_zero, List.set_cons_succ, i64_w, i32_w]
    rfl
  refine pure_ (i := 2) (N := some 31) (v := ?_) (a' := ?_) #[true, true, true, false, false, false, false, false, false, false, false, false] rfl rfl (by kernel_rfl) (fun _ _ _ h => h) (Or.inl ⟨by rfl, ?_⟩) ?_ ?_
  rotate_left
  · intro w'
    go_simp
    with_reducible rfl
  rotate_left
  · simp only [Act.put, List.setIfInBounds_toArray, List.set_cons_zero, List.set_cons_succ, i64_w, i32_w]
    rfl
  refine pure_ (i := 4) (N := some 33) (v := ?_) (a' := ?_) #[true, true, true, false, true, false, false, false, false, false, false, false] rfl rfl (by kernel_rfl) (fun _ _ _ h => h) (Or.inl ⟨by rfl, ?_⟩) ?_ ?_
  rotate_left
  · intro w'
    go_simp
    with_reducible rfl
  rotate_left
  · simp only [Act.put, List.setIfInBounds_toArray, List.set_cons_zero, List.set_cons_succ, i64_w, i32_w]
    rfl
  refine take_ (i := 3) (N := some 32) (v := ?_) (a' := ?_) #[true, true, true, true, true, false, false, false, false, false, false, false] rfl rfl (by kernel_rfl) (fun _ _ _ h => h) (Or.inl ⟨by rfl, ?_⟩) hHeld ?_ ?_
  rotate_left
  · intro w' hS'
    have x0' := pw_cell_below hS' x0; have x1' := pw_cell_below hS' x1; have s0' := pw_cell_below hS' s0; have s1' := pw_cell_below hS' s1; have lk2 := look0w w'
    go_simp
    with_reducible rfl
  rotate_left
  · simp only [Act.put, List.setIfInBounds_toArray, List.set_cons_zero, List.set_cons_succ, i64_w, i32_w]
    rfl
  refine take_ (i := 5) (N := some 34) (v := ?_) (a' := ?_) #[true, true, true, true, true, true, false, false, false, false, false, false] rfl rfl (by kernel_rfl) (fun _ _ _ h => h) (Or.inl ⟨by rfl, ?_⟩) hHeld ?_ ?_
  rotate_left
  · intro w' hS'
    have x0' := pw_cell_below hS' x0; have x1' := pw_cell_below hS' x1; have s0' := pw_cell_below hS' s0; have s1' := pw_cell_below hS' s1; have lk2 := look0w w'
    go_simp
    with_reducible rfl
  rotate_left
  · simp only [Act.put, List.setIfInBounds_toArray, List.set_cons_zero, List.set_cons_succ, i64_w, i32_w]
    rfl
  refine take_ (i := 6) (N := some 35) (v := ?_) (a' := ?_) #[true, true, true, true, true, true, true, false, false, false, false, false] rfl rfl (by kernel_rfl) (fun _ _ _ h => h) (Or.inl ⟨by rfl, ?_⟩) hHeld ?_ ?_
  rotate_left
  · intro w' hS'
    have x0' := pw_cell_below hS' x0; have x1' := pw_cell_below hS' x1; have s0' := pw_cell_below hS' s0; have s1' := pw_cell_below hS' s1; have lk2 := look0w w'
    go_simp
    with_reducible rfl
  rotate_left
  · simp only [Act.put, List.setIfInBounds_toArray, List.set_cons_zero, List.set_cons_succ, i64_w, i32_w]
    rfl
  refine pure_ (i := 7) (N := some 28) (v := ?_) (a' := ?_) #[true, true, true, true, true, true, true, true, false, false, false, false] rfl rfl (by kernel_rfl) (fun _ _ _ h => h) (Or.inl ⟨by rfl, ?_⟩) ?_ ?_
  rotate_left
  · intro w'
    go_simp
    with_reducible rfl
  rotate_left
  · simp only [Act.put, List.setIfInBounds_toArray, List.set_cons_zero, List.set_cons_succ, i64_w, i32_w]
    rfl
  refine pure_ (i := 8) (N := some 36) (v := ?_) (a' := ?_) #[true, true, true, true, true, true, true, true, true, false, false, false] rfl rfl (by kernel_rfl) (fun _ _ _ h => h) (Or.inl ⟨by rfl, ?_⟩) ?_ ?_
  rotate_left
  · intro w'
    go_simp
    with_reducible rfl
  rotate_left
  · simp only [Act.put, List.setIfInBounds_toArray, List.set_cons_zero, List.set_cons_succ, i64_w, i32_w]
    rfl
  refine pure_ (i := 9) (N := some 37) (v := ?_) (a' := ?_) #[true, true, true, true, true, true, true, true, true, true, false, false] rfl rfl (by kernel_rfl) (fun _ _ _ h => h) (Or.inl ⟨by rfl, ?_⟩) ?_ ?_
  rotate_left
  · intro w'
    go_simp
    with_reducible rfl
  rotate_left
  · simp only [Act.put, List.setIfInBounds_toArray, List.set_cons_zero, List.set_cons_succ, i64_w, i32_w]
    rfl
  refine pure_ (i := 10) (N := some 9) (v := ?_) (a' := ?_) #[true, true, true, true, true, true, true, true, true, true, true, false] rfl rfl (by kernel_rfl) (fun _ _ _ h => h) (Or.inl ⟨by rfl, ?_⟩) ?_ ?_
  rotate_left
  · intro w'
    go_simp
    with_reducible rfl
  rotate_left
  · simp only [Act.put, List.setIfInBounds_toArray, List.set_cons_zero, List.set_cons_succ, i64_w, i32_w]
    rfl
  refine pure_ (i := 11) (N := some 10) (v := ?_) (a' := ?_) #[true, true, true, true, true, true, true, true, true, true, true, true] rfl rfl (by kernel_rfl) (fun _ _ _ h => h) (Or.inl ⟨by rfl, ?_⟩) ?_ ?_
  rotate_left
  · intro w'
    go_simp
    with_reducible rfl
  rotate_left
  · simp only [Act.put, List.setIfInBounds_toArray, List.set_cons_zero, List.set_cons_succ, i64_w, i32_w]
    rfl
  refine done_ (by kernel_rfl) ?_
  have HB5 := Aside0.mk (below_drew1 HB4.out)
  have HX5 := Aside0.mk (show W4.drew.heap[gf]? = some (.cells #[.int .u64 1, .int .i64 1, .slice Ar recs.length cr] 44 (0, 0)) from HX4.out)
  have HO5 := Aside0.mk (pw_own_below HO4.out hS0.out)
  have HXB5 := Aside0.mk (show W4.drew.heap[g]? = some (.cells (skC none none cs) 54 (0, 0)) from HXB4.out)
  clear x0 x1 s0 s1 HB4 HX4 HO4 HXB4 HXK hS0 hHeld
  generalize W4.drew = W5 at HB5 HX5 HO5 HXB5 ⊢
  generalize W.heap.size = gk
  have s0 : W5.cell? ⟨g, 0, none⟩ = some (.map none) := (blk_cell HXB5.out 0).trans rfl
  have s1 : W5.cell? ⟨g, 1, none⟩ = some (.map none) := (blk_cell HXB5.out 1).trans rfl
  have hb2 : ((W5.alloc (.map #[] 0)).alloc (.map #[] 0)).heap[g]? = some (.cells (skC none none cs) 54 (0, 0)) := ((below_alloc (below_alloc (Below.refl W5.heap.size W5) _) _).block g (blk_lt HXB5.out)).trans HXB5.out
  have hb3 := blk_put hb2 0 (.map (some W5.heap.size)) (cs' := skC (some W5.heap.size) none cs) rfl
  have e0 : ((W5.alloc (.map #[] 0)).alloc (.map #[] 0)).cell? ⟨g, 0, none⟩ = some (.map none) := (blk_cell hb2 0).trans rfl
  have f0 := blk_frozen hb2 0
  have e1 : (((W5.alloc (.map #[] 0)).alloc (.map #[] 0)).setCell ⟨g, 0, none⟩ (.map (some W5.heap.size))).cell? ⟨g, 1, none⟩ = some (.map none) := (blk_cell hb3 1).trans rfl
  have f1 := blk_frozen hb3 1
  clear hb2 hb3
  have hln := len0 W5
  have heq := eq0 W5
  have hmm := @run_makeMap Tryz.prog
  obtain ⟨ad, hA, _⟩ := HR.out.2.2 HL.out.2.2
  subst hA
  go_upto_region 16 with (fail)
  have hm := made W5 g cs HXB5.out
  dsimp only [W6] at hm
  generalize (((W5.alloc (.map #[] 0)).alloc (.map #[] 0)).setCell ⟨g, 0, none⟩ (.map (some W5.heap.size))).setCell ⟨g, 1, none⟩ (.map (some (W5.heap.size + 1))) = V6 at hm ⊢
  clear s0 s1 e0 f0 e1 f1 hln heq hmm
  have hgs : g < W5.heap.size := blk_lt HXB5.out
  have hfs : gf < W5.heap.size := blk_lt HX5.out
  have HRN := Aside0.mk (reads_ne HR.out HS0.out)
  have K6 := Aside0.mk ((Keep.of_below (F := fun j => j = g) HB5.out).trans hm.2.2.2.1 (fun _ _ => id))
  have HXB6 := Aside0.mk hm.1
  have HM6 := Aside0.mk hm.2.1
  have HN6 := Aside0.mk hm.2.2.1
  have hsz6 := hm.2.2.2.2
  have HX6 := Aside0.mk (hm.2.2.2.1.blk HX5.out (fun e => by have e' : gf = g := e; have := HGF.out; have := HGL.out; omega))
  have HR6 := Aside0.mk (reads_keepF HR.out K6.out (fun a ha hn => HRN.out a ha hn))
  have hws : w.heap.size ≤ W5.heap.size := HB5.out.size
  clear hm
  generalize W5.heap.size = s at HXB6 HM6 HN6 hsz6 hgs hfs hws ⊢
  have HNM := Aside0.mk (And.intro hsz6 (And.intro hgs (And.intro hfs hws)))
  clear hsz6 hgs hfs hws
  have x0 : V6.cell? ⟨gf, 0, none⟩ = some (.int .u64 1) := (blk_cell HX6.out 0).trans rfl
  have x1 : V6.cell? ⟨gf, 1, none⟩ = some (.int .i64 1) := (blk_cell HX6.out 1).trans rfl
  have x2 : V6.cell? ⟨gf, 2, none⟩ = some (.slice Ar recs.length cr) := (blk_cell HX6.out 2).trans rfl
  have s0 : V6.cell? ⟨g, 0, none⟩ = some (.map (some s)) := (blk_cell HXB6.out 0).trans rfl
  have s1 : V6.cell? ⟨g, 1, none⟩ = some (.map (some (s + 1))) := (blk_cell HXB6.out 1).trans rfl
  refine start_ (n := 11) (S := fun w' => Below V6.heap.size V6 w') (ds := [10]) #[false, false, false, false, false, false, false, false, false, false, false] (by kernel_rfl) rfl rfl (below_drew1 (Below.refl _ _)) (fun hHeld => ?_)
  have hS0 := Aside0.mk (show Below V6.heap.size V6 V6.drew from below_drew1 (Below.refl _ _))
  refine pure_ (i := 0) (N := some 70) (v := ?_) (a' := ?_) #[true, false, false, false, false, false, false, false, false, false, false] rfl rfl (by kernel_rfl) (fun _ _ _ h => h) (Or.inl ⟨by rfl, ?_⟩) ?_ ?_
  rotate_left
  · intro w'
    go_simp
    with_reducible rfl
  rotate_left
  · simp only [Act.put, List.setIfInBounds_toArray, List.set_cons_zero, List.set_cons_succ, i64_w, i32_w]
    rfl
  refine pure_ (i := 1) (N := some 71) (v := ?_) (a' := ?_) #[true, true, false, false, false, false, false, false, false, false, false] rfl rfl (by kernel_rfl) (fun _ _ _ h => h) (Or.inl ⟨by rfl, ?_⟩) ?_ ?_
  rotate_left
  · intro w'
    go_simp
    with_reducible rfl
  rotate_left
  · simp only [Act.put, List.setIfInBounds_toArray, List.set_cons_zero, List.set_cons_succ, i64_w, i32_w]
    rfl
  refine pure_ (i := 2) (N := some 72) (v := ?_) (a' := ?_) #[true, true, true, false, false, false, false, false, false, false, false] rfl rfl (by kernel_rfl) (fun _ _ _ h => h) (Or.inl ⟨by rfl, ?_⟩) ?_ ?_
  rotate_left
  · intro w'
    go_simp
    with_reducible rfl
  rotate_left
  · simp only [Act.put, List.setIfInBounds_toArray, List.set_cons_zero, List.set_cons_succ, i64_w, i32_w]
    rfl
  refine pure_ (i := 4) (N := some 74) (v := ?_) (a' := ?_) #[true, true, true, false, true, false, false, false, false, false, false] rfl rfl (by kernel_rfl) (fun _ _ _ h => h) (Or.inl ⟨by rfl, ?_⟩) ?_ ?_
  rotate_left
  · intro w'
    go_simp
    with_reducible rfl
  rotate_left
  · simp only [Act.put, List.setIfInBounds_toArray, List.set_cons_zero, List.set_cons_succ, i64_w, i32_w]
    rfl
  refine pure_ (i := 7) (N := some 77) (v := ?_) (a' := ?_) #[true, true, true, false, true, false, false, true, false, false, false] rfl rfl (by kernel_rfl) (fun _ _ _ h => h) (Or.inl ⟨by rfl, ?_⟩) ?_ ?_
  rotate_left
  · intro w'
    go_simp
    with_reducible rfl
  rotate_left
  · simp only [Act.put, List.setIfInBounds_toArray, List.set_cons_zero, List.set_cons_succ, i64_w, i32_w]
    rfl
  refine take_ (i := 3) (N := some 73) (v := ?_) (a' := ?_) #[true, true, true, true, true, false, false, true, false, false, false] rfl rfl (by kernel_rfl) (fun _ _ _ h => h) (Or.inl ⟨by rfl, ?_⟩) hHeld ?_ ?_
  rotate_left
  · intro w' hS'
    have x0' := pw_cell_below hS' x0; have x1' := pw_cell_below hS' x1; have x2' := pw_cell_below hS' x2; have s0' := pw_cell_below hS' s0; have s1' := pw_cell_below hS' s1
    go_simp
    with_reducible rfl
  rotate_left
  · simp only [Act.put, List.setIfInBounds_toArray, List.set_cons_zero, List.set_cons_succ, i64_w, i32_w]
    rfl
  refine take_ (i := 5) (N := some 75) (v := ?_) (a' := ?_) #[true, true, true, true, true, true, false, true, false, false, false] rfl rfl (by kernel_rfl) (fun _ _ _ h => h) (Or.inl ⟨by rfl, ?_⟩) hHeld ?_ ?_
  rotate_left
  · intro w' hS'
    have x0' := pw_cell_below hS' x0; have x1' := pw_cell_below hS' x1; have x2' := pw_cell_below hS' x2; have s0' := pw_cell_below hS' s0; have s1' := pw_cell_below hS' s1
    go_simp
    with_reducible rfl
  rotate_left
  · simp only [Act.put, List.setIfInBounds_toArray, List.set_cons_zero, List.set_cons_succ, i64_w, i32_w]
    rfl
  refine take_ (i := 6) (N := some 76) (v := ?_) (a' := ?_) #[true, true, true, true, true, true, true, true, false, false, false] rfl rfl (by kernel_rfl) (fun _ _ _ h => h) (Or.inl ⟨by rfl, ?_⟩) hHeld ?_ ?_
  rotate_left
  · intro w' hS'
    have x0' := pw_cell_below hS' x0; have x1' := pw_cell_below hS' x1; have x2' := pw_cell_below hS' x2; have s0' := pw_cell_below hS' s0; have s1' := pw_cell_below hS' s1
    go_simp
    with_reducible rfl
  rotate_left
  · simp only [Act.put, List.setIfInBounds_toArray, List.set_cons_zero, List.set_cons_succ, i64_w, i32_w]
    rfl
  refine one_ (i := 8) (N := some 78) #[true, true, true, true, true, true, true, true, true, false, false] rfl rfl (by kernel_rfl) (by decide) (fun K hK => ?_)
  refine goes_ Tryz.func42 (by kernel_rfl) rfl #[.slice (some ad) bs.length cp] (by rfl) rfl rfl (by simp [Act.eval]) ?_
  refine (clone_calls ad bs cp (HR6.out.below hS0.out) HL.out.1).mono ?_
  rintro e_ w8 ⟨Ac, cc, rfl, hc1, hc2, hc3, hb⟩
  refine ⟨_, rfl, ?_⟩
  have hSa := Aside0.mk (hS0.out.trans (hb.mono hS0.out.size))
  refine hK.out _ _ hSa.out (fun hHeld => ?_)
  clear hK K hb hc1 hc2 hc3
  refine norm_ (a' := ?_) ?_ ?_
  rotate_left
  · show Act.put _ (some 78) _ = _
    simp only [Act.put, List.setIfInBounds_toArray, List.set_cons_zero, List.set_cons_succ, i64_w, i32_w]
    rfl
  refine pure_ (i := 9) (N := some 79) (v := ?_) (a' := ?_) #[true, true, true, true, true, true, true, true, true, true, false] rfl rfl (by kernel_rfl) (fun _ _ _ h => h) (Or.inl ⟨by rfl, ?_⟩) ?_ ?_
  rotate_left
  · intro w'
    go_simp
    with_reducible rfl
  rotate_left
  · simp only [Act.put, List.setIfInBounds_toArray, List.set_cons_zero, List.set_cons_succ, i64_w, i32_w]
    rfl
  have hM8 := own_map_keep HM6.out (Keep.of_below (F := fun _ => False) hSa.out) id
  obtain ⟨w9, hrun, h9, hg9⟩ := hM8.update kL Tryz.underlying51 (by unfold maxLen; omega) (keyOf_int_mk Tryz.underlying40 (wf_u (n := 1) (by omega))) (show kR (.agg #[.int .u64 1, .int .i64 1, .slice Ar recs.length cr, .slice Ac bs.length cc]) = some (.held (.agg #[.int .u64 1, .int .i64 1, .slice Ar recs.length cr, .slice Ac bs.length cc]), []) from kR_mk _ _ _ _ (by simp [Value.oneCell']))
  have H9 := Aside0.mk (And.intro h9 hg9)
  clear hM8 h9 hg9
  try simp only [Int.ofNat_one, Int.natCast_one] at hrun
  refine last_ (i := 10) (N := none) #[true, true, true, true, true, true, true, true, true, true, true] rfl rfl (by kernel_rfl) (by decide) (fun K hK => ?_)
  refine skip_ (w1 := w9) (by rfl) rfl (by go_simp <;> rfl) ?_
  refine hK.out _ _ ?_
  clear hK K hrun
  refine done_ (by kernel_rfl) ?_
  have K9 := Aside0.mk ((Keep.of_below (F := fun j => j = s) hSa.out).grown (row := some s) H9.out.2 (fun j hj _ => by cases hj; rfl))
  have HX9 := Aside0.mk (K9.out.blk HX6.out (fun e => by have e' : gf = s := e; have := HNM.out.2.2.1; omega))
  have HXB9 := Aside0.mk (K9.out.blk HXB6.out (fun e => by have e' : g = s := e; have := HNM.out.2.1; omega))
  have HN9 := Aside0.mk ((own_map_keep HN6.out (Keep.of_below (F := fun _ => False) hSa.out) id).kept H9.out.2 (fun e => by have e' := Option.some.inj e; omega))
  have KW9 := Aside0.mk (K6.out.trans (K9.out.mono (F := fun j => j = g ∨ w.heap.size ≤ j) (fun j _ e => .inr (by have e' : j = s := e; have := HNM.out.2.2.2; omega))) (fun j hj e => e.elim id (fun h => by omega)))
  clear x0 x1 x2 s0 s1 hS0
  have x0 : w9.cell? ⟨gf, 0, none⟩ = some (.int .u64 1) := (blk_cell HX9.out 0).trans rfl
  have x1 : w9.cell? ⟨gf, 1, none⟩ = some (.int .i64 1) := (blk_cell HX9.out 1).trans rfl
  have s1 : w9.cell? ⟨g, 1, none⟩ = some (.map (some (s + 1))) := (blk_cell HXB9.out 1).trans rfl
  go_upto_region 17 with (fail)
  refine start_ (n := 9) (S := fun w' => Below w9.heap.size w9 w') (ds := [8]) #[false, false, false, false, false, false, false, false, false] (by kernel_rfl) rfl rfl (below_drew1 (Below.refl _ _)) (fun hHeld => ?_)
  have hS0 := Aside0.mk (show Below w9.heap.size w9 w9.drew from below_drew1 (Below.refl _ _))
  refine pure_ (i := 0) (N := some 80) (v := ?_) (a' := ?_) #[true, false, false, false, false, false, false, false, false] rfl rfl (by kernel_rfl) (fun _ _ _ h => h) (Or.inl ⟨by rfl, ?_⟩) ?_ ?_
  rotate_left
  · intro w'
    go_simp
    with_reducible rfl
  rotate_left
  · simp only [Act.put, List.setIfInBounds_toArray, List.set_cons_zero, List.set_cons_succ, i64_w, i32_w]
    rfl
  refine pure_ (i := 1) (N := some 81) (v := ?_) (a' := ?_) #[true, true, false, false, false, false, false, false, false] rfl rfl (by kernel_rfl) (fun _ _ _ h => h) (Or.inl ⟨by rfl, ?_⟩) ?_ ?_
  rotate_left
  · intro w'
    go_simp
    with_reducible rfl
  rotate_left
  · simp only [Act.put, List.setIfInBounds_toArray, List.set_cons_zero, List.set_cons_succ, i64_w, i32_w]
    rfl
  refine pure_ (i := 2) (N := some 82) (v := ?_) (a' := ?_) #[true, true, true, false, false, false, false, false, false] rfl rfl (by kernel_rfl) (fun _ _ _ h => h) (Or.inl ⟨by rfl, ?_⟩) ?_ ?_
  rotate_left
  · intro w'
    go_simp
    with_reducible rfl
  rotate_left
  · simp only [Act.put, List.setIfInBounds_toArray, List.set_cons_zero, List.set_cons_succ, i64_w, i32_w]
    rfl
  refine pure_ (i := 4) (N := some 84) (v := ?_) (a' := ?_) #[true, true, true, false, true, false, false, false, false] rfl rfl (by kernel_rfl) (fun _ _ _ h => h) (Or.inl ⟨by rfl, ?_⟩) ?_ ?_
  rotate_left
  · intro w'
    go_simp
    with_reducible rfl
  rotate_left
  · simp only [Act.put, List.setIfInBounds_toArray, List.set_cons_zero, List.set_cons_succ, i64_w, i32_w]
    rfl
  refine pure_ (i := 6) (N := some 86) (v := ?_) (a' := ?_) #[true, true, true, false, true, false, true, false, false] rfl rfl (by kernel_rfl) (fun _ _ _ h => h) (Or.inl ⟨by rfl, ?_⟩) ?_ ?_
  rotate_left
  · intro w'
    go_simp
    with_reducible rfl
  rotate_left
  · simp only [Act.put, List.setIfInBounds_toArray, List.set_cons_zero, List.set_cons_succ, i64_w, i32_w]
    rfl
  refine take_ (i := 3) (N := some 83) (v := ?_) (a' := ?_) #[true, true, true, true, true, false, true, false, false] rfl rfl (by kernel_rfl) (fun _ _ _ h => h) (Or.inl ⟨by rfl, ?_⟩) hHeld ?_ ?_
  rotate_left
  · intro w' hS'
    have x0' := pw_cell_below hS' x0; have x1' := pw_cell_below hS' x1; have s1' := pw_cell_below hS' s1
    go_simp
    with_reducible rfl
  rotate_left
  · simp only [Act.put, List.setIfInBounds_toArray, List.set_cons_zero, List.set_cons_succ, i64_w, i32_w]
    rfl
  refine take_ (i := 5) (N := some 85) (v := ?_) (a' := ?_) #[true, true, true, true, true, true, true, false, false] rfl rfl (by kernel_rfl) (fun _ _ _ h => h) (Or.inl ⟨by rfl, ?_⟩) hHeld ?_ ?_
  rotate_left
  · intro w' hS'
    have x0' := pw_cell_below hS' x0; have x1' := pw_cell_below hS' x1; have s1' := pw_cell_below hS' s1
    go_simp
    with_reducible rfl
  rotate_left
  · simp only [Act.put, List.setIfInBounds_toArray, List.set_cons_zero, List.set_cons_succ, i64_w, i32_w]
    rfl
  refine take_ (i := 7) (N := some 87) (v := ?_) (a' := ?_) #[true, true, true, true, true, true, true, true, false] rfl rfl (by kernel_rfl) (fun _ _ _ h => h) (Or.inl ⟨by rfl, ?_⟩) hHeld ?_ ?_
  rotate_left
  · intro w' hS'
    have x0' := pw_cell_below hS' x0; have x1' := pw_cell_below hS' x1; have s1' := pw_cell_below hS' s1
    go_simp
    with_reducible rfl
  rotate_left
  · simp only [Act.put, List.setIfInBounds_toArray, List.set_cons_zero, List.set_cons_succ, i64_w, i32_w]
    rfl
  have hN10 := own_map_keep HN9.out (Keep.of_below (F := fun _ => False) hS0.out) id
  obtain ⟨w10, hrun, h10, hg10⟩ := hN10.update kW Tryz.underlying52 (by unfold maxLen; omega) (keyOf_int_mk Tryz.underlying2 (wf_i (n := 1) (by omega) (by omega))) (show idR (.int .u64 1) = some (.held (.int .u64 1), []) from rfl)
  have H10 := Aside0.mk (And.intro h10 hg10)
  clear hN10 h10 hg10
  refine last_ (i := 8) (N := none) #[true, true, true, true, true, true, true, true, true] rfl rfl (by kernel_rfl) (by decide) (fun K hK => ?_)
  refine skip_ (w1 := w10) (by rfl) rfl (by go_simp <;> rfl) ?_
  refine hK.out _ _ ?_
  clear hK K hrun
  refine done_ (by kernel_rfl) ?_
  have K10 := Aside0.mk ((Keep.of_below (F := fun j => j = s + 1) hS0.out).grown (row := some (s + 1)) H10.out.2 (fun j hj _ => by cases hj; rfl))
  go_wp2
  go_ret
  refine ⟨rfl, ⟨s, s + 1, _, K10.out.blk HXB9.out (fun e => by have e' : g = s + 1 := e; have := HNM.out.2.1; omega), own_map_keep H9.out.1 K10.out (fun e => by have e' : s = s + 1 := e; omega), put1 _, HNM.out.2.1⟩, ?_⟩
  exact KW9.out.trans (K10.out.mono (F := fun j => j = g ∨ w.heap.size ≤ j) (fun j _ e => .inr (by have e' : j = s + 1 := e; have := HNM.out.2.2.2; omega))) (fun j hj e => e.elim id (fun h => by omega))
end Go.Proofs.YtpihpkphhkcdlaaGreatDoor.Tz
namespace Go.Proofs.YtpihpkphhkcdlaaGreatDoor.Zs
open Go.RowKit Go.Maps Go.Proofs.YtpihpkphhkcdlaaGreatDoorW.PrintWords Go.Proofs.YtpihpkphhkcdlaaGreatDoorW.PrintLast Go.Proofs.YtpihpkphhkcdlaaGreatDoor.Tab Go.Proofs.YtpihpkphhkcdlaaGreatDoor.Kp Go.Proofs.YtpihpkphhkcdlaaGreatDoor.Pd Go.Proofs.YtpihpkphhkcdlaaGreatDoor.Pk Go.Proofs.YtpihpkphhkcdlaaGreatDoor.Sk Go.Proofs.YtpihpkphhkcdlaaGreatDoor.Lk Go.Proofs.YtpihpkphhkcdlaaGreatDoor.Tke Go.Proofs.YtpihpkphhkcdlaaGreatDoor.Tz
set_option linter.unusedVariables false
set_option linter.unusedSimpArgs false
/-- A sink of one frame. -/
def One (w : World) (g : Nat) (cs : List Int) : Prop := ∃ ml mw D, w.heap[g]? = some (.cells (skC (some ml) (some mw) cs) 54 (0, 0)) ∧ w.ownsMap Tryz.prog 40 kR ml 1 D ∧ Maps.size D = 1 ∧ g < ml
theorem One.below {w W : World} {g : Nat} {cs : List Int} (h : One w g cs) (k : Below w.heap.size w W) : One W g cs := by
  obtain ⟨ml, mw, D, h1, h2, h3, h4⟩ := h
  exact ⟨ml, mw, D, (k.block _ (blk_lt h1)).trans h1, own_map_keep h2 (Keep.of_below (F := fun _ => False) k) id, h3, h4⟩
set_option maxHeartbeats 4000000 in
set_option maxRecDepth 1000000 in
theorem ztake_calls (g : Nat) (cs : List Int) (A : Option Addr) (cp : Nat) (bs : List UInt8) (recs : List Rec) (hf : decP bs = (⟨1, 1, recs⟩, 0)) (hl : bs.length ≤ 1000000) (h8 : 0 < bs.length) (hcp : bs.length ≤ cp) (w : World) (hG : Glob w) (hr : ReadsInt w .u8 A bs.length (nb bs)) (hblk : w.heap[g]? = some (.cells (skC none none cs) 54 (0, 0))) :
    Calls Tryz.prog 9 #[.pointer (some ⟨g, 0, none⟩), .slice A bs.length cp] w fun e w' => e = .returned (.int .i64 1) ∧ One w' g (bump cs 1) ∧ Keep (fun j => j = g) w w' := by
  have HT := Aside0.mk (tookz_calls g cs A cp bs recs hf hl h8 hcp w hG hr hblk)
  clear hf hl h8 hcp hG hr hblk
  go_enter Tryz.func9, Tryz.ntmps9
  go_upto_region 4 with (first | (go_at_call 23; (with_reducible refine HT.out.mono ?_); rintro e_ w1 ⟨rfl, ⟨ml, mw, D, h1, h2, h3, h4⟩, h5⟩; have HS1 := Aside0.mk (And.intro h1 (And.intro h2 (And.intro h3 h4))); have HK1 := Aside0.mk h5; clear h1 h2 h3 h4 h5))
  have c0 : w1.cell? ⟨g, 3, none⟩ = some (.int .i64 (cs.getD 1 0)) := (blk_cell HS1.out.1 3).trans rfl
  have f0 := blk_frozen HS1.out.1 3
  have c1 : w1.drew.cell? ⟨g, 3, none⟩ = some (.int .i64 (cs.getD 1 0)) := c0
  have f1 : w1.drew.frozen? ⟨g, 3, none⟩ = false := f0
  go_region
  have kk : Keep (fun j => j = g) w1 (w1.setCell ⟨g, 3, none⟩ (.int .i64 (wrap64 (cs.getD 1 0 + 1)))) := (Keep.refl (fun j => j = g) w1).set (g := g) rfl _ _
  have HI := Aside0.mk (show One (w1.setCell ⟨g, 3, none⟩ (.int .i64 (wrap64 (cs.getD 1 0 + 1)))) g (bump cs 1) from ⟨ml, mw, D, blk_put HS1.out.1 3 _ (skC_set _ _ _ 1 (by decide)), own_map_keep HS1.out.2.1 kk (fun e => by have e' : ml = g := e; have := HS1.out.2.2.2; omega), HS1.out.2.2.1, HS1.out.2.2.2⟩)
  have HKK := Aside0.mk (HK1.out.trans kk (fun _ _ => id))
  rw [List.getD_eq_getElem?_getD] at HI HKK
  clear c0 f0 c1 f1 kk
  go_wp2
  go_ret
  exact ⟨rfl, HI.out.below (below_drew1 (Below.refl _ _)), HKK.out.drew⟩
theorem zlen_calls (g : Nat) (cs : List Int) (w : World) (h : One w g cs) : Calls Tryz.prog 12 #[.pointer (some ⟨g, 0, none⟩)] w fun e w' => e = .returned (.int .i64 1) ∧ w' = w := by
  obtain ⟨ml, mw, D, h1, h2, h3, h4⟩ := h
  have c0 : w.cell? ⟨g, 0, none⟩ = some (.map (some ml)) := (blk_cell h1 0).trans rfl
  have hln := lenL h2
  rw [h3] at hln
  clear h1 h2 h3 h4
  go_enter Tryz.func12, Tryz.ntmps12
  go_wp2
  go_ret
  exact ⟨rfl, rfl⟩
theorem eqN (w : World) : (Op.equalIn 10000 36 (.agg #[.int .i64 0, .int .i64 1, .int .i64 0, .int .i64 0, .int .i64 0, .int .i64 0]) (.agg #[.int .i64 0, .int .i64 0, .int .i64 0, .int .i64 0, .int .i64 0, .int .i64 0])).run Tryz.prog w = .ok false w := by kernel_rfl
set_option maxHeartbeats 4000000 in
set_option maxRecDepth 1000000 in
theorem zsame_calls (g g2 : Nat) (a b a2 b2 : Option Nat) (w : World) (h : w.heap[g]? = some (.cells (skC a b [0, 1, 0, 0, 0, 0]) 54 (0, 0))) (h2 : w.heap[g2]? = some (.cells (skC a2 b2 []) 54 (0, 0))) : Calls Tryz.prog 22 #[.pointer (some ⟨g, 0, none⟩), .pointer (some ⟨g2, 0, none⟩)] w fun e w' => e = .returned (.bool false) ∧ Below w.heap.size w w' := by
  have a0 : w.cell? ⟨g, 2, none⟩ = some (.int .i64 0) := (blk_cell h 2).trans rfl
  have b0 : w.cell? ⟨g2, 2, none⟩ = some (.int .i64 0) := (blk_cell h2 2).trans rfl
  have a1 : w.cell? ⟨g, 3, none⟩ = some (.int .i64 1) := (blk_cell h 3).trans rfl
  have b1 : w.cell? ⟨g2, 3, none⟩ = some (.int .i64 0) := (blk_cell h2 3).trans rfl
  have a2 : w.cell? ⟨g, 4, none⟩ = some (.int .i64 0) := (blk_cell h 4).trans rfl
  have b2 : w.cell? ⟨g2, 4, none⟩ = some (.int .i64 0) := (blk_cell h2 4).trans rfl
  have a3 : w.cell? ⟨g, 5, none⟩ = some (.int .i64 0) := (blk_cell h 5).trans rfl
  have b3 : w.cell? ⟨g2, 5, none⟩ = some (.int .i64 0) := (blk_cell h2 5).trans rfl
  have a4 : w.cell? ⟨g, 6, none⟩ = some (.int .i64 0) := (blk_cell h 6).trans rfl
  have b4 : w.cell? ⟨g2, 6, none⟩ = some (.int .i64 0) := (blk_cell h2 6).trans rfl
  have a5 : w.cell? ⟨g, 7, none⟩ = some (.int .i64 0) := (blk_cell h 7).trans rfl
  have b5 : w.cell? ⟨g2, 7, none⟩ = some (.int .i64 0) := (blk_cell h2 7).trans rfl
  clear h h2
  go_enter Tryz.func22, Tryz.ntmps22
  go_upto_region 3 with (fail)
  refine start_ (n := 21) (S := fun w' => Below w.heap.size w w') (ds := []) #[false, false, false, false, false, false, false, false, false, false, false, false, false, false, false, false, false, false, false, false, false] (by kernel_rfl) rfl rfl (below_drew1 (Below.refl _ _)) (fun hHeld => ?_)
  refine pure_ (i := 0) (N := some 17) (v := ?_) (a' := ?_) #[true, false, false, false, false, false, false, false, false, false, false, false, false, false, false, false, false, false, false, false, false] rfl rfl (by kernel_rfl) (fun _ _ _ h => h) (Or.inl ⟨by rfl, ?_⟩) ?_ ?_
  rotate_left
  · intro w'
    go_simp
    with_reducible rfl
  rotate_left
  · simp only [Act.put, List.setIfInBounds_toArray, List.set_cons_zero, List.set_cons_succ, i64_w, i32_w]
    rfl
  refine pure_ (i := 1) (N := some 18) (v := ?_) (a' := ?_) #[true, true, false, false, false, false, false, false, false, false, false, false, false, false, false, false, false, false, false, false, false] rfl rfl (by kernel_rfl) (fun _ _ _ h => h) (Or.inl ⟨by rfl, ?_⟩) ?_ ?_
  rotate_left
  · intro w'
    go_simp
    with_reducible rfl
  rotate_left
  · simp only [Act.put, List.setIfInBounds_toArray, List.set_cons_zero, List.set_cons_succ, i64_w, i32_w]
    rfl
  refine pure_ (i := 2) (N := some 19) (v := ?_) (a' := ?_) #[true, true, true, false, false, false, false, false, false, false, false, false, false, false, false, false, false, false, false, false, false] rfl rfl (by kernel_rfl) (fun _ _ _ h => h) (Or.inl ⟨by rfl, ?_⟩) ?_ ?_
  rotate_left
  · intro w'
    go_simp
    with_reducible rfl
  rotate_left
  · simp only [Act.put, List.setIfInBounds_toArray, List.set_cons_zero, List.set_cons_succ, i64_w, i32_w]
    rfl
  refine pure_ (i := 4) (N := some 21) (v := ?_) (a' := ?_) #[true, true, true, false, true, false, false, false, false, false, false, false, false, false, false, false, false, false, false, false, false] rfl rfl (by kernel_rfl) (fun _ _ _ h => h) (Or.inl ⟨by rfl, ?_⟩) ?_ ?_
  rotate_left
  · intro w'
    go_simp
    with_reducible rfl
  rotate_left
  · simp only [Act.put, List.setIfInBounds_toArray, List.set_cons_zero, List.set_cons_succ, i64_w, i32_w]
    rfl
  refine pure_ (i := 5) (N := some 22) (v := ?_) (a' := ?_) #[true, true, true, false, true, true, false, false, false, false, false, false, false, false, false, false, false, false, false, false, false] rfl rfl (by kernel_rfl) (fun _ _ _ h => h) (Or.inl ⟨by rfl, ?_⟩) ?_ ?_
  rotate_left
  · intro w'
    go_simp
    with_reducible rfl
  rotate_left
  · simp only [Act.put, List.setIfInBounds_toArray, List.set_cons_zero, List.set_cons_succ, i64_w, i32_w]
    rfl
  refine pure_ (i := 6) (N := some 23) (v := ?_) (a' := ?_) #[true, true, true, false, true, true, true, false, false, false, false, false, false, false, false, false, false, false, false, false, false] rfl rfl (by kernel_rfl) (fun _ _ _ h => h) (Or.inl ⟨by rfl, ?_⟩) ?_ ?_
  rotate_left
  · intro w'
    go_simp
    with_reducible rfl
  rotate_left
  · simp only [Act.put, List.setIfInBounds_toArray, List.set_cons_zero, List.set_cons_succ, i64_w, i32_w]
    rfl
  refine take_ (i := 3) (N := some 20) (v := ?_) (a' := ?_) #[true, true, true, true, true, true, true, false, false, false, false, false, false, false, false, false, false, false, false, false, false] rfl rfl (by kernel_rfl) (fun _ _ _ h => h) (Or.inl ⟨by rfl, ?_⟩) hHeld ?_ ?_
  rotate_left
  · intro w' hS'
    have a0' := pw_cell_below hS' a0; have b0' := pw_cell_below hS' b0; have a1' := pw_cell_below hS' a1; have b1' := pw_cell_below hS' b1; have a2' := pw_cell_below hS' a2; have b2' := pw_cell_below hS' b2; have a3' := pw_cell_below hS' a3; have b3' := pw_cell_below hS' b3; have a4' := pw_cell_below hS' a4; have b4' := pw_cell_below hS' b4; have a5' := pw_cell_below hS' a5; have b5' := pw_cell_below hS' b5; have hq := eqN w'
    go_simp
    with_reducible rfl
  rotate_left
  · simp only [Act.put, List.setIfInBounds_toArray, List.set_cons_zero, List.set_cons_succ, i64_w, i32_w]
    rfl
  refine take_ (i := 7) (N := some 24) (v := ?_) (a' := ?_) #[true, true, true, true, true, true, true, true, false, false, false, false, false, false, false, false, false, false, false, false, false] rfl rfl (by kernel_rfl) (fun _ _ _ h => h) (Or.inl ⟨by rfl, ?_⟩) hHeld ?_ ?_
  rotate_left
  · intro w' hS'
    have a0' := pw_cell_below hS' a0; have b0' := pw_cell_below hS' b0; have a1' := pw_cell_below hS' a1; have b1' := pw_cell_below hS' b1; have a2' := pw_cell_below hS' a2; have b2' := pw_cell_below hS' b2; have a3' := pw_cell_below hS' a3; have b3' := pw_cell_below hS' b3; have a4' := pw_cell_below hS' a4; have b4' := pw_cell_below hS' b4; have a5' := pw_cell_below hS' a5; have b5' := pw_cell_below hS' b5; have hq := eqN w'
    go_simp
    with_reducible rfl
  rotate_left
  · simp only [Act.put, List.setIfInBounds_toArray, List.set_cons_zero, List.set_cons_succ, i64_w, i32_w]
    rfl
  refine take_ (i := 8) (N := some 25) (v := ?_) (a' := ?_) #[true, true, true, true, true, true, true, true, true, false, false, false, false, false, false, false, false, false, false, false, false] rfl rfl (by kernel_rfl) (fun _ _ _ h => h) (Or.inl ⟨by rfl, ?_⟩) hHeld ?_ ?_
  rotate_left
  · intro w' hS'
    have a0' := pw_cell_below hS' a0; have b0' := pw_cell_below hS' b0; have a1' := pw_cell_below hS' a1; have b1' := pw_cell_below hS' b1; have a2' := pw_cell_below hS' a2; have b2' := pw_cell_below hS' b2; have a3' := pw_cell_below hS' a3; have b3' := pw_cell_below hS' b3; have a4' := pw_cell_below hS' a4; have b4' := pw_cell_below hS' b4; have a5' := pw_cell_below hS' a5; have b5' := pw_cell_below hS' b5; have hq := eqN w'
    go_simp
    with_reducible rfl
  rotate_left
  · simp only [Act.put, List.setIfInBounds_toArray, List.set_cons_zero, List.set_cons_succ, i64_w, i32_w]
    rfl
  refine pure_ (i := 9) (N := some 26) (v := ?_) (a' := ?_) #[true, true, true, true, true, true, true, true, true, true, false, false, false, false, false, false, false, false, false, false, false] rfl rfl (by kernel_rfl) (fun _ _ _ h => h) (Or.inl ⟨by rfl, ?_⟩) ?_ ?_
  rotate_left
  · intro w'
    go_simp
    with_reducible rfl
  rotate_left
  · simp only [Act.put, List.setIfInBounds_toArray, List.set_cons_zero, List.set_cons_succ, i64_w, i32_w]
    rfl
  refine pure_ (i := 10) (N := some 27) (v := undef) (a' := ?_) #[true, true, true, true, true, true, true, true, true, true, true, false, false, false, false, false, false, false, false, false, false] rfl rfl (by kernel_rfl) (fun _ _ _ h => h) (Or.inr ⟨by rfl, rfl⟩) ?_ ?_
  rotate_left
  · simp only [Act.put, List.setIfInBounds_toArray, List.set_cons_zero, List.set_cons_succ, i64_w, i32_w]
    rfl
  refine pure_ (i := 11) (N := some 28) (v := undef) (a' := ?_) #[true, true, true, true, true, true, true, true, true, true, true, true, false, false, false, false, false, false, false, false, false] rfl rfl (by kernel_rfl) (fun _ _ _ h => h) (Or.inr ⟨by rfl, rfl⟩) ?_ ?_
  rotate_left
  · simp only [Act.put, List.setIfInBounds_toArray, List.set_cons_zero, List.set_cons_succ, i64_w, i32_w]
    rfl
  refine pure_ (i := 12) (N := some 29) (v := undef) (a' := ?_) #[true, true, true, true, true, true, true, true, true, true, true, true, true, false, false, false, false, false, false, false, false] rfl rfl (by kernel_rfl) (fun _ _ _ h => h) (Or.inr ⟨by rfl, rfl⟩) ?_ ?_
  rotate_left
  · simp only [Act.put, List.setIfInBounds_toArray, List.set_cons_zero, List.set_cons_succ, i64_w, i32_w]
    rfl
  refine pure_ (i := 13) (N := some 30) (v := undef) (a' := ?_) #[true, true, true, true, true, true, true, true, true, true, true, true, true, true, false, false, false, false, false, false, false] rfl rfl (by kernel_rfl) (fun _ _ _ h => h) (Or.inr ⟨by rfl, rfl⟩) ?_ ?_
  rotate_left
  · simp only [Act.put, List.setIfInBounds_toArray, List.set_cons_zero, List.set_cons_succ, i64_w, i32_w]
    rfl
  refine pure_ (i := 14) (N := some 31) (v := undef) (a' := ?_) #[true, true, true, true, true, true, true, true, true, true, true, true, true, true, true, false, false, false, false, false, false] rfl rfl (by kernel_rfl) (fun _ _ _ h => h) (Or.inr ⟨by rfl, rfl⟩) ?_ ?_
  rotate_left
  · simp only [Act.put, List.setIfInBounds_toArray, List.set_cons_zero, List.set_cons_succ, i64_w, i32_w]
    rfl
  refine pure_ (i := 15) (N := some 32) (v := undef) (a' := ?_) #[true, true, true, true, true, true, true, true, true, true, true, true, true, true, true, true, false, false, false, false, false] rfl rfl (by kernel_rfl) (fun _ _ _ h => h) (Or.inr ⟨by rfl, rfl⟩) ?_ ?_
  rotate_left
  · simp only [Act.put, List.setIfInBounds_toArray, List.set_cons_zero, List.set_cons_succ, i64_w, i32_w]
    rfl
  refine pure_ (i := 16) (N := some 33) (v := undef) (a' := ?_) #[true, true, true, true, true, true, true, true, true, true, true, true, true, true, true, true, true, false, false, false, false] rfl rfl (by kernel_rfl) (fun _ _ _ h => h) (Or.inr ⟨by rfl, rfl⟩) ?_ ?_
  rotate_left
  · simp only [Act.put, List.setIfInBounds_toArray, List.set_cons_zero, List.set_cons_succ, i64_w, i32_w]
    rfl
  refine pure_ (i := 17) (N := some 34) (v := undef) (a' := ?_) #[true, true, true, true, true, true, true, true, true, true, true, true, true, true, true, true, true, true, false, false, false] rfl rfl (by kernel_rfl) (fun _ _ _ h => h) (Or.inr ⟨by rfl, rfl⟩) ?_ ?_
  rotate_left
  · simp only [Act.put, List.setIfInBounds_toArray, List.set_cons_zero, List.set_cons_succ, i64_w, i32_w]
    rfl
  refine pure_ (i := 18) (N := some 35) (v := undef) (a' := ?_) #[true, true, true, true, true, true, true, true, true, true, true, true, true, true, true, true, true, true, true, false, false] rfl rfl (by kernel_rfl) (fun _ _ _ h => h) (Or.inr ⟨by rfl, rfl⟩) ?_ ?_
  rotate_left
  · simp only [Act.put, List.setIfInBounds_toArray, List.set_cons_zero, List.set_cons_succ, i64_w, i32_w]
    rfl
  refine pure_ (i := 19) (N := some 36) (v := ?_) (a' := ?_) #[true, true, true, true, true, true, true, true, true, true, true, true, true, true, true, true, true, true, true, true, false] rfl rfl (by kernel_rfl) (fun _ _ _ h => h) (Or.inl ⟨by rfl, ?_⟩) ?_ ?_
  rotate_left
  · intro w'
    go_simp
    with_reducible rfl
  rotate_left
  · simp only [Act.put, List.setIfInBounds_toArray, List.set_cons_zero, List.set_cons_succ, i64_w, i32_w]
    rfl
  refine pure_ (i := 20) (N := some 4) (v := ?_) (a' := ?_) #[true, true, true, true, true, true, true, true, true, true, true, true, true, true, true, true, true, true, true, true, true] rfl rfl (by kernel_rfl) (fun _ _ _ h => h) (Or.inl ⟨by rfl, ?_⟩) ?_ ?_
  rotate_left
  · intro w'
    go_simp
    with_reducible rfl
  rotate_left
  · simp only [Act.put, List.setIfInBounds_toArray, List.set_cons_zero, List.set_cons_succ, i64_w, i32_w]
    rfl
  refine done_ (by kernel_rfl) ?_
  go_wp2
  go_ret
  exact ⟨rfl, below_drew1 (Below.refl _ _)⟩
end Go.Proofs.YtpihpkphhkcdlaaGreatDoor.Zs
namespace Go.Proofs.YtpihpkphhkcdlaaGreatDoor.Nw
open Go.RowKit Go.Maps Go.Shelf Go.Proofs.YtpihpkphhkcdlaaGreatDoorW.PrintWords Go.Proofs.YtpihpkphhkcdlaaGreatDoorW.PrintLast Go.Proofs.YtpihpkphhkcdlaaGreatDoor.Tab Go.Proofs.YtpihpkphhkcdlaaGreatDoor.Kp Go.Proofs.YtpihpkphhkcdlaaGreatDoor.Pd Go.Proofs.YtpihpkphhkcdlaaGreatDoor.Pk Go.Proofs.YtpihpkphhkcdlaaGreatDoor.Sk Go.Proofs.YtpihpkphhkcdlaaGreatDoor.Cr Go.Proofs.YtpihpkphhkcdlaaGreatDoor.Cp Go.Proofs.YtpihpkphhkcdlaaGreatDoor.Tke Go.Proofs.YtpihpkphhkcdlaaGreatDoor.Al Go.Proofs.YtpihpkphhkcdlaaGreatDoor.On Go.Proofs.YtpihpkphhkcdlaaGreatDoor.Ec Go.Proofs.YtpihpkphhkcdlaaGreatDoor.Kn Go.Proofs.YtpihpkphhkcdlaaGreatDoor.Nl Go.Proofs.YtpihpkphhkcdlaaGreatDoor.Nm Go.Proofs.YtpihpkphhkcdlaaGreatDoor.Tz Go.Proofs.YtpihpkphhkcdlaaGreatDoor.Zs
set_option linter.unusedVariables false
set_option linter.unusedSimpArgs false
attribute [local go_sem] Oper.semAt_some
theorem resB (tmps : Array Value) (W : World) (B : Nat) (v : Value) (hp : tmps.getD 0 undef = .pointer (some ⟨B, 0, none⟩)) (hc : W.cell? ⟨B, 0, none⟩ = some v) : (results Tryz.f5 tmps).run Tryz.prog W = .ok v W := by
  have hp' : tmps[0]?.getD undef = .pointer (some ⟨B, 0, none⟩) := by simpa using hp
  have u := run_underlying Tryz.underlying4 W
  simp [results, show Tryz.f5.results = #[.cell 0 4] from rfl, hp', asAddr, loadVar, isAgg, go_sem, u, hc]
theorem bump1 : bump [] 1 = [0, 1, 0, 0, 0, 0] := by kernel_rfl
theorem eqF (B : Nat) (W : World) : (binOp .eql 56 (.func (.func 30) #[] #[.pointer (some ⟨B, 0, none⟩)]) .nilFunc).run Tryz.prog W = .ok (.bool false) W := by kernel_rfl
set_option maxHeartbeats 16000000 in
set_option maxRecDepth 1000000 in
theorem walk_ (w : World) (hG : Glob w) : Calls Tryz.prog 5 #[] w fun e w' => e = .returned (.bool true) ∧ Below w.heap.size w w' := by
  have HE1 := Aside0.mk dec1
  have HL := Aside0.mk len1
  have HO1 := Aside0.mk one1_calls
  generalize enc1 1 = E1 at HE1 HL HO1
  have HGW := Aside0.mk hG
  have hqf := eqF
  clear hG
  refine (callsIn_wide (n := 9)).1 ?_
  refine callsIn_of_wp_marks Tryz.func5 rfl trivial ?_ rfl
  simp only [Tryz.ntmps5, List.size_toArray, List.length_cons, List.length_nil, Nat.reduceAdd, Nat.reduceSub, Array.replicate_succ, Array.replicate_zero, List.push_toArray, List.append_toArray, List.nil_append, List.cons_append]
  gi_wp2_with (first
    | (refine ⟨trivial, ?_⟩; gi_at_call 16; (with_reducible refine (callsIn_wide.2 (all_nil _)).mono ?_); rintro e_ wa ⟨rfl, rfl⟩; skip))
  obtain ⟨w2, hw2⟩ : ∃ w2, w2 = (((w.alloc (.cells #[.bool false] 4)).alloc (.cells (skC none none []) 54)).alloc (.cells #[.pointer none] 25)).alloc (.cells #[.pointer none] 25) := ⟨_, rfl⟩
  have hsk : (skC none none [] : Array Value) = #[.map none, .map none, .int .i64 0, .int .i64 0, .int .i64 0, .int .i64 0, .int .i64 0, .int .i64 0] := rfl
  rw [hsk] at hw2
  rw [← hw2]
  rw [← hsk] at hw2
  have hB2 : Below w.heap.size w w2 := by rw [hw2]; exact below_alloc (below_alloc (below_alloc (below_alloc (Below.refl _ _) _) _) _) _
  have hs2 : w2.heap.size = w.heap.size + 1 + 1 + 1 + 1 := by rw [hw2]; simp
  have h00 : w2.heap[w.heap.size]? = some (.cells #[.bool false] 4 (0, 0)) := by rw [hw2]; exact blk_b (blk_new w _) (below_alloc (below_alloc (below_alloc (Below.refl _ _) _) _) _)
  have hz0 : w2.heap[w.heap.size + 1]? = some (.cells (skC none none []) 54 (0, 0)) := by
    rw [hw2]
    have h := blk_new (w.alloc (.cells #[.bool false] 4)) (.cells (skC none none []) 54)
    rw [World.size_alloc] at h
    exact blk_b h (below_alloc (below_alloc (Below.refl _ _) _) _)
  have hbx : w2.heap[w.heap.size + 1 + 1 + 1]? = some (.cells #[.pointer none] 25 (0, 0)) := by
    rw [hw2]
    have h := blk_new (((w.alloc (.cells #[.bool false] 4)).alloc (.cells (skC none none []) 54)).alloc (.cells #[.pointer none] 25)) (.cells #[.pointer none] 25)
    rw [World.size_alloc, World.size_alloc, World.size_alloc] at h
    exact h
  clear hw2 hsk hqf
  refine wpIn_rangeFunc_ownH rfl (by decide) (gf := 30) (lb := #[.pointer (some ⟨w.heap.size + 1 + 1 + 1, 0, none⟩)]) rfl trivial (enters_of Tryz.func30 (by kernel_rfl) rfl)
    (nil_stops 8 trivial rfl (fun _ _ => True) (w.heap.size + 1 + 1 + 1) w2 hbx) (fun _ _ => trivial) (fun _ _ _ _ _ _ _ _ => trivial) (Below.refl _ _) (fun x => x.elim)
    (fun _ W => Below w2.heap.size w2 W) (fun _ _ _ => False) (ownFrom_below (Nat.le_refl _) (Nat.le_refl _)) (fun _ _ _ _ _ hs _ _ => hs) (Below.refl _ _)
    (fun x _ _ => x.elim) (fun x => x.elim) (fun _ _ x => x.elim) (fun _ _ x => x.elim) ?done (fun _ _ _ _ _ _ h _ => h.elim)
  case done =>
    rintro D' ys W hD _ hB hK
    have HB := Aside0.mk (hB2.trans (hB.mono hB2.size))
    have HG := Aside0.mk (HGW.out.below HB.out)
    have H0 := Aside0.mk (blk_b h00 hB)
    have HZ := Aside0.mk (blk_b hz0 hB)
    have HD := Aside0.mk hK
    have HDN := Aside0.mk (show w.heap.size + 1 < D' from by omega)
    clear hB2 hB hs2 h00 hz0 hbx hD hK
    gi_wp2_with (first
      | (refine ⟨trivial, ?_⟩; gi_at_call 14; (with_reducible refine (callsIn_wide.2 (get_nil _ _)).mono ?_); rintro e_ wa ⟨rfl, hb_⟩; have HB := Aside0.mk (HB.out.trans (hb_.mono HB.out.size)); have HG := Aside0.mk (HG.out.below hb_); have HZ := Aside0.mk (blk_b HZ.out hb_); have H0 := Aside0.mk (blk_b H0.out hb_); have HD := Aside0.mk (blk_b HD.out hb_); clear hb_)
      | (refine ⟨trivial, ?_⟩; gi_at_call 10; (with_reducible refine (callsIn_wide.2 (total_nil _ _ _ _)).mono ?_); rintro e_ wa ⟨rfl, rfl⟩; skip)
      | (refine ⟨trivial, ?_⟩; gi_at_call 17; (with_reducible refine (callsIn_wide.2 (HO1.out _)).mono ?_); rintro e_ wa ⟨A, c, rfl, h1, h2, hb_⟩; have HR := Aside0.mk (And.intro h1 h2); (first | (have HB := Aside0.mk (HB.out.trans (hb_.mono HB.out.size)); have HG := Aside0.mk (HG.out.below hb_); have HZ := Aside0.mk (blk_b HZ.out hb_); have H0 := Aside0.mk (blk_b H0.out hb_); have HD := Aside0.mk (blk_b HD.out hb_)) | (have hb_ := (below_alloc (Below.refl _ _) (.cells #[.int .u64 0, .int .i64 0, .slice none 0 0] 44)).trans (hb_.mono (by simp)); have HB := Aside0.mk (HB.out.trans (hb_.mono HB.out.size)); have HG := Aside0.mk (HG.out.below hb_); have HZ := Aside0.mk (blk_b HZ.out hb_); have H0 := Aside0.mk (blk_b H0.out hb_); have HD := Aside0.mk (blk_b HD.out hb_))); clear h1 h2 hb_)
      | (refine ⟨trivial, ?_⟩; gi_at_call 9; (with_reducible refine (callsIn_wide.2 (take_nil _ _)).mono ?_); rintro e_ wa ⟨rfl, rfl⟩; skip)
      | (refine ⟨trivial, ?_⟩; gi_at_call 18; (with_reducible refine (callsIn_wide.2 (names_nil _)).mono ?_); rintro e_ wa ⟨rfl, hb_⟩; have HB := Aside0.mk (HB.out.trans (hb_.mono HB.out.size)); have HG := Aside0.mk (HG.out.below hb_); have HZ := Aside0.mk (blk_b HZ.out hb_); have H0 := Aside0.mk (blk_b H0.out hb_); have HD := Aside0.mk (blk_b HD.out hb_); clear hb_)
      | (refine ⟨trivial, ?_⟩; gi_at_call 19; (with_reducible refine (callsIn_wide.2 (missing_nil _)).mono ?_); rintro e_ wa ⟨rfl, hb_⟩; have HB := Aside0.mk (HB.out.trans (hb_.mono HB.out.size)); have HG := Aside0.mk (HG.out.below hb_); have HZ := Aside0.mk (blk_b HZ.out hb_); have H0 := Aside0.mk (blk_b H0.out hb_); have HD := Aside0.mk (blk_b HD.out hb_); clear hb_)
      | (refine ⟨trivial, ?_⟩; gi_at_call 13; (with_reducible refine (callsIn_wide.2 (last_nil _)).mono ?_); rintro e_ wa ⟨rfl, rfl⟩; skip)
      | (refine ⟨trivial, ?_⟩; gi_at_call 12; (with_reducible refine (callsIn_wide.2 (len_nil _)).mono ?_); rintro e_ wa ⟨rfl, rfl⟩; skip)
      | (refine ⟨trivial, ?_⟩; gi_at_call 20; (with_reducible refine (callsIn_wide.2 (count_nil _ _)).mono ?_); rintro e_ wa ⟨rfl, rfl⟩; skip)
      | (refine ⟨trivial, ?_⟩; gi_at_call 21; (with_reducible refine (callsIn_wide.2 (copy_nil _)).mono ?_); rintro e_ wa ⟨rfl, rfl⟩; skip)
      | (refine ⟨trivial, ?_⟩; gi_at_call 22; (with_reducible refine (callsIn_wide.2 (same_nn _)).mono ?_); rintro e_ wa ⟨rfl, rfl⟩; skip)
      | (refine ⟨trivial, ?_⟩; gi_at_call 22; (with_reducible refine (callsIn_wide.2 (same_ns _ _)).mono ?_); rintro e_ wa ⟨rfl, rfl⟩; skip)
      | (refine ⟨trivial, ?_⟩; gi_at_call 22; (with_reducible refine (callsIn_wide.2 (same_sn _ _)).mono ?_); rintro e_ wa ⟨rfl, rfl⟩; skip)
      | (refine ⟨trivial, ?_⟩; gi_at_call 9; refine (callsIn_wide.2 (ztake_calls (w.heap.size + 1) [] A c E1 _ HE1.out (by have := HL.out; omega) (by have := HL.out; omega) HR.out.1 _ HG.out HR.out.2 HZ.out)).mono ?_; rintro e_ wa ⟨rfl, h1, h2⟩; have HZ := Aside0.mk h1; have HB := Aside0.mk (HB.out.trans (h2.below (B := w.heap.size) (fun k h => by have h' : k = w.heap.size + 1 := h; omega) HB.out.size)); have HG := Aside0.mk (HG.out.keep h2 (fun h => by have h' : 0 = w.heap.size + 1 := h; omega)); have H0 := Aside0.mk (h2.blk H0.out (fun h => by have h' : w.heap.size = w.heap.size + 1 := h; omega)); have HD := Aside0.mk (h2.blk HD.out (fun h => by have h' : D' = w.heap.size + 1 := h; have := HDN.out; omega)); clear h1 h2)
      | (refine ⟨trivial, ?_⟩; gi_at_call 12; (with_reducible refine (callsIn_wide.2 (zlen_calls _ _ _ HZ.out)).mono ?_); rintro e_ wa ⟨rfl, rfl⟩; skip)
      | (refine ⟨trivial, ?_⟩; gi_at_call 8; (with_reducible refine (callsIn_wide.2 (new_calls _)).mono ?_); rintro e_ wa ⟨rfl, h1, hb_⟩; have HN := Aside0.mk ((h1 (fun _ => False) ⟨id, id, id⟩).blk); have HB := Aside0.mk (HB.out.trans (hb_.mono HB.out.size)); have HG := Aside0.mk (HG.out.below hb_); have HZ := Aside0.mk (HZ.out.below hb_); have H0 := Aside0.mk (blk_b H0.out hb_); have HD := Aside0.mk (blk_b HD.out hb_); clear h1 hb_)
      | (refine ⟨trivial, ?_⟩; gi_at_call 22; obtain ⟨ml, mw, D, hz1, hz2, hz3, hz4⟩ := HZ.out; rw [bump1] at hz1; refine (callsIn_wide.2 (zsame_calls _ _ _ _ _ _ _ hz1 HN.out)).mono ?_; clear hz1 hz2 hz3 hz4; rintro e_ wa ⟨rfl, hb_⟩; have HB := Aside0.mk (HB.out.trans (hb_.mono HB.out.size)); have HG := Aside0.mk (HG.out.below hb_); have HZ := Aside0.mk (HZ.out.below hb_); have H0 := Aside0.mk (blk_b H0.out hb_); have HD := Aside0.mk (blk_b HD.out hb_); clear hb_)
      | (refine ⟨trivial, ?_⟩; gi_at_call 7; (with_reducible refine (callsIn_wide.2 (known_calls _ HG.out)).mono ?_); rintro e_ wa ⟨rfl, hb_⟩; have HB := Aside0.mk (HB.out.trans (hb_.mono HB.out.size)); have HG := Aside0.mk (HG.out.below hb_); have HZ := Aside0.mk (HZ.out.below hb_); have H0 := Aside0.mk (blk_b H0.out hb_); have HD := Aside0.mk (blk_b HD.out hb_); clear hb_; have hc0 := blk_cell H0.out 0; have hf0 := blk_frozen H0.out 0))
    have HB8 := Aside0.mk (HB.out.setCell (p := ⟨w.heap.size, 0, none⟩) (Nat.le_refl _) (.bool true))
    have hb8 := blk_put H0.out 0 (.bool true) (cs' := #[.bool true]) rfl
    have hK8 := (KeepsOthers.setCell _ ⟨w.heap.size, 0, none⟩ (.bool true)).same D' _ HD.out rfl
    refine ⟨by simp, .inl ⟨_, _, rfl, run_takeDeferred hK8, ?_⟩⟩
    have hnd : w.heap.size ≠ D' := by have := HDN.out; omega
    have hb9 := (World.putObj_heap_other (o := .deferred none) (fun e => hnd e)).trans hb8
    exact ⟨_, resB _ _ _ _ rfl (blk_cell hb9 0), rfl, HB8.out.trans (belowK_b (w := w) (Nat.le_refl _) _ D' _ _ (by have := HDN.out; omega) hK8 rfl rfl)⟩

def odometerlaw31_SinkNil.Pure : Prop := True
theorem odometerlaw31_SinkNil.walk (_P : odometerlaw31_SinkNil.Pure) (w : World) (hG : Glob w) : Calls Tryz.prog 5 #[] w fun e w' => e = .returned (.bool true) ∧ Below w.heap.size w w' := walk_ w hG
end Go.Proofs.YtpihpkphhkcdlaaGreatDoor.Nw
