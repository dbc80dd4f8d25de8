/- The walks of the decoder's small functions: wrong, ends, put, must. -/
import Derived.Test.YtfpcoanlkfgagaaGreatDoorDecW
import Derived.Test.YtfpcoanlkfgagaaGreatDoorProg
import Derived.Laws.EntriesVeiled
import Derived.Below
import Derived.Deep.Draws
import Derived.Deep.AppendLies
import Derived.Maps.AppendAt
import Derived.OwnWalk
import Derived.Laws.BytesArg
import Derived.Laws.MakeOwn
import Derived.Laws.OwnMore
import Derived.Deep.OwnRows
import Derived.Tactics
import Derived.Lib.ConvBytes
import Derived.Laws.Slices
import Derived.WalkKit
import Derived.KernelRfl
import Derived.RowKit3
import Derived.Deep.LoopGhost
import Derived.Deep.QuietTactic
import Derived.BigQuiet
import Derived.WideLaws
import Derived.Deep.DeepCutAuto
import Derived.Deep.CutBlock
import Derived.Deep.RegionHeld3
import Derived.Laws.Rows
import Derived.Lib.AppendStr
import Derived.ArgAppend
import Derived.Laws.IdiomCopy
import Derived.OrdersHeld
import Derived.Laws.BitsLemmas
import Derived.RowKit
import Derived.WalkMore
import Derived.Test.YtfpcoanlkfgagaaGreatDoorWWords
import Derived.Test.YtfpcoanlkfgagaaGreatDoorWLast
import Derived.Test.YtfpcoanlkfgagaaGreatDoorWMore
import Derived.Test.YtfpcoanlkfgagaaGreatDoorWTab
namespace Go.Proofs.YtfpcoanlkfgagaaGreatDoor.DecA
open Go.RowKit Go.Proofs.YtfpcoanlkfgagaaGreatDoorW.PrintWords Go.Proofs.YtfpcoanlkfgagaaGreatDoorW.PrintLast Go.Proofs.YtfpcoanlkfgagaaGreatDoor.Ext Go.Proofs.YtfpcoanlkfgagaaGreatDoor.Dec Go.Proofs.YtfpcoanlkfgagaaGreatDoor.DecW
set_option linter.unusedVariables false
set_option linter.unusedSimpArgs false
theorem info5 : (Tryz.prog.info? 5).map (fun i => (i.zero, i.size, i.bytes)) = some (some (.int .u8 0), 1, 1) := by kernel_rfl
set_option maxHeartbeats 1000000 in
set_option maxRecDepth 100000 in
theorem wrong_calls {w : World} {g : Nat} {vn vl vb : Value} {d : D} (h : IsB w g vn vl vb d) (x : Int) :
    Calls Tryz.prog 34 #[.pointer (some ⟨g, 0, none⟩), .int .i64 x] w fun e w' => e = .returned .nilFunc ∧ IsB w' g .nilFunc vl vb (d.wrong x) ∧ Keep (fun k => k = g) w w' := by
  have H := Aside0.mk h
  have f0 := h.fz 0
  have f9 := h.fz 9
  have c0 : w.cell? ⟨g, 0, none⟩ = some vn := (h.cell 0).trans rfl
  have c9 : w.cell? ⟨g, 9, none⟩ = some (.int .i64 d.e) := (h.cell 9).trans rfl
  clear h
  go_enter Tryz.func34, Tryz.ntmps34
  go_wp2
  go_ret
  exact ⟨rfl, (H.out.put 0 .nilFunc (vn' := .nilFunc) (d' := { d with st := .nil }) rfl rfl rfl).put 9 _ rfl rfl rfl, ((Keep.refl (fun k => k = g) w).set (g := g) rfl 0 _).set (g := g) rfl 9 _⟩
set_option maxHeartbeats 1000000 in
set_option maxRecDepth 100000 in
theorem ends_calls {w : World} {g : Nat} {vn vl vb : Value} {d : D} (h : IsB w g vn vl vb d) :
    Calls Tryz.prog 35 #[.pointer (some ⟨g, 0, none⟩)] w fun e w' => e = .returned .nilFunc ∧ IsB w' g .nilFunc vl vb d.ends ∧ Keep (fun k => k = g) w w' := by
  have H := Aside0.mk h
  have f0 := h.fz 0
  have f8 := h.fz 8
  have c0 : w.cell? ⟨g, 0, none⟩ = some vn := (h.cell 0).trans rfl
  have c8 : w.cell? ⟨g, 8, none⟩ = some (.bool d.done) := (h.cell 8).trans rfl
  clear h
  go_enter Tryz.func35, Tryz.ntmps35
  go_wp2
  go_ret
  exact ⟨rfl, (H.out.put 0 .nilFunc (vn' := .nilFunc) (d' := { d with st := .nil }) rfl rfl rfl).put 8 _ rfl rfl rfl, ((Keep.refl (fun k => k = g) w).set (g := g) rfl 0 _).set (g := g) rfl 8 _⟩
/-- What a function that adds a byte to the body leaves. -/
def Put (w w' : World) (g : Nat) (vn vl vb : Value) (d : D) : Prop :=
  ∃ vb', IsB w' g vn vl vb' d ∧ (vb'.ownBlock = vb.ownBlock ∨ ∃ b, vb'.ownBlock = some b ∧ w.heap.size ≤ b) ∧ Keep (Wt g vl vb) w w'
theorem put_end {W w1 wd : World} {g : Nat} {vn vl vb v1 : Value} {d : D} {c : Int} (h : IsB W g vn vl vb d) (hw : W.drew = wd) (ho : w1.ownsRow 0 5 1 v1 (d.body.length + 1) (nums .u8 d.body ++ [.int .u8 c])) (hg : wd.grownBy w1 vb.ownBlock) (hat : v1.ownBlock = vb.ownBlock ∨ ∃ b, v1.ownBlock = some b ∧ wd.heap.size ≤ b) :
    Put W (w1.setCell ⟨g, 6, none⟩ v1) g vn vl vb (d.put c) := by
  subst hw
  have hk : Keep (Wt g vl vb) W w1 := ((Keep.refl (Wt g vl vb) W).drew).grown hg fun k hk _ => .inr (.inr hk)
  have hgn : vb.ownBlock ≠ some g := h.gb
  have hg1 : v1.ownBlock ≠ some g := by
    rcases hat with e | ⟨b, e, hb⟩
    · rw [e]; exact hgn
    · rw [e]; intro e2; have := h.lt; have hb' : W.heap.size ≤ b := hb; simp at e2; omega
  have hl1 : ∀ k, vl.ownBlock = some k → v1.ownBlock ≠ some k := by
    intro k hk
    rcases hat with e | ⟨b, e, hb⟩
    · rw [e]; exact h.lb k hk
    · rw [e]; intro e2; have := h.line.lt hk; have hb' : W.heap.size ≤ b := hb; simp at e2; omega
  have hblk : w1.heap[g]? = some (.cells (cellsD vn vl vb d) 72 (0, 0)) := (hg.block g h.lt (fun e => hgn e.symm)).trans h.blk
  have hline : Own w1 vl d.line := h.line.keep (F := fun k => vb.ownBlock = some k) (((Keep.refl _ W).drew).grown hg fun k hk _ => hk) h.lb
  have hbody : Own w1 v1 (d.body ++ [c]) := by
    unfold Own
    rw [List.length_append, nums_append]
    exact ho
  have k2 : Keep (fun k => k = g) w1 (w1.setCell ⟨g, 6, none⟩ v1) := (Keep.refl (fun k => k = g) w1).set (g := g) rfl 6 v1
  refine ⟨v1, ⟨blk_put hblk 6 v1 rfl, hline.keep k2 fun i hi e => h.gl (e ▸ hi), hbody.keep k2 fun i hi e => hg1 (e ▸ hi), h.gl, hg1, hl1⟩, hat, hk.set (.inl rfl) 6 v1⟩
set_option maxHeartbeats 2000000 in
set_option maxRecDepth 100000 in
theorem put_calls {w : World} {g : Nat} {vn vl vb : Value} {d : D} (h : IsB w g vn vl vb d) (c : Int) (hm : d.body.length ≤ 1099511627776) :
    Calls Tryz.prog 49 #[.pointer (some ⟨g, 0, none⟩), .int .u8 c] w fun e w' => e = .returned (.tuple #[]) ∧ Put w w' g vn vl vb (d.put c) := by
  have H := Aside0.mk h
  have HM := Aside0.mk hm
  obtain ⟨A, n, rfl, hn⟩ := own_slice2 h.body
  have HN := Aside0.mk hn
  have f6 := h.fz 6
  have c6 : w.drew.cell? ⟨g, 6, none⟩ = some (.slice A d.body.length n) := (h.cell 6).trans rfl
  clear h hm
  go_enter Tryz.func49, Tryz.ntmps49
  refine start_ (n := 22) (S := fun w' => w'.cell? ⟨g, 6, none⟩ = some (.slice A d.body.length n)) (ds := [21]) #[false, false, false, false, false, false, false, false, false, false, false, false, false, false, false, false, false, false, false, false, false, false] (by kernel_rfl) rfl rfl c6 (fun hHeld => ?_)
  refine pure_ (i := 0) (N := some 4) (v := ?_) (a' := ?_) #[true, false, false, false, false, false, false, false, false, false, false, false, false, false, false, false, false, false, false, false, false, false] rfl rfl (by kernel_rfl) (fun _ _ _ h => h) (Or.inl ⟨by rfl, ?_⟩) ?_ ?_
  rotate_left
  · intro w'
    go_simp
    with_reducible rfl
  rotate_left
  · simp only [Act.put, List.setIfInBounds_toArray, List.set_cons_zero, List.set_cons_succ, i64_w, i32_w]
    rfl
  refine pure_ (i := 1) (N := some 5) (v := ?_) (a' := ?_) #[true, true, false, false, false, false, false, false, false, false, false, false, false, false, false, false, false, false, false, false, false, false] rfl rfl (by kernel_rfl) (fun _ _ _ h => h) (Or.inl ⟨by rfl, ?_⟩) ?_ ?_
  rotate_left
  · intro w'
    go_simp
    with_reducible rfl
  rotate_left
  · simp only [Act.put, List.setIfInBounds_toArray, List.set_cons_zero, List.set_cons_succ, i64_w, i32_w]
    rfl
  refine pure_ (i := 2) (N := some 6) (v := ?_) (a' := ?_) #[true, true, true, false, false, false, false, false, false, false, false, false, false, false, false, false, false, false, false, false, false, false] rfl rfl (by kernel_rfl) (fun _ _ _ h => h) (Or.inl ⟨by rfl, ?_⟩) ?_ ?_
  rotate_left
  · intro w'
    go_simp
    with_reducible rfl
  rotate_left
  · simp only [Act.put, List.setIfInBounds_toArray, List.set_cons_zero, List.set_cons_succ, i64_w, i32_w]
    rfl
  refine pure_ (i := 3) (N := some 7) (v := ?_) (a' := ?_) #[true, true, true, true, false, false, false, false, false, false, false, false, false, false, false, false, false, false, false, false, false, false] rfl rfl (by kernel_rfl) (fun _ _ _ h => h) (Or.inl ⟨by rfl, ?_⟩) ?_ ?_
  rotate_left
  · intro w'
    go_simp
    with_reducible rfl
  rotate_left
  · simp only [Act.put, List.setIfInBounds_toArray, List.set_cons_zero, List.set_cons_succ, i64_w, i32_w]
    rfl
  refine pure_ (i := 5) (N := some 9) (v := ?_) (a' := ?_) #[true, true, true, true, false, true, false, false, false, false, false, false, false, false, false, false, false, false, false, false, false, false] rfl rfl (by kernel_rfl) (fun _ _ _ h => h) (Or.inl ⟨by rfl, ?_⟩) ?_ ?_
  rotate_left
  · intro w'
    go_simp
    with_reducible rfl
  rotate_left
  · simp only [Act.put, List.setIfInBounds_toArray, List.set_cons_zero, List.set_cons_succ, i64_w, i32_w]
    rfl
  refine pure_ (i := 6) (N := some 10) (v := ?_) (a' := ?_) #[true, true, true, true, false, true, true, false, false, false, false, false, false, false, false, false, false, false, false, false, false, false] rfl rfl (by kernel_rfl) (fun _ _ _ h => h) (Or.inl ⟨by rfl, ?_⟩) ?_ ?_
  rotate_left
  · intro w'
    go_simp
    with_reducible rfl
  rotate_left
  · simp only [Act.put, List.setIfInBounds_toArray, List.set_cons_zero, List.set_cons_succ, i64_w, i32_w]
    rfl
  refine pure_ (i := 7) (N := some 11) (v := ?_) (a' := ?_) #[true, true, true, true, false, true, true, true, false, false, false, false, false, false, false, false, false, false, false, false, false, false] rfl rfl (by kernel_rfl) (fun _ _ _ h => h) (Or.inl ⟨by rfl, ?_⟩) ?_ ?_
  rotate_left
  · intro w'
    go_simp
    with_reducible rfl
  rotate_left
  · simp only [Act.put, List.setIfInBounds_toArray, List.set_cons_zero, List.set_cons_succ, i64_w, i32_w]
    rfl
  refine pure_ (i := 10) (N := some 14) (v := ?_) (a' := ?_) #[true, true, true, true, false, true, true, true, false, false, true, false, false, false, false, false, false, false, false, false, false, false] rfl rfl (by kernel_rfl) (fun _ _ _ h => h) (Or.inl ⟨by rfl, ?_⟩) ?_ ?_
  rotate_left
  · intro w'
    go_simp
    with_reducible rfl
  rotate_left
  · simp only [Act.put, List.setIfInBounds_toArray, List.set_cons_zero, List.set_cons_succ, i64_w, i32_w]
    rfl
  refine pure_ (i := 11) (N := some 15) (v := ?_) (a' := ?_) #[true, true, true, true, false, true, true, true, false, false, true, true, false, false, false, false, false, false, false, false, false, false] rfl rfl (by kernel_rfl) (fun _ _ _ h => h) (Or.inl ⟨by rfl, ?_⟩) ?_ ?_
  rotate_left
  · intro w'
    go_simp
    with_reducible rfl
  rotate_left
  · simp only [Act.put, List.setIfInBounds_toArray, List.set_cons_zero, List.set_cons_succ, i64_w, i32_w]
    rfl
  refine pure_ (i := 12) (N := some 16) (v := ?_) (a' := ?_) #[true, true, true, true, false, true, true, true, false, false, true, true, true, false, false, false, false, false, false, false, false, false] rfl rfl (by kernel_rfl) (fun _ _ _ h => h) (Or.inl ⟨by rfl, ?_⟩) ?_ ?_
  rotate_left
  · intro w'
    go_simp
    with_reducible rfl
  rotate_left
  · simp only [Act.put, List.setIfInBounds_toArray, List.set_cons_zero, List.set_cons_succ, i64_w, i32_w]
    rfl
  refine pure_ (i := 16) (N := some 20) (v := ?_) (a' := ?_) #[true, true, true, true, false, true, true, true, false, false, true, true, true, false, false, false, true, false, false, false, false, false] rfl rfl (by kernel_rfl) (fun _ _ _ h => h) (Or.inl ⟨by rfl, ?_⟩) ?_ ?_
  rotate_left
  · intro w'
    go_simp
    with_reducible rfl
  rotate_left
  · simp only [Act.put, List.setIfInBounds_toArray, List.set_cons_zero, List.set_cons_succ, i64_w, i32_w]
    rfl
  refine take_ (i := 4) (N := some 8) (v := ?_) (a' := ?_) #[true, true, true, true, true, true, true, true, false, false, true, true, true, false, false, false, true, false, false, false, false, false] rfl rfl (by kernel_rfl) (fun _ _ _ h => h) (Or.inl ⟨by rfl, ?_⟩) hHeld ?_ ?_
  rotate_left
  · intro w' hS'
    go_simp
    with_reducible rfl
  rotate_left
  · simp only [Act.put, List.setIfInBounds_toArray, List.set_cons_zero, List.set_cons_succ, i64_w, i32_w]
    rfl
  refine take_ (i := 8) (N := some 12) (v := ?_) (a' := ?_) #[true, true, true, true, true, true, true, true, true, false, true, true, true, false, false, false, true, false, false, false, false, false] rfl rfl (by kernel_rfl) (fun _ _ _ h => h) (Or.inl ⟨by rfl, ?_⟩) hHeld ?_ ?_
  rotate_left
  · intro w' hS'
    go_simp
    with_reducible rfl
  rotate_left
  · simp only [Act.put, List.setIfInBounds_toArray, List.set_cons_zero, List.set_cons_succ, i64_w, i32_w]
    rfl
  refine take_ (i := 13) (N := some 17) (v := ?_) (a' := ?_) #[true, true, true, true, true, true, true, true, true, false, true, true, true, true, false, false, true, false, false, false, false, false] rfl rfl (by kernel_rfl) (fun _ _ _ h => h) (Or.inl ⟨by rfl, ?_⟩) hHeld ?_ ?_
  rotate_left
  · intro w' hS'
    go_simp
    with_reducible rfl
  rotate_left
  · simp only [Act.put, List.setIfInBounds_toArray, List.set_cons_zero, List.set_cons_succ, i64_w, i32_w]
    rfl
  refine pure_ (i := 9) (N := some 13) (v := ?_) (a' := ?_) #[true, true, true, true, true, true, true, true, true, true, true, true, true, true, false, false, true, false, false, false, false, false] rfl rfl (by kernel_rfl) (fun _ _ _ h => h) (Or.inl ⟨by rfl, ?_⟩) ?_ ?_
  rotate_left
  · intro w'
    go_simp
    with_reducible rfl
  rotate_left
  · simp only [Act.put, List.setIfInBounds_toArray, List.set_cons_zero, List.set_cons_succ, i64_w, i32_w]
    rfl
  refine pure_ (i := 14) (N := some 18) (v := ?_) (a' := ?_) #[true, true, true, true, true, true, true, true, true, true, true, true, true, true, true, false, true, false, false, false, false, false] rfl rfl (by kernel_rfl) (fun _ _ _ h => h) (Or.inl ⟨by rfl, ?_⟩) ?_ ?_
  rotate_left
  · intro w'
    go_simp
    with_reducible rfl
  rotate_left
  · simp only [Act.put, List.setIfInBounds_toArray, List.set_cons_zero, List.set_cons_succ, i64_w, i32_w]
    rfl
  refine pure_ (i := 15) (N := some 19) (v := ?_) (a' := ?_) #[true, true, true, true, true, true, true, true, true, true, true, true, true, true, true, true, true, false, false, false, false, false] rfl rfl (by kernel_rfl) (fun _ _ _ h => h) (Or.inl ⟨by rfl, ?_⟩) ?_ ?_
  rotate_left
  · intro w'
    go_simp
    with_reducible rfl
  rotate_left
  · simp only [Act.put, List.setIfInBounds_toArray, List.set_cons_zero, List.set_cons_succ, i64_w, i32_w]
    rfl
  clear hn
  have hrow : (w.drew).ownsRow 0 5 1 (.slice A d.body.length n) d.body.length (nums .u8 d.body) := H.out.body
  have HR := Aside0.mk hrow
  clear hrow c6
  obtain ⟨wd, hwd⟩ : ∃ wd, wd = w.drew := ⟨_, rfl⟩
  rw [← hwd] at HR hHeld ⊢
  have HW := Aside0.mk hwd
  clear hwd
  refine one_ (i := 17) (N := some 21) #[true, true, true, true, true, true, true, true, true, true, true, true, true, true, true, true, true, true, false, false, false, false] rfl rfl (by kernel_rfl) (by decide) (fun K hK => ?_)
  refine value_ (w1 := wd.alloc (.cells #[.int .u8 c] 5)) (v := .slice (some ⟨wd.heap.size, 0, none⟩) 1 1) (by rfl) rfl ?_ ?_
  · go_simp
  refine hK.out _ _ (by rw [World.cell?_alloc_past _ _ _ (World.block_lt_of_cell? _ _ hHeld)]; exact hHeld) (fun hHeld2 => ?_)
  clear hK K
  refine norm_ (a' := ?_) ?_ ?_
  rotate_left
  · show Act.put _ (some 21) _ = _
    simp only [Act.put, List.setIfInBounds_toArray, List.set_cons_zero, List.set_cons_succ, i64_w, i32_w]
    rfl
  refine one_ (i := 18) (N := some 22) #[true, true, true, true, true, true, true, true, true, true, true, true, true, true, true, true, true, true, true, false, false, false] rfl rfl (by kernel_rfl) (by decide) (fun K hK => ?_)
  refine step_append_cells (W := wd) (w0 := wd) 0 (by rfl) (.tmp 19) (.tmp 21) 22 5 (.int .u8 0) 1 1 rfl Tryz.underlying22 info5 rfl (by decide) (by decide) (.slice A d.body.length n) d.body.length (nums .u8 d.body) [.int .u8 c] rfl rfl rfl (by intro u hu; rw [List.mem_singleton.1 hu]; rfl) HR.out (Below.refl _ _) (Nat.zero_le _) (by have := HM.out; omega) ?_
  intro v1 w1 ho _ hg hat
  obtain ⟨A1, n1, rfl⟩ := own_slice ho
  have hc1 : w1.cell? ⟨g, 6, none⟩ = some (.slice A d.body.length n) := hg.cell hHeld (fun e => H.out.gb e.symm)
  have HO := Aside0.mk ho
  have HG := Aside0.mk hg
  have HAT := Aside0.mk hat
  have hfz : w1.frozen? ⟨g, 6, none⟩ = false := (World.frozen?_of_block (hg.block g (World.block_lt_of_cell? _ _ hHeld) (fun e => H.out.gb e.symm))).trans (by have := HW.out; subst this; exact f6)
  clear ho hg hat
  refine hK.out _ _ hc1 (fun hHeld3 => ?_)
  clear hK K
  refine norm_ (a' := ?_) ?_ ?_
  rotate_left
  · show Act.put _ (some 22) _ = _
    simp only [Act.put, List.setIfInBounds_toArray, List.set_cons_zero, List.set_cons_succ, i64_w, i32_w]
    rfl
  refine pure_ (i := 19) (N := some 23) (v := ?_) (a' := ?_) #[true, true, true, true, true, true, true, true, true, true, true, true, true, true, true, true, true, true, true, true, false, false] rfl rfl (by kernel_rfl) (fun _ _ _ h => h) (Or.inl ⟨by rfl, ?_⟩) ?_ ?_
  rotate_left
  · intro w'
    go_simp
    with_reducible rfl
  rotate_left
  · simp only [Act.put, List.setIfInBounds_toArray, List.set_cons_zero, List.set_cons_succ, i64_w, i32_w]
    rfl
  refine pure_ (i := 20) (N := some 24) (v := ?_) (a' := ?_) #[true, true, true, true, true, true, true, true, true, true, true, true, true, true, true, true, true, true, true, true, true, false] rfl rfl (by kernel_rfl) (fun _ _ _ h => h) (Or.inl ⟨by rfl, ?_⟩) ?_ ?_
  rotate_left
  · intro w'
    go_simp
    with_reducible rfl
  rotate_left
  · simp only [Act.put, List.setIfInBounds_toArray, List.set_cons_zero, List.set_cons_succ, i64_w, i32_w]
    rfl
  refine last_ (i := 21) (N := none) #[true, true, true, true, true, true, true, true, true, true, true, true, true, true, true, true, true, true, true, true, true, true] rfl rfl (by kernel_rfl) (by decide) (fun K hK => ?_)
  refine skip_ (w1 := w1.setCell ⟨g, 6, none⟩ (.slice A1 (d.body.length + 1) n1)) (by rfl) rfl ?_ ?_
  · go_simp
  refine hK.out _ _ ?_
  clear hK K
  refine done_ (by kernel_rfl) ?_
  go_wp2
  go_end0
  exact ⟨rfl, put_end H.out HW.out.symm HO.out HG.out HAT.out⟩
end Go.Proofs.YtfpcoanlkfgagaaGreatDoor.DecA
namespace Go.Proofs.YtfpcoanlkfgagaaGreatDoor.DecB
open Go.RowKit Go.Proofs.YtfpcoanlkfgagaaGreatDoorW.PrintWords Go.Proofs.YtfpcoanlkfgagaaGreatDoorW.PrintLast Go.Proofs.YtfpcoanlkfgagaaGreatDoor.Ext Go.Proofs.YtfpcoanlkfgagaaGreatDoor.Dec Go.Proofs.YtfpcoanlkfgagaaGreatDoor.DecW Go.Proofs.YtfpcoanlkfgagaaGreatDoor.DecA
set_option linter.unusedVariables false
set_option linter.unusedSimpArgs false
theorem wr_eq (n : Int) : wrap64 n = wr n := by unfold wrap64 wr; omega
theorem e_less (vn vl vb : Value) (d : D) : (cellsD vn vl vb d).setIfInBounds 2 (.int .i64 (wrap64 (d.left - 1))) = cellsD vn vl vb d.less := by rw [wr_eq]; rfl
theorem hmf : ∀ (fn : Fn) (first cap : Array Value) (w : World), (Instr.makeFunc fn first cap).run Tryz.prog w = .ok (.func fn first cap) w := fun _ _ _ _ => rfl
set_option maxHeartbeats 1000000 in
set_option maxRecDepth 100000 in
/-- must makes a function's value over two new cells. -/
theorem must_calls (w : World) (x : Int) (v : Value) (hv : v = fnS 32 ∨ ∃ a b, v = .func (.func 90) #[] #[.pointer (some ⟨a, 0, none⟩), .pointer (some ⟨b, 0, none⟩)]) :
    Calls Tryz.prog 71 #[.int .u8 x, v] w fun e w' => ∃ a b, e = .returned (.func (.func 90) #[] #[.pointer (some ⟨a, 0, none⟩), .pointer (some ⟨b, 0, none⟩)]) ∧ w'.heap[a]? = some (.cells #[.int .u8 x] 5 (0, 0)) ∧ w'.heap[b]? = some (.cells #[v] 70 (0, 0)) ∧ w.heap.size ≤ a ∧ w.heap.size ≤ b ∧ Below w.heap.size w w' := by
  have hmf := hmf
  have e1 := blk_alloc (blk_new w (.cells #[.int .u8 x] 5)) (.cells #[v] 70)
  have e2 := blk_new (w.alloc (.cells #[.int .u8 x] 5)) (.cells #[v] 70)
  have e3 : (w.alloc (.cells #[.int .u8 x] 5)).heap.size = w.heap.size + 1 := by simp
  rw [e3] at e2
  have E1 := Aside0.mk e1
  have E2 := Aside0.mk e2
  clear e1 e2 e3
  rcases hv with rfl | ⟨a, b, rfl⟩
  all_goals unfold fnS at *
  all_goals go_enter Tryz.func71, Tryz.ntmps71
  all_goals go_wp2
  all_goals go_ret
  all_goals exact ⟨_, _, rfl, E1.out, E2.out, Nat.le_refl _, Nat.le_succ _, below_alloc (below_alloc (Below.refl _ _) _) _⟩

set_option maxHeartbeats 2000000 in
set_option maxRecDepth 100000 in
theorem whole_calls {num : List Int → Option (Int × Bool)} {tr : List Int → Option Nat} {w : World} {F : Nat → Prop} {g : Nat} {vn vl vb : Value} {d d' : D} (c : Int) (h : IsB w g vn vl vb d) (hF : ∀ k, Wt g vl vb k → F k) (hst : d.st = .whole) (hm : d.body.length ≤ 1099511627776) (hs : Dec.step num tr d c = some d') :
    Calls Tryz.prog 33 #[.pointer (some ⟨g, 0, none⟩), .int .u8 c] w fun e w' => ∃ v, e = .returned v ∧ After w w' F g vn v d' := by
  have H := Aside0.mk h
  have HM := Aside0.mk hm
  have HF := Aside0.mk hF
  have HST := Aside0.mk hst
  unfold Dec.step at hs
  simp only [hst, Option.some.injEq] at hs
  clear h hm hF hst
  by_cases hz : wr (d.left - 1) = 0
  · rw [if_pos hz] at hs
    subst hs
    have b1 : (wrap64 (d.left - 1) == 0) = true := by rw [wr_eq, hz]; rfl
    clear hz
    go_enter Tryz.func33, Tryz.ntmps33
    go_wp2_with (first | (go_at_call 49; (with_reducible refine (put_calls H.out c HM.out).mono ?_); rintro e w1 ⟨rfl, vb1, hB, hat, hk⟩; have c2 : w1.cell? ⟨g, 2, none⟩ = some (.int .i64 d.left) := (hB.cell 2).trans rfl; have f2 := hB.fz 2; have HL := Aside0.mk (hB.put 2 (.int .i64 (wrap64 (d.left - 1))) (vn' := vn) (d' := (d.put c).less) (e_less vn vl vb1 (d.put c)) rfl rfl); have HAT := Aside0.mk hat; have HK := Aside0.mk hk; clear hB hat hk) | (go_at_call 35; (with_reducible refine (ends_calls HL.out).mono ?_); rintro e w2 ⟨rfl, hB2, hk2⟩; have HB2 := Aside0.mk hB2; have HK2 := Aside0.mk hk2; clear hB2 hk2))
    go_ret
    exact ⟨_, rfl, After.nil rfl HB2.out (wt_put HF.out HAT.out) ((HK.out.mono fun i _ hi => HF.out i hi).trans ((((Keep.refl (fun k => k = g) w1).set (g := g) rfl 2 _)).trans HK2.out fun _ _ e => e) fun i _ e => HF.out i (.inl e))⟩
  · rw [if_neg hz] at hs
    subst hs
    have b1 : (wrap64 (d.left - 1) == 0) = false := by rw [wr_eq]; exact beq_eq_false_iff_ne.2 hz
    clear hz
    go_enter Tryz.func33, Tryz.ntmps33
    go_wp2_with (first | (go_at_call 49; (with_reducible refine (put_calls H.out c HM.out).mono ?_); rintro e w1 ⟨rfl, vb1, hB, hat, hk⟩; have c2 : w1.cell? ⟨g, 2, none⟩ = some (.int .i64 d.left) := (hB.cell 2).trans rfl; have f2 := hB.fz 2; have HL := Aside0.mk (hB.put 2 (.int .i64 (wrap64 (d.left - 1))) (vn' := vn) (d' := (d.put c).less) (e_less vn vl vb1 (d.put c)) rfl rfl); have HAT := Aside0.mk hat; have HK := Aside0.mk hk; clear hB hat hk))
    go_ret
    have hs2 : (d.put c).less.st = .whole := HST.out
    exact ⟨_, rfl, After.on (by rw [hs2]; decide) HL.out (wt_put HF.out HAT.out) (by rw [hs2]; rfl) ((HK.out.mono fun i _ hi => HF.out i hi).trans ((Keep.refl (fun k => k = g) w1).set (g := g) rfl 2 _) fun i _ e => HF.out i (.inl e))⟩
set_option maxHeartbeats 2000000 in
set_option maxRecDepth 100000 in
theorem rest_calls {num : List Int → Option (Int × Bool)} {tr : List Int → Option Nat} {w : World} {F : Nat → Prop} {g : Nat} {vn vl vb : Value} {d d' : D} (c : Int) (h : IsB w g vn vl vb d) (hF : ∀ k, Wt g vl vb k → F k) (hst : d.st = .rest) (hm : d.body.length ≤ 1099511627776) (hs : Dec.step num tr d c = some d') :
    Calls Tryz.prog 36 #[.pointer (some ⟨g, 0, none⟩), .int .u8 c] w fun e w' => ∃ v, e = .returned v ∧ After w w' F g vn v d' := by
  have H := Aside0.mk h
  have HM := Aside0.mk hm
  have HF := Aside0.mk hF
  have HST := Aside0.mk hst
  unfold Dec.step at hs
  simp only [hst, Option.some.injEq] at hs
  clear h hm hF hst
  obtain ⟨A, n, hvb, hn⟩ := own_slice2 H.out.body
  subst hvb
  have c6 : w.cell? ⟨g, 6, none⟩ = some (.slice A d.body.length n) := (H.out.cell 6).trans rfl
  have c1 : w.cell? ⟨g, 1, none⟩ = some (.int .i64 d.most) := (H.out.cell 1).trans rfl
  clear hn
  by_cases hz : d.most ≤ d.body.length
  · rw [if_pos hz] at hs
    subst hs
    have b1 : decide ((d.body.length : Int) ≥ d.most) = true := decide_eq_true hz
    have b2 : decide (d.most ≤ (d.body.length : Int)) = true := decide_eq_true hz
    clear hz
    go_enter Tryz.func36, Tryz.ntmps36
    go_wp2
    go_quiet (fail)
    go_wp2_with (first | (go_at_call 34; (with_reducible refine (wrong_calls (H.out.below (pw_below_drewN (Below.refl _ _) _)) 13).mono ?_); rintro e w2 ⟨rfl, hB2, hk2⟩; have HB2 := Aside0.mk hB2; have HK2 := Aside0.mk hk2; clear hB2 hk2))
    go_ret
    exact ⟨_, rfl, After.nil rfl HB2.out (fun k hk => .inl (HF.out k hk)) (((Keep.refl F w).drewN _).trans HK2.out fun i _ e => HF.out i (.inl e))⟩
  · rw [if_neg hz] at hs
    subst hs
    have b1 : decide ((d.body.length : Int) ≥ d.most) = false := decide_eq_false hz
    have b2 : decide (d.most ≤ (d.body.length : Int)) = false := decide_eq_false hz
    clear hz
    go_enter Tryz.func36, Tryz.ntmps36
    go_wp2
    go_quiet (fail)
    go_wp2_with (first | (go_at_call 49; (with_reducible refine (put_calls (H.out.below (pw_below_drewN (Below.refl _ _) _)) c HM.out).mono ?_); rintro e w1 ⟨rfl, vb1, hB, hat, hk⟩; have HB := Aside0.mk hB; have HAT := Aside0.mk hat; have HK := Aside0.mk hk; clear hB hat hk))
    go_ret
    have hs2 : (d.put c).st = .rest := HST.out
    exact ⟨_, rfl, After.on (by rw [hs2]; decide) HB.out (wt_put HF.out HAT.out) (by rw [hs2]; rfl) (((Keep.refl F w).drewN _).trans HK.out fun i _ hi => HF.out i hi)⟩
theorem chunk_end {w w1 w2 w3 w4 : World} {F : Nat → Prop} {g a3 b3 a4 b4 : Nat} {vn vl vb vb1 : Value} {d : D} (hL : IsB w2 g vn vl vb1 d) (hF : ∀ k, Wt g vl vb k → F k) (hat : vb1.ownBlock = vb.ownBlock ∨ ∃ b, vb1.ownBlock = some b ∧ w.heap.size ≤ b) (hk : Keep (Wt g vl vb) w w1) (hw2 : Keep (fun k => k = g) w1 w2)
    (ma : w3.heap[a3]? = some (.cells #[.int .u8 10] 5 (0, 0))) (mb : w3.heap[b3]? = some (.cells #[fnS 32] 70 (0, 0))) (la : w2.heap.size ≤ a3) (lb : w2.heap.size ≤ b3) (be : Below w2.heap.size w2 w3)
    (ma4 : w4.heap[a4]? = some (.cells #[.int .u8 13] 5 (0, 0))) (mb4 : w4.heap[b4]? = some (.cells #[.func (.func 90) #[] #[.pointer (some ⟨a3, 0, none⟩), .pointer (some ⟨b3, 0, none⟩)]] 70 (0, 0))) (la4 : w3.heap.size ≤ a4) (lb4 : w3.heap.size ≤ b4) (be4 : Below w3.heap.size w3 w4) :
    After w w4 F g vn (.func (.func 90) #[] #[.pointer (some ⟨a4, 0, none⟩), .pointer (some ⟨b4, 0, none⟩)]) (d.go .must1) := by
  have hs1 : w.heap.size ≤ w2.heap.size := Nat.le_trans hk.size hw2.size
  have hs2 : w2.heap.size ≤ w3.heap.size := be.size
  have hnew : ∀ k, w2.heap.size ≤ k → (F k ∨ w.heap.size ≤ k) ∧ ¬ Wt g vl vb1 k := by
    intro k hk2
    refine ⟨.inr (Nat.le_trans hs1 hk2), ?_⟩
    rintro (h | h | h)
    · have := hL.lt; omega
    · have := hL.line.lt h; omega
    · have := hL.body.lt h; omega
  refine After.on (by simp [D.go]) (((hL.below be).below be4).go .must1) (wt_put hF hat) ?_ (((hk.mono fun i _ hi => hF i hi).trans hw2 fun i _ e => hF i (.inl e)).step be |>.step be4)
  exact ⟨a4, b4, _, rfl, hnew _ (by omega), hnew _ (by omega), ma4, mb4, a3, b3, rfl, hnew _ la, hnew _ lb, blk_below ma be4, blk_below mb be4⟩

set_option maxHeartbeats 2000000 in
set_option maxRecDepth 100000 in
theorem chunk_calls {num : List Int → Option (Int × Bool)} {tr : List Int → Option Nat} {w : World} {F : Nat → Prop} {g : Nat} {vn vl vb : Value} {d d' : D} (c : Int) (h : IsB w g vn vl vb d) (hF : ∀ k, Wt g vl vb k → F k) (hst : d.st = .chunk) (hm : d.body.length ≤ 1099511627776) (hs : Dec.step num tr d c = some d') :
    Calls Tryz.prog 48 #[.pointer (some ⟨g, 0, none⟩), .int .u8 c] w fun e w' => ∃ v, e = .returned v ∧ After w w' F g vn v d' := by
  have H := Aside0.mk h
  have HM := Aside0.mk hm
  have HF := Aside0.mk hF
  have HST := Aside0.mk hst
  unfold Dec.step at hs
  simp only [hst, Option.some.injEq] at hs
  clear h hm hF hst
  have e10 : (10 : Int) = 10 := rfl
  by_cases hz : 0 < wr (d.left - 1)
  · rw [if_pos hz] at hs
    subst hs
    have b1 : decide (wrap64 (d.left - 1) > 0) = true := by rw [wr_eq]; exact decide_eq_true hz
    have b2 : decide (0 < wrap64 (d.left - 1)) = true := b1
    clear hz
    go_enter Tryz.func48, Tryz.ntmps48
    go_wp2_with (first | (go_at_call 49; (with_reducible refine (put_calls H.out c HM.out).mono ?_); rintro e w1 ⟨rfl, vb1, hB, hat, hk⟩; have c2 : w1.cell? ⟨g, 2, none⟩ = some (.int .i64 d.left) := (hB.cell 2).trans rfl; have f2 := hB.fz 2; have HL := Aside0.mk (hB.put 2 (.int .i64 (wrap64 (d.left - 1))) (vn' := vn) (d' := (d.put c).less) (e_less vn vl vb1 (d.put c)) rfl rfl); have HAT := Aside0.mk hat; have HK := Aside0.mk hk; clear hB hat hk))
    go_ret
    have hs2 : (d.put c).less.st = .chunk := HST.out
    exact ⟨_, rfl, After.on (by rw [hs2]; decide) HL.out (wt_put HF.out HAT.out) (by rw [hs2]; rfl) ((HK.out.mono fun i _ hi => HF.out i hi).trans ((Keep.refl (fun k => k = g) w1).set (g := g) rfl 2 _) fun i _ e => HF.out i (.inl e))⟩
  · rw [if_neg hz] at hs
    subst hs
    have b1 : decide (wrap64 (d.left - 1) > 0) = false := by rw [wr_eq]; exact decide_eq_false hz
    have b2 : decide (0 < wrap64 (d.left - 1)) = false := b1
    clear hz
    go_enter Tryz.func48, Tryz.ntmps48
    go_wp2_with (first | (go_at_call 49; (with_reducible refine (put_calls H.out c HM.out).mono ?_); rintro e w1 ⟨rfl, vb1, hB, hat, hk⟩; have c2 : w1.cell? ⟨g, 2, none⟩ = some (.int .i64 d.left) := (hB.cell 2).trans rfl; have f2 := hB.fz 2; have HL := Aside0.mk (hB.put 2 (.int .i64 (wrap64 (d.left - 1))) (vn' := vn) (d' := (d.put c).less) (e_less vn vl vb1 (d.put c)) rfl rfl); have HAT := Aside0.mk hat; have HK := Aside0.mk hk; clear hB hat hk) | (go_at_call 71; (with_reducible refine (must_calls _ 10 (.func (.func 32) #[] #[]) (.inl rfl)).mono ?_); rintro e w3 ⟨a3, b3, rfl, ha, hb, hla, hlb, hbe⟩; have MA := Aside0.mk ha; have MB := Aside0.mk hb; have LA := Aside0.mk hla; have LB := Aside0.mk hlb; have BE := Aside0.mk hbe; clear ha hb hla hlb hbe) | (go_at_call 71; (with_reducible refine (must_calls _ 13 (.func (.func 90) #[] #[.pointer (some ⟨a3, 0, none⟩), .pointer (some ⟨b3, 0, none⟩)]) (.inr ⟨_, _, rfl⟩)).mono ?_); rintro e w4 ⟨a4, b4, rfl, ha, hb, hla, hlb, hbe⟩; have MA4 := Aside0.mk ha; have MB4 := Aside0.mk hb; have LA4 := Aside0.mk hla; have LB4 := Aside0.mk hlb; have BE4 := Aside0.mk hbe; clear ha hb hla hlb hbe))
    go_ret
    refine ⟨_, rfl, chunk_end HL.out HF.out HAT.out HK.out ((Keep.refl (fun k => k = g) w1).set (g := g) rfl 2 _) MA.out MB.out LA.out LB.out BE.out MA4.out MB4.out LA4.out LB4.out BE4.out⟩
end Go.Proofs.YtfpcoanlkfgagaaGreatDoor.DecB
