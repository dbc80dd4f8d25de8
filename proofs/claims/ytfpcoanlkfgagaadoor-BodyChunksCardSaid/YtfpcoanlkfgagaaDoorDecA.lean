/- The walks of the decoder's small functions: wrong, ends, put, must. -/
import Derived.Test.YtfpcoanlkfgagaaDoorDecW
import Derived.Test.YtfpcoanlkfgagaaDoorProg
import Derived.Laws.EntriesVeiled
import Derived.Below
import Derived.Deep.Draws
import Derived.Deep.AppendLies
import Derived.Maps.AppendAt
import Derived.OwnWalk
import Derived.Laws.BytesArg
import Derived.Laws.MakeOwn
import Derived.Laws.OwnMore
import Derived.Deep.OwnRows
import Derived.Tactics
import Derived.Lib.ConvBytes
import Derived.Laws.Slices
import Derived.WalkKit
import Derived.KernelRfl
import Derived.RowKit3
import Derived.Deep.LoopGhost
import Derived.Deep.QuietTactic
import Derived.BigQuiet
import Derived.WideLaws
import Derived.Deep.DeepCutAuto
import Derived.Deep.CutBlock
import Derived.Deep.RegionHeld3
import Derived.Laws.Rows
import Derived.Lib.AppendStr
import Derived.ArgAppend
import Derived.Laws.IdiomCopy
import Derived.OrdersHeld
import Derived.Laws.BitsLemmas
import Derived.RowKit
import Derived.WalkMore
import Derived.Test.YtfpcoanlkfgagaaDoorWWords
import Derived.Test.YtfpcoanlkfgagaaDoorWLast
import Derived.Test.YtfpcoanlkfgagaaDoorWMore
import Derived.Test.YtfpcoanlkfgagaaDoorWTab
namespace Go.Proofs.YtfpcoanlkfgagaaDoor.DecA
open Go.RowKit Go.Proofs.YtfpcoanlkfgagaaDoorW.PrintWords Go.Proofs.YtfpcoanlkfgagaaDoorW.PrintLast Go.Proofs.YtfpcoanlkfgagaaDoor.Ext Go.Proofs.YtfpcoanlkfgagaaDoor.Dec Go.Proofs.YtfpcoanlkfgagaaDoor.DecW
set_option linter.unusedVariables false
set_option linter.unusedSimpArgs false
theorem info5 : (Tryd.prog.info? 5).map (fun i => (i.zero, i.size, i.bytes)) = some (some (.int .u8 0), 1, 1) := by kernel_rfl
set_option maxHeartbeats 1000000 in
set_option maxRecDepth 100000 in
theorem wrong_calls {w : World} {g : Nat} {vn vl vb : Value} {d : D} (h : IsB w g vn vl vb d) (x : Int) :
    Calls Tryd.prog 32 #[.pointer (some ⟨g, 0, none⟩), .int .i64 x] w fun e w' => e = .returned .nilFunc ∧ IsB w' g .nilFunc vl vb (d.wrong x) ∧ Keep (fun k => k = g) w w' := by
  have H := Aside0.mk h
  have f0 := h.fz 0
  have f9 := h.fz 9
  have c0 : w.cell? ⟨g, 0, none⟩ = some vn := (h.cell 0).trans rfl
  have c9 : w.cell? ⟨g, 9, none⟩ = some (.int .i64 d.e) := (h.cell 9).trans rfl
  clear h
  go_enter Tryd.func32, Tryd.ntmps32
  go_wp2
  go_ret
  exact ⟨rfl, (H.out.put 0 .nilFunc (vn' := .nilFunc) (d' := { d with st := .nil }) rfl rfl rfl).put 9 _ rfl rfl rfl, ((Keep.refl (fun k => k = g) w).set (g := g) rfl 0 _).set (g := g) rfl 9 _⟩
set_option maxHeartbeats 1000000 in
set_option maxRecDepth 100000 in
theorem ends_calls {w : World} {g : Nat} {vn vl vb : Value} {d : D} (h : IsB w g vn vl vb d) :
    Calls Tryd.prog 33 #[.pointer (some ⟨g, 0, none⟩)] w fun e w' => e = .returned .nilFunc ∧ IsB w' g .nilFunc vl vb d.ends ∧ Keep (fun k => k = g) w w' := by
  have H := Aside0.mk h
  have f0 := h.fz 0
  have f8 := h.fz 8
  have c0 : w.cell? ⟨g, 0, none⟩ = some vn := (h.cell 0).trans rfl
  have c8 : w.cell? ⟨g, 8, none⟩ = some (.bool d.done) := (h.cell 8).trans rfl
  clear h
  go_enter Tryd.func33, Tryd.ntmps33
  go_wp2
  go_ret
  exact ⟨rfl, (H.out.put 0 .nilFunc (vn' := .nilFunc) (d' := { d with st := .nil }) rfl rfl rfl).put 8 _ rfl rfl rfl, ((Keep.refl (fun k => k = g) w).set (g := g) rfl 0 _).set (g := g) rfl 8 _⟩
/-- What a function that adds a byte to the body leaves. -/
def Put (w w' : World) (g : Nat) (vn vl vb : Value) (d : D) : Prop :=
  ∃ vb', IsB w' g vn vl vb' d ∧ (vb'.ownBlock = vb.ownBlock ∨ ∃ b, vb'.ownBlock = some b ∧ w.heap.size ≤ b) ∧ Keep (Wt g vl vb) w w'
theorem put_end {W w1 wd : World} {g : Nat} {vn vl vb v1 : Value} {d : D} {c : Int} (h : IsB W g vn vl vb d) (hw : W.drew = wd) (ho : w1.ownsRow 0 5 1 v1 (d.body.length + 1) (nums .u8 d.body ++ [.int .u8 c])) (hg : wd.grownBy w1 vb.ownBlock) (hat : v1.ownBlock = vb.ownBlock ∨ ∃ b, v1.ownBlock = some b ∧ wd.heap.size ≤ b) :
    Put W (w1.setCell ⟨g, 6, none⟩ v1) g vn vl vb (d.put c) := by
  subst hw
  have hk : Keep (Wt g vl vb) W w1 := ((Keep.refl (Wt g vl vb) W).drew).grown hg fun k hk _ => .inr (.inr hk)
  have hgn : vb.ownBlock ≠ some g := h.gb
  have hg1 : v1.ownBlock ≠ some g := by
    rcases hat with e | ⟨b, e, hb⟩
    · rw [e]; exact hgn
    · rw [e]; intro e2; have := h.lt; have hb' : W.heap.size ≤ b := hb; simp at e2; omega
  have hl1 : ∀ k, vl.ownBlock = some k → v1.ownBlock ≠ some k := by
    intro k hk
    rcases hat with e | ⟨b, e, hb⟩
    · rw [e]; exact h.lb k hk
    · rw [e]; intro e2; have := h.line.lt hk; have hb' : W.heap.size ≤ b := hb; simp at e2; omega
  have hblk : w1.heap[g]? = some (.cells (cellsD vn vl vb d) 54 (0, 0)) := (hg.block g h.lt (fun e => hgn e.symm)).trans h.blk
  have hline : Own w1 vl d.line := h.line.keep (F := fun k => vb.ownBlock = some k) (((Keep.refl _ W).drew).grown hg fun k hk _ => hk) h.lb
  have hbody : Own w1 v1 (d.body ++ [c]) := by
    unfold Own
    rw [List.length_append, nums_append]
    exact ho
  have k2 : Keep (fun k => k = g) w1 (w1.setCell ⟨g, 6, none⟩ v1) := (Keep.refl (fun k => k = g) w1).set (g := g) rfl 6 v1
  refine ⟨v1, ⟨blk_put hblk 6 v1 rfl, hline.keep k2 fun i hi e => h.gl (e ▸ hi), hbody.keep k2 fun i hi e => hg1 (e ▸ hi), h.gl, hg1, hl1⟩, hat, hk.set (.inl rfl) 6 v1⟩
set_option maxHeartbeats 2000000 in
set_option maxRecDepth 100000 in
theorem put_calls {w : World} {g : Nat} {vn vl vb : Value} {d : D} (h : IsB w g vn vl vb d) (c : Int) (hm : d.body.length ≤ 1099511627776) :
    Calls Tryd.prog 52 #[.pointer (some ⟨g, 0, none⟩), .int .u8 c] w fun e w' => e = .returned (.tuple #[]) ∧ Put w w' g vn vl vb (d.put c) := by
  have H := Aside0.mk h
  have HM := Aside0.mk hm
  obtain ⟨A, n, rfl, hn⟩ := own_slice2 h.body
  have HN := Aside0.mk hn
  have f6 := h.fz 6
  have c6 : w.drew.cell? ⟨g, 6, none⟩ = some (.slice A d.body.length n) := (h.cell 6).trans rfl
  clear h hm
  go_enter Tryd.func52, Tryd.ntmps52
  refine start_ (n := 22) (S := fun w' => w'.cell? ⟨g, 6, none⟩ = some (.slice A d.body.length n)) (ds := [21]) #[false, false, false, false, false, false, false, false, false, false, false, false, false, false, false, false, false, false, false, false, false, false] (by kernel_rfl) rfl rfl c6 (fun hHeld => ?_)
  refine pure_ (i := 0) (N := some 4) (v := ?_) (a' := ?_) #[true, false, false, false, false, false, false, false, false, false, false, false, false, false, false, false, false, false, false, false, false, false] rfl rfl (by kernel_rfl) (fun _ _ _ h => h) (Or.inl ⟨by rfl, ?_⟩) ?_ ?_
  rotate_left
  · intro w'
    go_simp
    with_reducible rfl
  rotate_left
  · simp only [Act.put, List.setIfInBounds_toArray, List.set_cons_zero, List.set_cons_succ, i64_w, i32_w]
    rfl
  refine pure_ (i := 1) (N := some 5) (v := ?_) (a' := ?_) #[true, true, false, false, false, false, false, false, false, false, false, false, false, false, false, false, false, false, false, false, false, false] rfl rfl (by kernel_rfl) (fun _ _ _ h => h) (Or.inl ⟨by rfl, ?_⟩) ?_ ?_
  rotate_left
  · intro w'
    go_simp
    with_reducible rfl
  rotate_left
  · simp only [Act.put, List.setIfInBounds_toArray, List.set_cons_zero, List.set_cons_succ, i64_w, i32_w]
    rfl
  refine pure_ (i := 2) (N := some 6) (v := ?_) (a' := ?_) #[true, true, true, false, false, false, false, false, false, false, false, false, false, false, false, false, false, false, false, false, false, false] rfl rfl (by kernel_rfl) (fun _ _ _ h => h) (Or.inl ⟨by rfl, ?_⟩) ?_ ?_
  rotate_left
  · intro w'
    go_simp
    with_reducible rfl
  rotate_left
  · simp only [Act.put, List.setIfInBounds_toArray, List.set_cons_zero, List.set_cons_succ, i64_w, i32_w]
    rfl
  refine pure_ (i := 3) (N := some 7) (v := ?_) (a' := ?_) #[true, true, true, true, false, false, false, false, false, false, false, false, false, false, false, false, false, false, false, false, false, false] rfl rfl (by kernel_rfl) (fun _ _ _ h => h) (Or.inl ⟨by rfl, ?_⟩) ?_ ?_
  rotate_left
  · intro w'
    go_simp
    with_reducible rfl
  rotate_left
  · simp only [Act.put, List.setIfInBounds_toArray, List.set_cons_zero, List.set_cons_succ, i64_w, i32_w]
    rfl
  refine pure_ (i := 5) (N := some 9) (v := ?_) (a' := ?_) #[true, true, true, true, false, true, false, false, false, false, false, false, false, false, false, false, false, false, false, false, false, false] rfl rfl (by kernel_rfl) (fun _ _ _ h => h) (Or.inl ⟨by rfl, ?_⟩) ?_ ?_
  rotate_left
  · intro w'
    go_simp
    with_reducible rfl
  rotate_left
  · simp only [Act.put, List.setIfInBounds_toArray, List.set_cons_zero, List.set_cons_succ, i64_w, i32_w]
    rfl
  refine pure_ (i := 6) (N := some 10) (v := ?_) (a' := ?_) #[true, true, true, true, false, true, true, false, false, false, false, false, false, false, false, false, false, false, false, false, false, false] rfl rfl (by kernel_rfl) (fun _ _ _ h => h) (Or.inl ⟨by rfl, ?_⟩) ?_ ?_
  rotate_left
  · intro w'
    go_simp
    with_reducible rfl
  rotate_left
  · simp only [Act.put, List.setIfInBounds_toArray, List.set_cons_zero, List.set_cons_succ, i64_w, i32_w]
    rfl
  refine pure_ (i := 7) (N := some 11) (v := ?_) (a' := ?_) #[true, true, true, true, false, true, true, true, false, false, false, false, false, false, false, false, false, false, false, false, false, false] rfl rfl (by kernel_rfl) (fun _ _ _ h => h) (Or.inl ⟨by rfl, ?_⟩) ?_ ?_
  rotate_left
  · intro w'
    go_simp
    with_reducible rfl
  rotate_left
  · simp only [Act.put, List.setIfInBounds_toArray, List.set_cons_zero, List.set_cons_succ, i64_w, i32_w]
    rfl
  refine pure_ (i := 10) (N := some 14) (v := ?_) (a' := ?_) #[true, true, true, true, false, true, true, true, false, false, true, false, false, false, false, false, false, false, false, false, false, false] rfl rfl (by kernel_rfl) (fun _ _ _ h => h) (Or.inl ⟨by rfl, ?_⟩) ?_ ?_
  rotate_left
  · intro w'
    go_simp
    with_reducible rfl
  rotate_left
  · simp only [Act.put, List.setIfInBounds_toArray, List.set_cons_zero, List.set_cons_succ, i64_w, i32_w]
    rfl
  refine pure_ (i := 11) (N := some 15) (v := ?_) (a' := ?_) #[true, true, true, true, false, true, true, true, false, false, true, true, false, false, false, false, false, false, false, false, false, false] rfl rfl (by kernel_rfl) (fun _ _ _ h => h) (Or.inl ⟨by rfl, ?_⟩) ?_ ?_
  rotate_left
  · intro w'
    go_simp
    with_reducible rfl
  rotate_left
  · simp only [Act.put, List.setIfInBounds_toArray, List.set_cons_zero, List.set_cons_succ, i64_w, i32_w]
    rfl
  refine pure_ (i := 12) (N := some 16) (v := ?_) (a' := ?_) #[true, true, true, true, false, true, true, true, false, false, true, true, true, false, false, false, false, false, false, false, false, false] rfl rfl (by kernel_rfl) (fun _ _ _ h => h) (Or.inl ⟨by rfl, ?_⟩) ?_ ?_
  rotate_left
  · intro w'
    go_simp
    with_reducible rfl
  rotate_left
  · simp only [Act.put, List.setIfInBounds_toArray, List.set_cons_zero, List.set_cons_succ, i64_w, i32_w]
    rfl
  refine pure_ (i := 16) (N := some 20) (v := ?_) (a' := ?_) #[true, true, true, true, false, true, true, true, false, false, true, true, true, false, false, false, true, false, false, false, false, false] rfl rfl (by kernel_rfl) (fun _ _ _ h => h) (Or.inl ⟨by rfl, ?_⟩) ?_ ?_
  rotate_left
  · intro w'
    go_simp
    with_reducible rfl
  rotate_left
  · simp only [Act.put, List.setIfInBounds_toArray, List.set_cons_zero, List.set_cons_succ, i64_w, i32_w]
    rfl
  refine take_ (i := 4) (N := some 8) (v := ?_) (a' := ?_) #[true, true, true, true, true, true, true, true, false, false, true, true, true, false, false, false, true, false, false, false, false, false] rfl rfl (by kernel_rfl) (fun _ _ _ h => h) (Or.inl ⟨by rfl, ?_⟩) hHeld ?_ ?_
  rotate_left
  · intro w' hS'
    go_simp
    with_reducible rfl
  rotate_left
  · simp only [Act.put, List.setIfInBounds_toArray, List.set_cons_zero, List.set_cons_succ, i64_w, i32_w]
    rfl
  refine take_ (i := 8) (N := some 12) (v := ?_) (a' := ?_) #[true, true, true, true, true, true, true, true, true, false, true, true, true, false, false, false, true, false, false, false, false, false] rfl rfl (by kernel_rfl) (fun _ _ _ h => h) (Or.inl ⟨by rfl, ?_⟩) hHeld ?_ ?_
  rotate_left
  · intro w' hS'
    go_simp
    with_reducible rfl
  rotate_left
  · simp only [Act.put, List.setIfInBounds_toArray, List.set_cons_zero, List.set_cons_succ, i64_w, i32_w]
    rfl
  refine take_ (i := 13) (N := some 17) (v := ?_) (a' := ?_) #[true, true, true, true, true, true, true, true, true, false, true, true, true, true, false, false, true, false, false, false, false, false] rfl rfl (by kernel_rfl) (fun _ _ _ h => h) (Or.inl ⟨by rfl, ?_⟩) hHeld ?_ ?_
  rotate_left
  · intro w' hS'
    go_simp
    with_reducible rfl
  rotate_left
  · simp only [Act.put, List.setIfInBounds_toArray, List.set_cons_zero, List.set_cons_succ, i64_w, i32_w]
    rfl
  refine pure_ (i := 9) (N := some 13) (v := ?_) (a' := ?_) #[true, true, true, true, true, true, true, true, true, true, true, true, true, true, false, false, true, false, false, false, false, false] rfl rfl (by kernel_rfl) (fun _ _ _ h => h) (Or.inl ⟨by rfl, ?_⟩) ?_ ?_
  rotate_left
  · intro w'
    go_simp
    with_reducible rfl
  rotate_left
  · simp only [Act.put, List.setIfInBounds_toArray, List.set_cons_zero, List.set_cons_succ, i64_w, i32_w]
    rfl
  refine pure_ (i := 14) (N := some 18) (v := ?_) (a' := ?_) #[true, true, true, true, true, true, true, true, true, true, true, true, true, true, true, false, true, false, false, false, false, false] rfl rfl (by kernel_rfl) (fun _ _ _ h => h) (Or.inl ⟨by rfl, ?_⟩) ?_ ?_
  rotate_left
  · intro w'
    go_simp
    with_reducible rfl
  rotate_left
  · simp only [Act.put, List.setIfInBounds_toArray, List.set_cons_zero, List.set_cons_succ, i64_w, i32_w]
    rfl
  refine pure_ (i := 15) (N := some 19) (v := ?_) (a' := ?_) #[true, true, true, true, true, true, true, true, true, true, true, true, true, true, true, true, true, false, false, false, false, false] rfl rfl (by kernel_rfl) (fun _ _ _ h => h) (Or.inl ⟨by rfl, ?_⟩) ?_ ?_
  rotate_left
  · intro w'
    go_simp
    with_reducible rfl
  rotate_left
  · simp only [Act.put, List.setIfInBounds_toArray, List.set_cons_zero, List.set_cons_succ, i64_w, i32_w]
    rfl
  clear hn
  have hrow : (w.drew).ownsRow 0 5 1 (.slice A d.body.length n) d.body.length (nums .u8 d.body) := H.out.body
  have HR := Aside0.mk hrow
  clear hrow c6
  obtain ⟨wd, hwd⟩ : ∃ wd, wd = w.drew := ⟨_, rfl⟩
  rw [← hwd] at HR hHeld ⊢
  have HW := Aside0.mk hwd
  clear hwd
  refine one_ (i := 17) (N := some 21) #[true, true, true, true, true, true, true, true, true, true, true, true, true, true, true, true, true, true, false, false, false, false] rfl rfl (by kernel_rfl) (by decide) (fun K hK => ?_)
  refine value_ (w1 := wd.alloc (.cells #[.int .u8 c] 5)) (v := .slice (some ⟨wd.heap.size, 0, none⟩) 1 1) (by rfl) rfl ?_ ?_
  · go_simp
  refine hK.out _ _ (by rw [World.cell?_alloc_past _ _ _ (World.block_lt_of_cell? _ _ hHeld)]; exact hHeld) (fun hHeld2 => ?_)
  clear hK K
  refine norm_ (a' := ?_) ?_ ?_
  rotate_left
  · show Act.put _ (some 21) _ = _
    simp only [Act.put, List.setIfInBounds_toArray, List.set_cons_zero, List.set_cons_succ, i64_w, i32_w]
    rfl
  refine one_ (i := 18) (N := some 22) #[true, true, true, true, true, true, true, true, true, true, true, true, true, true, true, true, true, true, true, false, false, false] rfl rfl (by kernel_rfl) (by decide) (fun K hK => ?_)
  refine step_append_cells (W := wd) (w0 := wd) 0 (by rfl) (.tmp 19) (.tmp 21) 22 5 (.int .u8 0) 1 1 rfl Tryd.underlying22 info5 rfl (by decide) (by decide) (.slice A d.body.length n) d.body.length (nums .u8 d.body) [.int .u8 c] rfl rfl rfl (by intro u hu; rw [List.mem_singleton.1 hu]; rfl) HR.out (Below.refl _ _) (Nat.zero_le _) (by have := HM.out; omega) ?_
  intro v1 w1 ho _ hg hat
  obtain ⟨A1, n1, rfl⟩ := own_slice ho
  have hc1 : w1.cell? ⟨g, 6, none⟩ = some (.slice A d.body.length n) := hg.cell hHeld (fun e => H.out.gb e.symm)
  have HO := Aside0.mk ho
  have HG := Aside0.mk hg
  have HAT := Aside0.mk hat
  have hfz : w1.frozen? ⟨g, 6, none⟩ = false := (World.frozen?_of_block (hg.block g (World.block_lt_of_cell? _ _ hHeld) (fun e => H.out.gb e.symm))).trans (by have := HW.out; subst this; exact f6)
  clear ho hg hat
  refine hK.out _ _ hc1 (fun hHeld3 => ?_)
  clear hK K
  refine norm_ (a' := ?_) ?_ ?_
  rotate_left
  · show Act.put _ (some 22) _ = _
    simp only [Act.put, List.setIfInBounds_toArray, List.set_cons_zero, List.set_cons_succ, i64_w, i32_w]
    rfl
  refine pure_ (i := 19) (N := some 23) (v := ?_) (a' := ?_) #[true, true, true, true, true, true, true, true, true, true, true, true, true, true, true, true, true, true, true, true, false, false] rfl rfl (by kernel_rfl) (fun _ _ _ h => h) (Or.inl ⟨by rfl, ?_⟩) ?_ ?_
  rotate_left
  · intro w'
    go_simp
    with_reducible rfl
  rotate_left
  · simp only [Act.put, List.setIfInBounds_toArray, List.set_cons_zero, List.set_cons_succ, i64_w, i32_w]
    rfl
  refine pure_ (i := 20) (N := some 24) (v := ?_) (a' := ?_) #[true, true, true, true, true, true, true, true, true, true, true, true, true, true, true, true, true, true, true, true, true, false] rfl rfl (by kernel_rfl) (fun _ _ _ h => h) (Or.inl ⟨by rfl, ?_⟩) ?_ ?_
  rotate_left
  · intro w'
    go_simp
    with_reducible rfl
  rotate_left
  · simp only [Act.put, List.setIfInBounds_toArray, List.set_cons_zero, List.set_cons_succ, i64_w, i32_w]
    rfl
  refine last_ (i := 21) (N := none) #[true, true, true, true, true, true, true, true, true, true, true, true, true, true, true, true, true, true, true, true, true, true] rfl rfl (by kernel_rfl) (by decide) (fun K hK => ?_)
  refine skip_ (w1 := w1.setCell ⟨g, 6, none⟩ (.slice A1 (d.body.length + 1) n1)) (by rfl) rfl ?_ ?_
  · go_simp
  refine hK.out _ _ ?_
  clear hK K
  refine done_ (by kernel_rfl) ?_
  go_wp2
  go_end0
  exact ⟨rfl, put_end H.out HW.out.symm HO.out HG.out HAT.out⟩
end Go.Proofs.YtfpcoanlkfgagaaDoor.DecA
