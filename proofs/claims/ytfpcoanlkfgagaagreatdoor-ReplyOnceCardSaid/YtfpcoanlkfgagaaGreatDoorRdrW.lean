/- errors.Is of nil, or of one of the program's numbers of errors, against such a number. -/
import Derived.Test.YtfpcoanlkfgagaaGreatDoorExt
import Derived.WalkKit
import Derived.LaidEql
import Derived.Stop.Asserts
import Derived.Lib.IfaceEq
import Derived.Lib.IfaceNeq
import Derived.RowKitTokens
import Derived.Test.YtfpcoanlkfgagaaGreatDoorDecE
import Derived.Laws.EntriesVeiled
import Derived.Below
import Derived.Deep.Draws
import Derived.Deep.AppendLies
import Derived.Maps.AppendAt
import Derived.OwnWalk
import Derived.Laws.BytesArg
import Derived.Laws.MakeOwn
import Derived.Laws.OwnMore
import Derived.Deep.OwnRows
import Derived.Tactics
import Derived.Lib.ConvBytes
import Derived.Laws.Slices
import Derived.KernelRfl
import Derived.RowKit3
import Derived.Deep.LoopGhost
import Derived.Deep.QuietTactic
import Derived.BigQuiet
import Derived.WideLaws
import Derived.Deep.DeepCutAuto
import Derived.Deep.CutBlock
import Derived.Deep.RegionHeld3
import Derived.Laws.Rows
import Derived.Lib.AppendStr
import Derived.ArgAppend
import Derived.Laws.IdiomCopy
import Derived.OrdersHeld
import Derived.Laws.BitsLemmas
import Derived.RowKit
import Derived.WalkMore
import Derived.Test.YtfpcoanlkfgagaaGreatDoorWWords
import Derived.Test.YtfpcoanlkfgagaaGreatDoorWLast
import Derived.Test.YtfpcoanlkfgagaaGreatDoorWMore
import Derived.Test.YtfpcoanlkfgagaaGreatDoorWTab
namespace Go.Proofs.YtfpcoanlkfgagaaGreatDoor.Is
open Go.Lib Go.RowKit Go.Extern.Stop Go.Stop Go.Extern
theorem callT (v : Value) (w : World) : (callFunc 37 #[.iface 29 v]).run Tryz.prog w = .ok (Next.value (.iface 92 (.agg #[.pointer (some ⟨8, 29, none⟩)]))) w := by kernel_rfl
theorem callC (w : World) : (callFunc 142 #[.agg #[.pointer (some ⟨8, 29, none⟩)]]).run Tryz.prog w = .ok (Next.value (.bool true)) w := by kernel_rfl
theorem methodC (v : Value) (w : World) : (Go.method 300 92 v "Comparable").run Tryz.prog w = .ok (142, v) w := by kernel_rfl
theorem cmp : (Tryz.prog.info? 29).map (·.comparable) = some true := by kernel_rfl
theorem noIs (v : Value) (xT : TypeId) (w : World) : (Instr.typeAssert (.iface 29 v) xT 94 true).run Tryz.prog w = .ok (.tuple #[.nilIface, .bool false]) w := run_typeAssert_lacksB Tryz.underlying94 (by kernel_rfl) (by kernel_rfl) v xT w
theorem noUn (v : Value) (xT : TypeId) (w : World) : (Instr.typeAssert (.iface 29 v) xT 97 true).run Tryz.prog w = .ok (.tuple #[.nilIface, .bool false]) w := run_typeAssert_lacksB Tryz.underlying97 (by kernel_rfl) (by kernel_rfl) v xT w
theorem noUns (v : Value) (xT : TypeId) (w : World) : (Instr.typeAssert (.iface 29 v) xT 99 true).run Tryz.prog w = .ok (.tuple #[.nilIface, .bool false]) w := run_typeAssert_lacksB Tryz.underlying99 (by kernel_rfl) (by kernel_rfl) v xT w
set_option maxHeartbeats 2000000 in
set_option maxRecDepth 100000 in
theorem is_nil (b : Int) (w : World) :
    Calls Tryz.prog 24 #[.nilIface, .iface 29 (.int .i64 b)] w fun e w' => e = .returned (.bool false) ∧ w = w' := by
  have hn := run_eql_iface_nil_left (P := Tryz.prog) w 29 (.int .i64 b) Tryz.underlying45
  go_enter Tryz.func24, Tryz.ntmps24
  go_wp2
  go_ret
  exact ⟨rfl, rfl⟩
set_option maxHeartbeats 2000000 in
set_option maxRecDepth 100000 in
theorem is_same (a : Int) (w : World) :
    Calls Tryz.prog 24 #[.iface 29 (.int .i64 a), .iface 29 (.int .i64 a)] w fun e w' => e = .returned (.bool true) ∧ w = w' := by
  have h8 := callT
  have h32 := callC
  have mR := methodC
  have heq := run_eql_iface_int (P := Tryz.prog) (k := .i64) w a a Tryz.underlying45 cmp Tryz.underlying29
  rw [show (a == a) = true from beq_self_eq_true a] at heq
  go_enter Tryz.func24, Tryz.ntmps24
  go_wp2
  refine wp_loop_rounds 1 ?_
  rw [rounds_succ]
  go_wp2
  go_ret
  exact ⟨rfl, rfl⟩
set_option maxHeartbeats 2000000 in
set_option maxRecDepth 100000 in
theorem is_other (a b : Int) (hab : a ≠ b) (w : World) :
    Calls Tryz.prog 24 #[.iface 29 (.int .i64 a), .iface 29 (.int .i64 b)] w fun e w' => e = .returned (.bool false) ∧ w = w' := by
  have h8 := callT
  have h32 := callC
  have mR := methodC
  have nE := noIs
  have uE := noUn
  have vE := noUns
  have heq := run_eql_iface_int (P := Tryz.prog) (k := .i64) w a b Tryz.underlying45 cmp Tryz.underlying29
  rw [show (a == b) = false from beq_eq_false_iff_ne.2 hab] at heq
  go_enter Tryz.func24, Tryz.ntmps24
  go_wp2
  refine wp_loop_rounds 1 ?_
  rw [rounds_succ]
  go_wp2
  go_ret
  exact ⟨rfl, rfl⟩
/-- What stands for an error's number: nothing, or it. -/
def errV (e : Int) : Value := if e = 0 then .nilIface else .iface 29 (.int .i64 e)
/-- errors.Is of such an error. -/
theorem is_calls (e b : Int) (w : World) :
    Calls Tryz.prog 24 #[errV e, .iface 29 (.int .i64 b)] w fun x w' => x = .returned (.bool (decide (e ≠ 0 ∧ e = b))) ∧ w = w' := by
  unfold errV
  by_cases he : e = 0
  · rw [if_pos he, show decide (e ≠ 0 ∧ e = b) = false from decide_eq_false (fun h => h.1 he)]
    exact is_nil b w
  · rw [if_neg he]
    by_cases hb : e = b
    · subst hb
      rw [show decide (e ≠ 0 ∧ e = e) = true from decide_eq_true ⟨he, rfl⟩]
      exact is_same e w
    · rw [show decide (e ≠ 0 ∧ e = b) = false from decide_eq_false (fun h => hb h.2)]
      exact is_other e b hb w
end Go.Proofs.YtfpcoanlkfgagaaGreatDoor.Is
namespace Go.Proofs.YtfpcoanlkfgagaaGreatDoor.Rdr
open Go.RowKit Go.Proofs.YtfpcoanlkfgagaaGreatDoorW.PrintWords Go.Proofs.YtfpcoanlkfgagaaGreatDoorW.PrintLast Go.Proofs.YtfpcoanlkfgagaaGreatDoor.Ext Go.Proofs.YtfpcoanlkfgagaaGreatDoor.Dec Go.Proofs.YtfpcoanlkfgagaaGreatDoor.DecW Go.Proofs.YtfpcoanlkfgagaaGreatDoor.DecA Go.Proofs.YtfpcoanlkfgagaaGreatDoor.DecB Go.Proofs.YtfpcoanlkfgagaaGreatDoor.DecP Go.Proofs.YtfpcoanlkfgagaaGreatDoor.DecQ Go.Proofs.YtfpcoanlkfgagaaGreatDoor.DecE Go.Proofs.YtfpcoanlkfgagaaGreatDoor.Is
set_option linter.unusedVariables false
set_option linter.unusedSimpArgs false
/-- A head. -/
structure Hd where
  st : Int
  len : Int
  ch : Bool
  cl : Bool
structure R where
  ahead : List Int
  hd : Hd
  whole : Bool
  body : Option D
  rest : Int
  ended : Bool
  e : Int
  most : Int
def R.note (r : R) (e : Int) : R := if e = 0 then r else { r with e := e, ahead := [] }
def newR (most : Int) : R := ⟨[], ⟨0, 0, false, false⟩, false, none, 0, false, 0, most⟩
def R.done (r : R) : Bool := match r.body with | none => false | some d => d.done
def R.over (r : R) : Bool := if r.e = 0 then r.done else true
def cellsR (va vb : Value) (r : R) : Array Value := #[va, .int .i64 r.hd.st, .int .i64 r.hd.len, .bool r.hd.ch, .bool r.hd.cl, .bool r.whole, vb, .int .i64 r.rest, .bool r.ended, errV r.e, .int .i64 r.most]
def RBlk (w : World) (g : Nat) (va vb : Value) (r : R) : Prop := w.heap[g]? = some (.cells (cellsR va vb r) 49 (0, 0))
section
variable {w w' : World} {g : Nat} {va vb : Value} {r : R} {F : Nat → Prop}
theorem RBlk.cell (h : RBlk w g va vb r) (i : Nat) : w.cell? ⟨g, i, none⟩ = (cellsR va vb r)[i]? := blk_cell h i
theorem RBlk.fz (h : RBlk w g va vb r) (i : Nat) : w.frozen? ⟨g, i, none⟩ = false := blk_frozen h i
theorem RBlk.lt (h : RBlk w g va vb r) : g < w.heap.size := blk_lt h
theorem RBlk.keep (h : RBlk w g va vb r) (k : Keep F w w') (hn : ¬ F g) : RBlk w' g va vb r := k.blk h hn
theorem RBlk.below (h : RBlk w g va vb r) (k : Below w.heap.size w w') : RBlk w' g va vb r := blk_below h k
theorem RBlk.put {va' vb' : Value} {r' : R} (h : RBlk w g va vb r) (i : Nat) (u : Value) (e : (cellsR va vb r).setIfInBounds i u = cellsR va' vb' r') : RBlk (w.setCell ⟨g, i, none⟩ u) g va' vb' r' := blk_put h i u e
end
theorem errV0 : errV 0 = .nilIface := rfl
theorem errV1 {e : Int} (h : e ≠ 0) : errV e = .iface 29 (.int .i64 e) := if_neg h
/-- The body's decoder, behind a pointer; what is its own lies in F. -/
def BodyV (w : World) (F : Nat → Prop) (vb : Value) : Option D → Prop
  | none => vb = .pointer none
  | some d => ∃ gb, vb = .pointer (some ⟨gb, 0, none⟩) ∧ IsD w F gb d
theorem BodyV.keep {w w' : World} {F G : Nat → Prop} {vb : Value} {b : Option D} (h : BodyV w F vb b) (k : Keep G w w') (hn : ∀ i, i < w.heap.size → F i → ¬ G i) : BodyV w' F vb b := by
  cases b with
  | none => exact h
  | some d =>
    obtain ⟨gb, hv, hD⟩ := h
    exact ⟨gb, hv, hD.keep k hn⟩
/-- The reader at block g; all that is its own lies in F. -/
def IsR (w : World) (F : Nat → Prop) (g : Nat) (r : R) : Prop :=
  ∃ va vb F2, RBlk w g va vb r ∧ Own w va r.ahead ∧ (∀ k, va.ownBlock = some k → F k ∧ k ≠ g ∧ ¬ F2 k) ∧ F g ∧ BodyV w F2 vb r.body ∧ (∀ k, F2 k → F k ∧ k ≠ g)
theorem IsR.keep {w w' : World} {F G : Nat → Prop} {g : Nat} {r : R} (h : IsR w F g r) (k : Keep G w w') (hn : ∀ i, i < w.heap.size → F i → ¬ G i) : IsR w' F g r := by
  obtain ⟨va, vb, F2, hB, hO, hA, hg, hb, h2⟩ := h
  exact ⟨va, vb, F2, hB.keep k (hn g hB.lt hg), hO.keep k fun i hi => hn i (hO.lt hi) (hA i hi).1, hA, hg, hb.keep k fun i hi hf => hn i hi (h2 i hf).1, h2⟩
theorem IsR.below {w w' : World} {F : Nat → Prop} {g : Nat} {r : R} (h : IsR w F g r) (k : Below w.heap.size w w') : IsR w' F g r := h.keep (Keep.of_below (F := fun _ => False) k) fun _ _ _ => id
theorem IsR.lt {w : World} {F : Nat → Prop} {g : Nat} {r : R} (h : IsR w F g r) : g < w.heap.size := by
  obtain ⟨_, _, _, hB, _⟩ := h
  exact hB.lt
def RPushed (w w' : World) (F : Nat → Prop) (g : Nat) (r : R) : Prop := ∃ F', IsR w' F' g r ∧ (∀ i, F' i → F i ∨ w.heap.size ≤ i) ∧ Keep F w w'
set_option maxHeartbeats 2000000 in
set_option maxRecDepth 100000 in
theorem new_calls_ (most : Int) (w : World) :
    Calls Tryz.prog 6 #[.int .i64 most] w fun e w' => ∃ g, e = .returned (.pointer (some ⟨g, 0, none⟩)) ∧ IsR w' (fun k => k = g) g (newR most) ∧ w.heap.size ≤ g ∧ Below w.heap.size w w' := by
  go_enter Tryz.func6, Tryz.ntmps6
  go_wp2
  go_ret
  exact ⟨w.heap.size, rfl, ⟨.slice none 0 0, .pointer none, fun _ => False, blk_new w _, own_empty _, fun k hk => by simp [Value.ownBlock] at hk, rfl, rfl, fun k hk => hk.elim⟩, Nat.le_refl _, below_alloc (Below.refl _ _) _⟩
set_option maxHeartbeats 2000000 in
set_option maxRecDepth 100000 in
/-- note: of no error nothing; else it stands there, and what was ahead does not. -/
theorem note_0 (w : World) (g : Nat) : Calls Tryz.prog 17 #[.pointer (some ⟨g, 0, none⟩), .int .i64 0] w fun e w' => e = .returned (.tuple #[]) ∧ w = w' := by
  go_enter Tryz.func17, Tryz.ntmps17
  go_wp2
  go_end0
  exact ⟨rfl, rfl⟩
set_option maxHeartbeats 2000000 in
set_option maxRecDepth 100000 in
theorem note_1 {w : World} {g : Nat} {va vb : Value} {r : R} (h : RBlk w g va vb r) (e : Int) (he : e ≠ 0) :
    Calls Tryz.prog 17 #[.pointer (some ⟨g, 0, none⟩), .int .i64 e] w fun x w' => x = .returned (.tuple #[]) ∧ RBlk w' g (.slice none 0 0) vb (r.note e) ∧ Keep (fun k => k = g) w w' := by
  have H := Aside0.mk h
  have f0 := h.fz 0
  have f9 := h.fz 9
  have c0 : w.cell? ⟨g, 0, none⟩ = some va := (h.cell 0).trans rfl
  have c9 : w.cell? ⟨g, 9, none⟩ = some (errV r.e) := (h.cell 9).trans rfl
  have HE := Aside0.mk he
  have y1 : (e != 0) = true := bne_iff_ne.2 he
  clear h he
  go_enter Tryz.func17, Tryz.ntmps17
  go_wp2
  go_end0
  refine ⟨rfl, ?_, ((Keep.refl (fun k => k = g) w).set (g := g) rfl 9 _).set (g := g) rfl 0 _⟩
  unfold R.note
  rw [if_neg HE.out]
  exact (H.out.put 9 (.iface 29 (.int .i64 e)) (va' := va) (vb' := vb) (r' := { r with e := e }) (by rw [← errV1 HE.out]; rfl)).put 0 _ rfl
/-- Both at once. -/
theorem note_calls {w : World} {g : Nat} {va vb : Value} {r : R} (h : RBlk w g va vb r) (e : Int) :
    Calls Tryz.prog 17 #[.pointer (some ⟨g, 0, none⟩), .int .i64 e] w fun x w' => x = .returned (.tuple #[]) ∧ RBlk w' g (if e = 0 then va else .slice none 0 0) vb (r.note e) ∧ Keep (fun k => k = g) w w' := by
  by_cases he : e = 0
  · subst he
    rw [if_pos rfl, show r.note 0 = r from if_pos rfl]
    refine (note_0 w g).mono ?_
    rintro x w' ⟨rfl, rfl⟩
    exact ⟨rfl, h, Keep.refl _ _⟩
  · rw [if_neg he]
    exact note_1 h e he
set_option maxHeartbeats 2000000 in
set_option maxRecDepth 100000 in
theorem over_calls {w : World} {F : Nat → Prop} {g : Nat} {r : R} (h : IsR w F g r) :
    Calls Tryz.prog 11 #[.pointer (some ⟨g, 0, none⟩)] w fun x w' => x = .returned (.bool r.over) ∧ w = w' := by
  obtain ⟨va, vb, F2, hB, hO, hA, hg, hb, h2⟩ := h
  have c9 : w.cell? ⟨g, 9, none⟩ = some (errV r.e) := (hB.cell 9).trans rfl
  have c6 : w.cell? ⟨g, 6, none⟩ = some vb := (hB.cell 6).trans rfl
  clear hB hO hA hg h2
  unfold R.over
  by_cases he : r.e = 0
  · rw [if_pos he]
    rw [he, errV0] at c9
    clear he
    unfold R.done
    cases hbb : r.body with
    | none =>
      rw [hbb] at hb
      obtain rfl : vb = .pointer none := hb
      clear hbb
      go_enter Tryz.func11, Tryz.ntmps11
      go_wp2_with (first | (go_at_call 23; (with_reducible refine (done_nil _).mono ?_); rintro e w1 ⟨rfl, rfl⟩))
      go_ret
      exact ⟨rfl, rfl⟩
    | some d =>
      rw [hbb] at hb
      obtain ⟨gb, rfl, hD⟩ := hb
      have HD := Aside0.mk hD
      clear hbb hD
      go_enter Tryz.func11, Tryz.ntmps11
      go_wp2_with (first | (go_at_call 23; (with_reducible refine (done_calls HD.out).mono ?_); rintro e w1 ⟨rfl, rfl⟩))
      go_ret
      exact ⟨rfl, rfl⟩
  · rw [if_neg he]
    rw [errV1 he] at c9
    clear he hb
    go_enter Tryz.func11, Tryz.ntmps11
    go_wp2
    go_ret
    exact ⟨rfl, rfl⟩

set_option maxHeartbeats 2000000 in
set_option maxRecDepth 100000 in
theorem push_nil_ (w : World) (A : Option Addr) (n c : Nat) : Calls Tryz.prog 7 #[.pointer none, .slice A n c] w fun e w' => e = .returned (.tuple #[]) ∧ w = w' := by
  go_enter Tryz.func7, Tryz.ntmps7
  go_wp2
  (try simp only [Exit.inBlock, Exit.then]); refine bodyPost_ret (results_none rfl _ _ _) rfl ?_
  exact ⟨rfl, rfl⟩

set_option maxHeartbeats 2000000 in
set_option maxRecDepth 100000 in
theorem end_nil_ (w : World) : Calls Tryz.prog 8 #[.pointer none] w fun e w' => e = .returned (.tuple #[]) ∧ w = w' := by
  go_enter Tryz.func8, Tryz.ntmps8
  go_wp2
  (try simp only [Exit.inBlock, Exit.then]); refine bodyPost_ret (results_none rfl _ _ _) rfl ?_
  exact ⟨rfl, rfl⟩

set_option maxHeartbeats 2000000 in
set_option maxRecDepth 100000 in
theorem over_nil_ (w : World) : Calls Tryz.prog 11 #[.pointer none] w fun e w' => e = .returned (.bool false) ∧ w = w' := by
  go_enter Tryz.func11, Tryz.ntmps11
  go_wp2
  go_ret
  exact ⟨rfl, rfl⟩

set_option maxHeartbeats 2000000 in
set_option maxRecDepth 100000 in
theorem wrong_nil_ (w : World) : Calls Tryz.prog 13 #[.pointer none] w fun e w' => e = .returned (.int .i64 1) ∧ w = w' := by
  go_enter Tryz.func13, Tryz.ntmps13
  go_wp2
  go_ret
  exact ⟨rfl, rfl⟩

set_option maxHeartbeats 2000000 in
set_option maxRecDepth 100000 in
theorem rest_nil_ (w : World) : Calls Tryz.prog 14 #[.pointer none] w fun e w' => e = .returned (.int .i64 0) ∧ w = w' := by
  go_enter Tryz.func14, Tryz.ntmps14
  go_wp2
  go_ret
  exact ⟨rfl, rfl⟩

set_option maxHeartbeats 2000000 in
set_option maxRecDepth 100000 in
theorem copy_nil_ (w : World) : Calls Tryz.prog 15 #[.pointer none] w fun e w' => e = .returned (.pointer none) ∧ w = w' := by
  go_enter Tryz.func15, Tryz.ntmps15
  go_wp2
  go_ret
  exact ⟨rfl, rfl⟩

end Go.Proofs.YtfpcoanlkfgagaaGreatDoor.Rdr
namespace Go.Proofs.YtfpcoanlkfgagaaGreatDoor.RdrW
open Go.RowKit Go.Proofs.YtfpcoanlkfgagaaGreatDoorW.PrintWords Go.Proofs.YtfpcoanlkfgagaaGreatDoorW.PrintLast Go.Proofs.YtfpcoanlkfgagaaGreatDoor.Ext Go.Proofs.YtfpcoanlkfgagaaGreatDoor.Dec Go.Proofs.YtfpcoanlkfgagaaGreatDoor.DecW Go.Proofs.YtfpcoanlkfgagaaGreatDoor.DecA Go.Proofs.YtfpcoanlkfgagaaGreatDoor.DecB Go.Proofs.YtfpcoanlkfgagaaGreatDoor.DecP Go.Proofs.YtfpcoanlkfgagaaGreatDoor.DecQ Go.Proofs.YtfpcoanlkfgagaaGreatDoor.DecE Go.Proofs.YtfpcoanlkfgagaaGreatDoor.Is Go.Proofs.YtfpcoanlkfgagaaGreatDoor.Rdr
set_option linter.unusedVariables false
set_option linter.unusedSimpArgs false
set_option maxHeartbeats 4000000 in
set_option maxRecDepth 100000 in
theorem wrongR_calls {w : World} {F : Nat → Prop} {g : Nat} {r : R} (h : IsR w F g r) (he : 0 ≤ r.e ∧ r.e ≤ 26) :
    Calls Tryz.prog 13 #[.pointer (some ⟨g, 0, none⟩)] w fun x w' => x = .returned (.int .i64 r.e) ∧ w = w' := by
  obtain ⟨va, vb, F2, hB, hO, hA, hg, hb, h2⟩ := h
  obtain ⟨ve, hve⟩ : ∃ ve, ve = errV r.e := ⟨_, rfl⟩
  have c9 : w.cell? ⟨g, 9, none⟩ = some ve := (hB.cell 9).trans (by rw [hve]; rfl)
  have IS := Aside0.mk (fun (b : Int) => is_calls r.e b w)
  rw [← hve] at IS
  have HE := Aside0.mk he
  clear hB hO hA hg hb h2 hve he
  go_enter Tryz.func13, Tryz.ntmps13
  go_wp2
  go_loopg [3] 27 (fun kq v3 w' => ∃ i : Nat, v3 = .int .i64 (i : Int) ∧ Aside0 (kq + i = 27 ∧ (r.e ≠ 0 → (i : Int) ≤ r.e)) ∧ Aside0 (w = w'))
  case atStart => exact ⟨0, rfl, ⟨rfl, fun _ => HE.out.1⟩, ⟨rfl⟩⟩
  case round =>
    obtain ⟨i, rfl, HI, HW⟩ := hrel
    have hw := HW.out
    subst hw
    by_cases hi : i ≤ 26
    · have y1 : decide ((i : Int) ≤ 26) = true := decide_eq_true (by omega)
      have hwi : wrap64 ((i : Int) + 1) = ((i + 1 : Nat) : Int) := wrap64_next i (by omega)
      by_cases hx : r.e ≠ 0 ∧ r.e = (i : Int)
      · have ISi := Aside0.mk (IS.out (i : Int))
        rw [show decide (r.e ≠ 0 ∧ r.e = (i : Int)) = true from decide_eq_true hx] at ISi
        have HX := Aside0.mk hx.2
        clear hi hx IS
        go_wp2_with (first | (go_at_call 24; (with_reducible refine ISi.out.mono ?_); rintro e w1 ⟨rfl, rfl⟩))
        try rw [Exit.noGoto_ret]
        go_ret
        exact ⟨by rw [HX.out]; rfl, rfl⟩
      · have ISi := Aside0.mk (IS.out (i : Int))
        rw [show decide (r.e ≠ 0 ∧ r.e = (i : Int)) = false from decide_eq_false hx] at ISi
        have HX := Aside0.mk hx
        have HI2 := Aside0.mk hi
        clear hi hx
        go_wp2_with (first | (go_at_call 24; (with_reducible refine ISi.out.mono ?_); rintro e w1 ⟨rfl, rfl⟩))
        go_roundg (gk - 1)
        case measure => have := HI.out.1; have := HI2.out; omega
        case rel => exact ⟨i + 1, by first | rfl | rw [hwi], ⟨by have := HI.out.1; have := HI2.out; omega, fun h0 => by have h1 := HI.out.2 h0; have h2 : r.e ≠ (i : Int) := fun e => HX.out ⟨h0, e⟩; omega⟩, ⟨rfl⟩⟩
    · have y1 : decide ((i : Int) ≤ 26) = false := decide_eq_false (by omega)
      have h0 : r.e = 0 := by
        by_cases h0 : r.e = 0
        · exact h0
        · have h1 := HI.out.2 h0; have := HE.out.2; omega
      have H0 := Aside0.mk h0
      clear hi h0
      go_wp2
      try rw [Exit.noGoto_ret]
      go_ret
      exact ⟨by rw [H0.out]; rfl, rfl⟩

end Go.Proofs.YtfpcoanlkfgagaaGreatDoor.RdrW
