/- What the closure of All hands on: the frames 1 and 3. -/
import Derived.Test.YtpihpkphhkcdlaaGreatDoorAl
namespace Go.Proofs.YtpihpkphhkcdlaaGreatDoor.As
open Go.RowKit Go.Maps Go.Shelf Go.Proofs.YtpihpkphhkcdlaaGreatDoorW.PrintWords Go.Proofs.YtpihpkphhkcdlaaGreatDoorW.PrintLast Go.Proofs.YtpihpkphhkcdlaaGreatDoor.Tab Go.Proofs.YtpihpkphhkcdlaaGreatDoor.Kp Go.Proofs.YtpihpkphhkcdlaaGreatDoor.Pd Go.Proofs.YtpihpkphhkcdlaaGreatDoor.Fr Go.Proofs.YtpihpkphhkcdlaaGreatDoor.May Go.Proofs.YtpihpkphhkcdlaaGreatDoor.De Go.Proofs.YtpihpkphhkcdlaaGreatDoor.Sk Go.Proofs.YtpihpkphhkcdlaaGreatDoor.Lk Go.Proofs.YtpihpkphhkcdlaaGreatDoor.So Go.Proofs.YtpihpkphhkcdlaaGreatDoor.Ku Go.Proofs.YtpihpkphhkcdlaaGreatDoor.Cr Go.Proofs.YtpihpkphhkcdlaaGreatDoor.Sd Go.Proofs.YtpihpkphhkcdlaaGreatDoor.Cp Go.Proofs.YtpihpkphhkcdlaaGreatDoor.Al
set_option linter.unusedVariables false
set_option linter.unusedSimpArgs false
attribute [local go_sem] Oper.semAt_some
/-- What the closure reads, behind its sort. -/
structure Rd (Bo Bn : Nat) (W : World) (B g ml gs nn : Nat) (D : DataW Value) (c : List Int) (mw : Nat) (r : List Value) : Prop where
  bx : W.heap[B]? = some (.cells #[.pointer (some ⟨g, 0, none⟩)] 25 (0, 0))
  sk : W.heap[g]? = some (.cells (skC (some ml) (some mw) c) 54 (0, 0))
  mp : W.ownsMap Tryz.prog 40 kR ml nn D
  row : W.heap[gs]? = some (.cells (two 1 3 r) 40 (0, 0))
  ne : B ≠ Bo ∧ B ≠ Bn ∧ g ≠ Bo ∧ g ≠ Bn ∧ ml ≠ Bo ∧ ml ≠ Bn ∧ gs ≠ Bo ∧ gs ≠ Bn
/-- .. and of one frame. -/
def Fr1 (Bo Bn : Nat) (W : World) (D : DataW Value) (q : Nat) : Prop := ∃ (win : Int) (rs : List Rec) (Ar : Option Addr) (cr : Nat) (v4 : Value), (∀ z, D.atKey (uL q) z = .held (.agg #[.int .u64 (q : Nat), .int .i64 win, .slice Ar rs.length cr, v4])) ∧ rs.length ≤ cr ∧ rs.length ≤ 1000000 ∧ RecsAt W Ar win rs ∧ (∀ ad, Ar = some ad → 0 < rs.length → ad.block ≠ Bo ∧ ad.block ≠ Bn)
set_option maxHeartbeats 16000000 in
set_option maxRecDepth 1000000 in
theorem all1_in (n : Nat) (hn : 1 ≤ n) (l Bo Bn B g ml mw nn : Nat) (c : List Int) (D : DataW Value) (J Jx : List FX → World → Prop)
    (hY : ∀ pre x W, J pre W → pre.length < 2 → YieldAt Fence.wide (n - 1) Tryz.prog l (encF x) W fun e W' =>
      (e = .returned (.bool true) ∧ J (pre ++ [x]) W' ∧ Kq Bo Bn W W') ∨ (e = .returned (.bool false) ∧ Jx (pre ++ [x]) W'))
    (W : World) (hJ : AbidesFrom W.heap.size J) (hbx : W.heap[B]? = some (.cells #[.pointer (some ⟨g, 0, none⟩)] 25 (0, 0))) (hsk : W.heap[g]? = some (.cells (skC (some ml) (some mw) c) 54 (0, 0))) (hmp : W.ownsMap Tryz.prog 40 kR ml nn D)
    (hne : B ≠ Bo ∧ B ≠ Bn ∧ g ≠ Bo ∧ g ≠ Bn ∧ ml ≠ Bo ∧ ml ≠ Bn) (hBo : Bo < W.heap.size) (hBn : Bn < W.heap.size) (hrow : W.heap[Bo]? = some (.cells #[.slice none 0 0] 61 (0, 0))) (hmax : Maps.size D ≤ 1000000) (hhas : ∀ x, has D (.int .u64 x) = true ↔ x = 1 ∨ x = 3)
    (h1 : Fr1 Bo Bn W D 1) (h3 : Fr1 Bo Bn W D 3) (h0 : J [] W) :
    CallsIn Fence.wide n Tryz.prog 30 #[.func (.yield l) #[] #[], .pointer (some ⟨B, 0, none⟩)] W fun e W' => (∃ v, e = .returned v) ∧
      ((∃ ys : List FX, ys.map (fun x => x.1.1) = [1, 3] ∧ J ys W') ∨ (∃ pre : List FX, True ∧ Jx pre W')) := by
  have HH := Aside0.mk (And.intro hne (And.intro hBo (And.intro hBn (And.intro hrow (And.intro hmax hhas)))))
  have HF1 := Aside0.mk h1
  have HF3 := Aside0.mk h3
  have HMP := Aside0.mk hmp
  have HY := Aside0.mk hY
  have HJ := Aside0.mk hJ
  have H0 := Aside0.mk h0
  have HBX := Aside0.mk hbx
  have HSK := Aside0.mk hsk
  have cb : W.cell? ⟨B, 0, none⟩ = some (.pointer (some ⟨g, 0, none⟩)) := blk_cell hbx 0
  have cg : W.cell? ⟨g, 0, none⟩ = some (.map (some ml)) := blk_cell hsk 0
  clear hne hBo hBn hrow hmax hhas h1 h3 hmp hY hJ h0 hbx hsk
  refine callsIn_of_wp Tryz.func30 rfl trivial ?_ rfl
  simp only [Tryz.ntmps30, List.size_toArray, List.length_cons, List.length_nil, Nat.reduceAdd, Nat.reduceSub, Array.replicate_succ, Array.replicate_zero, List.push_toArray, List.append_toArray, List.nil_append, List.cons_append]
  gi_wp2_with (first
    | (refine ⟨trivial, ?_⟩; gi_at_call 32; refine (callsIn_wide.2 (keys_calls _ _)).mono ?_; rintro e_ w1 ⟨rfl, rfl⟩)
    | (refine ⟨trivial, ?_⟩; gi_at_call 31; refine (callsIn_wide.2 (Sd.sorted_calls W.heap.size ml nn D _ (by simp) (blk_cell (blk_new W (.cells #[.map (some ml)] 51)) 0) (HMP.out.alloc _) HH.out.2.2.2.2.1 HH.out.2.2.2.2.2)).mono ?_; rintro e_ w2 ⟨gs, cap, r, rfl, q1, q2, q3, q4⟩; have HX := Aside0.mk (And.intro q1 (And.intro q2 (And.intro q3 q4))); clear q1 q2 q3 q4))
  obtain ⟨hne, hBo, hBn, hrow, hmax, hhas⟩ := HH.out
  have hB := blk_lt HBX.out
  have hg := blk_lt HSK.out
  have hm := HMP.out.lt
  have hb12 : Below W.heap.size W w2 := (below_alloc (Below.refl W.heap.size W) _).trans (HX.out.2.2.2.mono (by simp))
  have hx1 : W.heap.size < gs := by have := HX.out.1; simp at this; omega
  have hsz : W.heap.size ≤ w2.heap.size := hb12.size
  have HR := Aside0.mk (show Rd Bo Bn w2 B g ml gs nn D c mw r from ⟨blk_b HBX.out hb12, blk_b HSK.out hb12, own_map_keep HMP.out (Keep.of_below (F := fun _ => False) hb12) id, HX.out.2.2.1, ⟨hne.1, hne.2.1, hne.2.2.1, hne.2.2.2.1, hne.2.2.2.2.1, hne.2.2.2.2.2, by omega, by omega⟩⟩)
  have HLT := Aside0.mk (show B < w2.heap.size ∧ g < w2.heap.size ∧ ml < w2.heap.size ∧ gs < w2.heap.size from ⟨by omega, by omega, by omega, blk_lt HX.out.2.2.1⟩)
  have HBL := Aside0.mk (show Bo < w2.heap.size from by omega)
  have fr_b : ∀ q, Fr1 Bo Bn W D q → Fr1 Bo Bn w2 D q := fun q h => by
    obtain ⟨win, rs, Ar, cr, v4, a1, a2, a3, a4, a5⟩ := h
    exact ⟨win, rs, Ar, cr, v4, a1, a2, a3, RecsAt.below a4 hb12, a5⟩
  have HG1 := Aside0.mk (fr_b 1 HF1.out)
  have HG3 := Aside0.mk (fr_b 3 HF3.out)
  have HS0 := Aside0.mk (show St Bo Bn w2.heap.size w2 w2 from ⟨Nat.le_refl _, fun _ _ _ _ _ h _ => h, fun k hr => by
    obtain ⟨n1, c1, e⟩ := hr
    rw [blk_b hrow hb12] at e
    injection e with e
    injection e with e _ _
    simp at e⟩)
  have HJ0 := Aside0.mk (HJ.out [] W w2 none H0.out (grown_of_below hb12 none) (by simp))
  clear hne hBo hBn hrow hmax hhas hB hg hm hx1 cb cg fr_b hb12
  have HSZ := Aside0.mk hsz
  clear hsz HH HF1 HF3 HMP H0 HBX HSK HX
  gi_loopg [14] 2 (fun kq v14 wr => ∃ pre : List FX, (v14 = .int .i64 0 ∧ kq = 2 ∧ pre.map (fun x => x.1.1) = [] ∨ v14 = .int .i64 1 ∧ kq = 1 ∧ pre.map (fun x => x.1.1) = [1] ∨ v14 = .int .i64 2 ∧ kq = 0 ∧ pre.map (fun x => x.1.1) = [1, 3]) ∧ Aside0 (J pre wr) ∧ Aside0 (St Bo Bn w2.heap.size w2 wr) ∧ Aside0 (W.heap.size ≤ wr.heap.size))
  case atStart => exact ⟨[], .inl ⟨rfl, rfl, rfl⟩, HJ0, HS0, HSZ⟩
  case round =>
    clear HJ0 HS0 HSZ
    obtain ⟨pre, (⟨rfl, rfl, hpm⟩ | ⟨rfl, rfl, hpm⟩ | ⟨rfl, rfl, hpm⟩), HJJ, HS, HSZ⟩ := hrel
    · have hS := HS.out
      have cb : World.cell? _ ⟨B, 0, none⟩ = some (.pointer (some ⟨g, 0, none⟩)) := blk_cell (hS.cells HR.out.bx (HLT.out.1) HR.out.ne.1 HR.out.ne.2.1) 0
      have cg : World.cell? _ ⟨g, 0, none⟩ = some (.map (some ml)) := blk_cell (hS.cells HR.out.sk (HLT.out.2.1) HR.out.ne.2.2.1 HR.out.ne.2.2.2.1) 0
      have cs : World.cell? _ ⟨gs, 0, none⟩ = some (.int .u64 1) := blk_cell (hS.cells HR.out.row (HLT.out.2.2.2) HR.out.ne.2.2.2.2.2.2.1 HR.out.ne.2.2.2.2.2.2.2) 0
      obtain ⟨win, rs, Ar, cr, v4, hat, hcr, hrl, hrec, hok⟩ := HG1.out
      have hlk : (Instr.lookup 51 (.map (some ml)) (.int .u64 1) false).run Tryz.prog wr = .ok (.agg #[.int .u64 1, .int .i64 win, .slice Ar rs.length cr, v4]) wr := by
        have h := look1v (hS.map HR.out.mp HLT.out.2.2.1 HR.out.ne.2.2.2.2.1 HR.out.ne.2.2.2.2.2.1) 1 (by decide)
        rw [hat] at h
        exact h
      have hf := f71
      have HC := Aside0.mk (fun (W' : World) (hb : Below W'.heap.size W' W') => hb)
      have HRC := Aside0.mk (hS.recs hrec (Nat.le_refl _) hok)
      have HLL := Aside0.mk (And.intro hcr hrl)
      have HPM := Aside0.mk hpm
      clear hS hat hcr hrl hrec hok hpm
      gi_wp2_with (first
        | (refine ⟨trivial, ?_⟩; gi_at_call 28; refine (callsIn_wide.2 (copied_calls 1 Ar cr win rs _ HRC.out HLL.out.1 HLL.out.2)).mono ?_; rintro e_ w3 ⟨A', c', rfl, q1, q2, q3, q4⟩; have HX3 := Aside0.mk (And.intro q1 (And.intro q2 (And.intro q3 q4))); clear q1 q2 q3 q4; have HJ3 := Aside0.mk (HJ.out pre _ _ none HJJ.out (grown_of_below HX3.out.2.2.2 none) (by simp)); have HS3 := Aside0.mk (HS.out.step HBL.out HX3.out.2.2.2); obtain ⟨fn, tmps, assign, body, hy, hR⟩ := HY.out pre (⟨1, by decide⟩, win, A', rs.length, c') w3 HJ3.out (by have h := congrArg List.length HPM.out; rw [List.length_map] at h; have h2 : pre.length = 0 := h; omega); dsimp only [encF] at hy))
      refine hR.mono ?_
      rintro e_ W3 (⟨rfl, hJ3, hk3⟩ | ⟨rfl, hJx3⟩)
      · have HA := Aside0.mk (And.intro hJ3 hk3)
        clear hJ3 hk3 hlk hy hR cb cg cs
        gi_wp2
        gi_roundg 1
        case rel => exact ⟨pre ++ [(⟨1, by decide⟩, win, A', rs.length, c')], .inr (.inl ⟨rfl, rfl, by rw [List.map_append, HPM.out]; rfl⟩), ⟨HA.out.1⟩, ⟨HS3.out.kq HA.out.2⟩, ⟨Nat.le_trans HSZ.out (Nat.le_trans HX3.out.2.2.2.size HA.out.2.size)⟩⟩
        case measure => omega
      · have HA := Aside0.mk hJx3
        clear hJx3 hlk hy hR cb cg cs
        gi_wp2
        refine bodyPost_ret (results_none rfl _ _ _) rfl ?_
        exact ⟨⟨_, rfl⟩, .inr ⟨_, trivial, HA.out⟩⟩
    · have hS := HS.out
      have cb : World.cell? _ ⟨B, 0, none⟩ = some (.pointer (some ⟨g, 0, none⟩)) := blk_cell (hS.cells HR.out.bx (HLT.out.1) HR.out.ne.1 HR.out.ne.2.1) 0
      have cg : World.cell? _ ⟨g, 0, none⟩ = some (.map (some ml)) := blk_cell (hS.cells HR.out.sk (HLT.out.2.1) HR.out.ne.2.2.1 HR.out.ne.2.2.2.1) 0
      have cs : World.cell? _ ⟨gs, 1, none⟩ = some (.int .u64 3) := blk_cell (hS.cells HR.out.row (HLT.out.2.2.2) HR.out.ne.2.2.2.2.2.2.1 HR.out.ne.2.2.2.2.2.2.2) 1
      obtain ⟨win, rs, Ar, cr, v4, hat, hcr, hrl, hrec, hok⟩ := HG3.out
      have hlk : (Instr.lookup 51 (.map (some ml)) (.int .u64 3) false).run Tryz.prog wr = .ok (.agg #[.int .u64 3, .int .i64 win, .slice Ar rs.length cr, v4]) wr := by
        have h := look1v (hS.map HR.out.mp HLT.out.2.2.1 HR.out.ne.2.2.2.2.1 HR.out.ne.2.2.2.2.2.1) 3 (by decide)
        rw [hat] at h
        exact h
      have hf := f71
      have HC := Aside0.mk (fun (W' : World) (hb : Below W'.heap.size W' W') => hb)
      have HRC := Aside0.mk (hS.recs hrec (Nat.le_refl _) hok)
      have HLL := Aside0.mk (And.intro hcr hrl)
      have HPM := Aside0.mk hpm
      clear hS hat hcr hrl hrec hok hpm
      gi_wp2_with (first
        | (refine ⟨trivial, ?_⟩; gi_at_call 28; refine (callsIn_wide.2 (copied_calls 3 Ar cr win rs _ HRC.out HLL.out.1 HLL.out.2)).mono ?_; rintro e_ w3 ⟨A', c', rfl, q1, q2, q3, q4⟩; have HX3 := Aside0.mk (And.intro q1 (And.intro q2 (And.intro q3 q4))); clear q1 q2 q3 q4; have HJ3 := Aside0.mk (HJ.out pre _ _ none HJJ.out (grown_of_below HX3.out.2.2.2 none) (by simp)); have HS3 := Aside0.mk (HS.out.step HBL.out HX3.out.2.2.2); obtain ⟨fn, tmps, assign, body, hy, hR⟩ := HY.out pre (⟨3, by decide⟩, win, A', rs.length, c') w3 HJ3.out (by have h := congrArg List.length HPM.out; rw [List.length_map] at h; have h2 : pre.length = 1 := h; omega); dsimp only [encF] at hy))
      refine hR.mono ?_
      rintro e_ W3 (⟨rfl, hJ3, hk3⟩ | ⟨rfl, hJx3⟩)
      · have HA := Aside0.mk (And.intro hJ3 hk3)
        clear hJ3 hk3 hlk hy hR cb cg cs
        gi_wp2
        gi_roundg 0
        case rel => exact ⟨pre ++ [(⟨3, by decide⟩, win, A', rs.length, c')], .inr (.inr ⟨rfl, rfl, by rw [List.map_append, HPM.out]; rfl⟩), ⟨HA.out.1⟩, ⟨HS3.out.kq HA.out.2⟩, ⟨Nat.le_trans HSZ.out (Nat.le_trans HX3.out.2.2.2.size HA.out.2.size)⟩⟩
        case measure => omega
      · have HA := Aside0.mk hJx3
        clear hJx3 hlk hy hR cb cg cs
        gi_wp2
        refine bodyPost_ret (results_none rfl _ _ _) rfl ?_
        exact ⟨⟨_, rfl⟩, .inr ⟨_, trivial, HA.out⟩⟩
    · gi_wp2
      go_end0
      exact ⟨⟨_, rfl⟩, .inl ⟨pre, hpm, HJJ.out⟩⟩
theorem all_stops (n : Nat) (hn : 1 ≤ n) (Bo Bn B g ml mw nn : Nat) (c : List Int) (D : DataW Value) (w : World) (hbx : w.heap[B]? = some (.cells #[.pointer (some ⟨g, 0, none⟩)] 25 (0, 0))) (hsk : w.heap[g]? = some (.cells (skC (some ml) (some mw) c) 54 (0, 0))) (hmp : w.ownsMap Tryz.prog 40 kR ml nn D)
    (hne : B ≠ Bo ∧ B ≠ Bn ∧ g ≠ Bo ∧ g ≠ Bn ∧ ml ≠ Bo ∧ ml ≠ Bn) (hBn : Bn < w.heap.size) (hrow : w.heap[Bo]? = some (.cells #[.slice none 0 0] 61 (0, 0))) (hmax : Maps.size D ≤ 1000000) (hhas : ∀ x, has D (.int .u64 x) = true ↔ x = 1 ∨ x = 3)
    (h1 : Fr1 Bo Bn w D 1) (h3 : Fr1 Bo Bn w D 3) :
    SeqStopsK Fence.wide n Tryz.prog 30 #[.pointer (some ⟨B, 0, none⟩)] encF (Kq Bo Bn) (fun ys => ys.map (fun x => x.1.1) = [1, 3]) (fun _ => True) 2 w := fun l J Jx W hW hJ _ hY h0 => by
  have fr_b : ∀ q, Fr1 Bo Bn w D q → Fr1 Bo Bn W D q := fun q h => by
    obtain ⟨win, rs, Ar, cr, v4, a1, a2, a3, a4, a5⟩ := h
    exact ⟨win, rs, Ar, cr, v4, a1, a2, a3, RecsAt.below a4 hW, a5⟩
  exact all1_in n hn l Bo Bn B g ml mw nn c D J Jx hY W hJ (blk_b hbx hW) (blk_b hsk hW) (own_map_keep hmp (Keep.of_below (F := fun _ => False) hW) id) hne (Nat.lt_of_lt_of_le (blk_lt hrow) hW.size) (Nat.lt_of_lt_of_le hBn hW.size) (blk_b hrow hW) hmax hhas (fr_b 1 h1) (fr_b 3 h3) h0
end Go.Proofs.YtpihpkphhkcdlaaGreatDoor.As
namespace Go.Proofs.YtpihpkphhkcdlaaGreatDoor.Mi
open Go.RowKit Go.Maps Go.Shelf Go.Proofs.YtpihpkphhkcdlaaGreatDoorW.PrintWords Go.Proofs.YtpihpkphhkcdlaaGreatDoorW.PrintLast Go.Proofs.YtpihpkphhkcdlaaGreatDoor.Tab Go.Proofs.YtpihpkphhkcdlaaGreatDoor.Kp Go.Proofs.YtpihpkphhkcdlaaGreatDoor.Pd Go.Proofs.YtpihpkphhkcdlaaGreatDoor.Fr Go.Proofs.YtpihpkphhkcdlaaGreatDoor.May Go.Proofs.YtpihpkphhkcdlaaGreatDoor.De Go.Proofs.YtpihpkphhkcdlaaGreatDoor.Sk Go.Proofs.YtpihpkphhkcdlaaGreatDoor.Lk Go.Proofs.YtpihpkphhkcdlaaGreatDoor.So Go.Proofs.YtpihpkphhkcdlaaGreatDoor.Ku Go.Proofs.YtpihpkphhkcdlaaGreatDoor.Cr Go.Proofs.YtpihpkphhkcdlaaGreatDoor.Sd Go.Proofs.YtpihpkphhkcdlaaGreatDoor.Cp Go.Proofs.YtpihpkphhkcdlaaGreatDoor.Al Go.Proofs.YtpihpkphhkcdlaaGreatDoor.As
set_option linter.unusedVariables false
set_option linter.unusedSimpArgs false
attribute [local go_sem] Oper.semAt_some
theorem wpListIn_store_row {F : Fence} {nF : Nat} {P : Program} {ops : Array Oper} {rest : List Oper} {o : Oper} {a : Act} {w : World} {Q : Exit → Act → World → Prop} (hgd : o.guard = none) (ty : TypeId) (x y : Operand) (ho : o.op = .store ty x y)
    (g : Nat) (cells : Array Value) (hx : a.eval x = .pointer (some ⟨g, 0, none⟩)) (hy : a.eval y = .agg cells)
    (t : TypeId) (old : Array Value) (hg : w.heap[g]? = some (.cells old t (0, 0))) (hi : (P.info? ty).map (·.size) = some cells.size)
    (hold : old.size = cells.size) (h1 : cells.all (·.oneCell') = true)
    (h : wpListIn F nF P ops Q rest (a.put o.dst undef) (w.setRow g cells)) : wpListIn F nF P ops Q (o :: rest) a w := by
  refine wpListIn_plain hgd fun K' hK' => ?_
  unfold Oper.wpIn
  refine ⟨by simp [Oper.about, ho], ?_⟩
  rw [Oper.semAt_plain F _ _ (by rw [ho]; intro c hc'; cases hc')]
  unfold execOp
  simp only [ho, hx, hy, Instr.storeAt, Instr.sureAddr, Sem.run_bind, Sem.run_pure, Result.andThen_ok, run_storeVar_row w g t ty old cells hg hi hold h1]
  exact hK' _ _ h
theorem has_nat {w : World} {b n : Nat} {D : DataW Value} (h : w.ownsMap Tryz.prog 40 kR b n D) (x : Int) (hx : has D (.int .u64 x) = true) : 0 ≤ x := by
  obtain ⟨es, rfl, hko⟩ := h.keysOf
  rw [has_eq, List.any_eq_true] at hx
  obtain ⟨p, hp, hs⟩ := hx
  obtain ⟨v, hv⟩ := hko p hp
  obtain ⟨y, _, e, hw⟩ := Maps.keyOf_int_inv Tryz.underlying40 hv
  rw [e] at hs
  have hxy : y = x := by simpa [Lit.sameKey] using hs
  subst hxy
  unfold Lit.wf at hw
  simp [IntKind.min, IntKind.max, IntKind.bits, IntKind.signed] at hw
  omega
theorem Kq.of_below {Bo Bn : Nat} {A B : World} (hBo : Bo < A.heap.size) (h : Below A.heap.size A B) : Kq Bo Bn A B :=
  ⟨h.size, fun k o hk _ _ _ _ => blk_b hk h, fun k hr => by
    obtain ⟨n, c, e⟩ := hr
    exact .inl ⟨k, ⟨n, c, (h.block Bo hBo).symm.trans e⟩, Nat.le_refl _⟩⟩
theorem kf_below {b : Nat} {A B : World} (h : Below A.heap.size A B) : KeepsFrom b A B := (KeepsOthers.of_grownBy (grown_of_below h none) (fun _ _ e => by cases e)).from b
theorem row_base {W : World} {base k : Nat} {v : Value} {xs : List Value} (h : W.ownsRow base 40 1 v k xs) (hb : base ≤ W.heap.size) : ∃ b', W.ownsRow b' 40 1 v k xs ∧ base ≤ b' ∧ b' ≤ W.heap.size ∧ ∀ g', b' ≤ g' → (∃ g n c, v = .slice (some ⟨g, 0, none⟩) n c ∧ g ≤ g') ∨ W.heap.size ≤ g' := by
  rcases h.2 with ⟨rfl, h0⟩ | ⟨g, cap, cur, rfl, hg, hbk, r1, r2, r3, r4⟩
  · exact ⟨W.heap.size, ⟨h.1, .inl ⟨rfl, h0⟩⟩, hb, Nat.le_refl _, fun g' hg => .inr hg⟩
  · exact ⟨g, ⟨h.1, .inr ⟨g, cap, cur, rfl, Nat.le_refl _, hbk, r1, r2, r3, r4⟩⟩, hg, Nat.le_of_lt (blk_lt hbk), fun g' hg' => .inl ⟨g, _, _, rfl, hg'⟩⟩
theorem res61 (tmps : Array Value) (W : World) (B : Nat) (v : Value) (hp : tmps.getD 2 undef = .pointer (some ⟨B, 0, none⟩)) (hc : W.cell? ⟨B, 0, none⟩ = some v) : (results Tryz.f19 tmps).run Tryz.prog W = .ok v W := by
  have hp' : tmps[2]?.getD undef = .pointer (some ⟨B, 0, none⟩) := by simpa using hp
  have u := run_underlying Tryz.underlying61 W
  simp [results, show Tryz.f19.results = #[.cell 2 61] from rfl, hp', asAddr, loadVar, isAgg, go_sem, u, hc]
/-- What one frame adds. -/
def miss1 (p : Nat × List Nat) (s : Nat) : Nat × List Nat := (s + 1, p.2 ++ (List.range (s - p.1)).map (p.1 + ·))
def missN (pre : List FX) : Nat × List Nat := pre.foldl (fun p x => miss1 p x.1.1.toNat) (1, [])
theorem missN_snoc (pre : List FX) (x : FX) : missN (pre ++ [x]) = miss1 (missN pre) x.1.1.toNat := by unfold missN; rw [List.foldl_append]; rfl
theorem missN_end (ys : List FX) (h : ys.map (fun x => x.1.1) = [1, 3]) : missN ys = (4, [2]) := by
  cases ys with
  | nil => simp at h
  | cons a t =>
    cases t with
    | nil => simp at h
    | cons b t =>
      cases t with
      | cons d t => simp at h
      | nil =>
        simp at h
        unfold missN
        simp [h.1, h.2, miss1]
/-- Between two frames. -/
def Im (w : World) (pre : List FX) (W : World) : Prop :=
  (∃ v p base, Boxed W w.heap.size 61 v ∧ Boxed W (w.heap.size + 1) 40 (.int .u64 (p.1 : Nat)) ∧ W.ownsRow base 40 1 v p.2.length (p.2.map fun m : Nat => Value.int .u64 m) ∧ w.heap.size + 1 < base ∧ base ≤ W.heap.size ∧ p = missN pre ∧ p.1 ≤ 4 ∧ p.2.length ≤ 3 * pre.length) ∧ Below w.heap.size w W
theorem Im.own (w : World) (b : Nat) (hb : w.heap.size ≤ b) : OwnFrom b (Im w) := fun s A B row hs hg hr => by
  obtain ⟨⟨v, p, base, h1, h2, h3, h4, h5, h6⟩, hB⟩ := hs
  have hnc : ∀ j cs t fr, A.heap[j]? = some (.cells cs t fr) → some j ≠ row := fun j cs t fr hj e => by
    obtain ⟨_, o, ho, hc⟩ := hr j e.symm
    rw [hj] at ho
    injection ho with ho
    subst ho
    cases hc
  refine ⟨⟨v, p, base, h1.kept hg (hnc _ _ _ _ h1), h2.kept hg (hnc _ _ _ _ h2), h3.kept hg ?_, h4, Nat.le_trans h5 hg.size, h6⟩, ownFrom_below (β := Unit) (Nat.le_refl _) hb () A B row hB hg hr⟩
  rcases h3.2 with ⟨rfl, _⟩ | ⟨g, cap, cur, rfl, _, hbk, _⟩
  · exact .inl rfl
  · exact .inr fun e => hnc g _ _ _ hbk (by rw [← e]; rfl)
/-- Within a frame's round, k numbers on. -/
structure Il (w W : World) (Bx : Nat) (cs : Array Value) (B2 : Nat) (p : Nat × List Nat) (k : Nat) (v : Value) (wr : World) : Prop where
  box : Boxed wr w.heap.size 61 v
  nx : Boxed wr (w.heap.size + 1) 40 (.int .u64 ((p.1 + k : Nat) : Int))
  row : ∃ base, wr.ownsRow base 40 1 v (p.2.length + k) ((p.2 ++ (List.range k).map (p.1 + ·)).map fun m : Nat => Value.int .u64 m) ∧ w.heap.size + 1 < base ∧ base ≤ wr.heap.size
  bx : wr.heap[Bx]? = some (.cells cs 44 (0, 0))
  kq : Kq w.heap.size (w.heap.size + 1) W wr
  kf : KeepsFrom B2 W wr
  be : Below w.heap.size w wr
theorem Il.step {w W wr w1 : World} {Bx : Nat} {cs : Array Value} {B2 : Nat} {p : Nat × List Nat} {k : Nat} {v : Value} {b' g' cap' : Nat} {tmp : Obj} (h : Il w W Bx cs B2 p k v wr) (hBx : w.heap.size + 1 < Bx)
    (hr' : wr.ownsRow b' 40 1 v (p.2.length + k) ((p.2 ++ (List.range k).map (p.1 + ·)).map fun m : Nat => Value.int .u64 m)) (hb1 : w.heap.size + 1 < b') (hb2 : b' ≤ wr.heap.size)
    (hfresh : ∀ g', b' ≤ g' → (∃ g n c, v = .slice (some ⟨g, 0, none⟩) n c ∧ g ≤ g') ∨ wr.heap.size ≤ g')
    (hown' : w1.ownsRow b' 40 1 (.slice (some ⟨g', 0, none⟩) (p.2.length + k + 1) cap') (p.2.length + k + 1) (((p.2 ++ (List.range k).map (p.1 + ·)).map fun m : Nat => Value.int .u64 m) ++ [.int .u64 ((p.1 + k : Nat) : Int)])) (hgrow : (wr.alloc tmp).grownBy w1 v.ownBlock) :
    Boxed w1 w.heap.size 61 v ∧ Boxed (w1.setCell ⟨w.heap.size, 0, none⟩ (.slice (some ⟨g', 0, none⟩) (p.2.length + k + 1) cap')) (w.heap.size + 1) 40 (.int .u64 ((p.1 + k : Nat) : Int)) ∧ Il w W Bx cs B2 p (k + 1) (.slice (some ⟨g', 0, none⟩) (p.2.length + k + 1) cap') ((w1.setCell ⟨w.heap.size, 0, none⟩ (.slice (some ⟨g', 0, none⟩) (p.2.length + k + 1) cap')).setCell ⟨w.heap.size + 1, 0, none⟩ (.int .u64 ((p.1 + (k + 1) : Nat) : Int))) := by
  have hsz := h.be.size
  obtain ⟨hv1, hv2, hr2, hk2, hbl⟩ := h.box.appended (by decide) (own_less hr' (show w.heap.size ≤ b' by omega)) hsz (Nat.le_refl _) (own_less hown' (show w.heap.size ≤ b' by omega)) hgrow
  have hnr : ∀ j, j < b' → some j ≠ v.ownBlock := fun j hj e => by have := own_base hr' j e.symm; omega
  have hn1 : Boxed w1 (w.heap.size + 1) 40 (.int .u64 ((p.1 + k : Nat) : Int)) := (h.nx.alloc tmp).kept hgrow (hnr _ hb1)
  have hn2 := hn1.other (B' := w.heap.size) (by omega) (.slice (some ⟨g', 0, none⟩) (p.2.length + k + 1) cap')
  have hbx1 : w1.heap[Bx]? = some (.cells cs 44 (0, 0)) := by
    refine (hgrow.block Bx (by have := blk_lt h.bx; simp; omega) (fun e => ?_)).trans ((Below.heap_alloc wr tmp Bx (blk_lt h.bx)).trans h.bx)
    obtain ⟨cs', hc⟩ := own_typed hr' _ e.symm
    rw [h.bx] at hc
    injection hc with hc
    injection hc with _ ht
    exact absurd ht (by decide)
  have hnn : ∀ cur, w1.heap[w.heap.size]? ≠ some (.cells cur 40 (0, 0)) := fun cur e => by rw [hv1] at e; injection e with e; injection e with _ e; exact absurd e (by decide)
  refine ⟨hv1, hn2, ⟨hv2.other (B' := w.heap.size + 1) (by omega) _, hn2.set _, ?_, ?_, ?_, ?_, ?_⟩⟩
  · refine ⟨b', ?_, hb1, ?_⟩
    · have e1 := hown'.kept (grownBy_setCell' w1 w.heap.size (.slice (some ⟨g', 0, none⟩) (p.2.length + k + 1) cap')) (.inr (hv1.not_row (by decide) hown').symm)
      have e2 := e1.kept (grownBy_setCell' _ (w.heap.size + 1) (.int .u64 ((p.1 + (k + 1) : Nat) : Int))) (.inr (fun e => by have := own_base hown' _ e; omega))
      rw [show ((p.2 ++ (List.range (k + 1)).map (p.1 + ·)).map fun m : Nat => Value.int .u64 m) = ((p.2 ++ (List.range k).map (p.1 + ·)).map fun m : Nat => Value.int .u64 m) ++ [.int .u64 ((p.1 + k : Nat) : Int)] from by simp [List.range_succ]]
      exact e2
    · have := hbl.size
      simp at this ⊢
      omega
  · exact (Below.heap_setCell _ ⟨w.heap.size + 1, 0, none⟩ _ Bx (by simp; omega)).trans ((Below.heap_setCell w1 ⟨w.heap.size, 0, none⟩ _ Bx (by simp; omega)).trans hbx1)
  · refine h.kq.trans ⟨?_, ?_, ?_⟩
    · have := hbl.size
      simp at this ⊢
      omega
    · intro j o hj _ h1 h2 h3
      have hne : some j ≠ v.ownBlock := fun e => by
        rcases hr'.2 with ⟨e2, _⟩ | ⟨g, cap, cur, e2, _⟩
        · rw [e2] at e; cases e
        · have := h3 g ⟨_, _, by rw [← e2]; exact h.box⟩
          rw [e2] at e
          have e3 : j = g := by simpa [Value.ownBlock] using e
          omega
      have hlt := blk_lt hj
      exact (Below.heap_setCell _ ⟨w.heap.size + 1, 0, none⟩ _ j h2).trans ((Below.heap_setCell w1 ⟨w.heap.size, 0, none⟩ _ j h1).trans ((hgrow.block j (by simp; omega) hne).trans ((Below.heap_alloc wr tmp j hlt).trans hj)))
    · rintro j ⟨n, c, e⟩
      rw [hv2.other (B' := w.heap.size + 1) (by omega) _] at e
      injection e with e
      injection e with e _ _
      have e4 : g' = j := by simpa using (by simpa using e : _ ∧ _).1
      subst e4
      rcases hfresh g' (own_base hown' g' rfl) with ⟨g, n, c, e5, hle⟩ | hle
      · exact .inl ⟨g, ⟨n, c, by rw [← e5]; exact h.box⟩, hle⟩
      · exact .inr hle
  · exact h.kf.trans ((hk2.trans (KeepsOthers.setCell _ _ _)).from _)
  · exact (h.be.trans hbl).setCell (p := ⟨w.heap.size + 1, 0, none⟩) (by simp) _
theorem Il.done {w W wr : World} {Bx : Nat} {cs : Array Value} {B2 : Nat} {p : Nat × List Nat} {k : Nat} {v : Value} (h : Il w W Bx cs B2 p k v wr) (u : Int) :
    KeepsFrom B2 W (wr.setCell ⟨w.heap.size + 1, 0, none⟩ (.int .u64 u)) ∧ Kq w.heap.size (w.heap.size + 1) W (wr.setCell ⟨w.heap.size + 1, 0, none⟩ (.int .u64 u)) ∧ Boxed (wr.setCell ⟨w.heap.size + 1, 0, none⟩ (.int .u64 u)) w.heap.size 61 v ∧ Boxed (wr.setCell ⟨w.heap.size + 1, 0, none⟩ (.int .u64 u)) (w.heap.size + 1) 40 (.int .u64 u) ∧
      (∃ base, (wr.setCell ⟨w.heap.size + 1, 0, none⟩ (.int .u64 u)).ownsRow base 40 1 v (p.2.length + k) ((p.2 ++ (List.range k).map (p.1 + ·)).map fun m : Nat => Value.int .u64 m) ∧ w.heap.size + 1 < base ∧ base ≤ (wr.setCell ⟨w.heap.size + 1, 0, none⟩ (.int .u64 u)).heap.size) ∧ Below w.heap.size w (wr.setCell ⟨w.heap.size + 1, 0, none⟩ (.int .u64 u)) := by
  obtain ⟨base, hr, hb1, hb2⟩ := h.row
  refine ⟨h.kf.trans ((KeepsOthers.setCell _ _ _).from _), h.kq.trans ⟨by simp, fun j o hj _ _ h2 _ => (Below.heap_setCell wr ⟨w.heap.size + 1, 0, none⟩ _ j h2).trans hj, ?_⟩, h.box.other (by omega) _, h.nx.set _, ⟨base, hr.kept (grownBy_setCell' wr (w.heap.size + 1) (.int .u64 u)) (.inr (fun e => by have := own_base hr _ e; omega)), hb1, by simpa using hb2⟩, h.be.setCell (p := ⟨w.heap.size + 1, 0, none⟩) (by simp) _⟩
  rintro j ⟨n, c, e⟩
  exact .inl ⟨j, ⟨n, c, (Below.heap_setCell wr ⟨w.heap.size + 1, 0, none⟩ (.int .u64 u) w.heap.size (by simp)).symm.trans e⟩, Nat.le_refl _⟩
set_option maxHeartbeats 16000000 in
set_option maxRecDepth 1000000 in
theorem missing_calls (ok : Nat → Prop) (g ml mw : Nat) (k : K) (c : List Int) (w : World) (hS : IsS w ok g ml mw k c) (hk : k.length ≤ 1000000) (hq : ∀ q : Nat, (k.any fun e => decide (e.1.seq = q)) = true ↔ q = 1 ∨ q = 3) (hrl : ∀ e ∈ k, e.1.recs.length ≤ 1000000) :
    Calls Tryz.prog 19 #[.pointer (some ⟨g, 0, none⟩)] w fun e w' => ∃ gb cap r, e = .returned (.slice (some ⟨gb, 0, none⟩) 1 cap) ∧ w'.heap[gb]? = some (.cells (⟨Value.int .u64 2 :: r⟩ : Array Value) 40 (0, 0)) ∧ Below w.heap.size w w' := by
  refine (callsIn_wide (n := 9)).1 ?_
  obtain ⟨W1, hW1⟩ : ∃ W1, W1 = (w.alloc (.cells #[.slice none 0 0] 61)).alloc (.cells #[.int .u64 1] 40) := ⟨_, rfl⟩
  have hB1 : Below w.heap.size w W1 := by rw [hW1]; exact below_alloc (below_alloc (Below.refl _ _) _) _
  have hs1 : W1.heap.size = w.heap.size + 1 + 1 := by rw [hW1]; simp
  have hbo : W1.heap[w.heap.size]? = some (.cells #[.slice none 0 0] 61 (0, 0)) := by rw [hW1]; exact blk_b (blk_new w _) (below_alloc (Below.refl _ _) _)
  have hbn : W1.heap[w.heap.size + 1]? = some (.cells #[.int .u64 1] 40 (0, 0)) := by
    rw [hW1]
    have h := blk_new (w.alloc (.cells #[.slice none 0 0] 61)) (.cells #[.int .u64 1] 40)
    rw [World.size_alloc] at h
    exact h
  have hS2 : IsS w (fun j => ok j ∧ j < w.heap.size) g ml mw k c := by
    obtain ⟨b1, ⟨D, D2, m1, m2, sy⟩, b3, b4⟩ := hS
    exact ⟨b1, ⟨D, D2, m1, m2, sy.low⟩, b3, fun h => b4.1 h.1, fun h => b4.2.1 h.1, fun h => b4.2.2 h.1⟩
  have HA := Aside0.mk (all_calls _ g ml mw k c W1 (hS2.below hB1) hk)
  have HW1 := Aside0.mk (And.intro hB1 (And.intro hs1 (And.intro hbo hbn)))
  have HQ := Aside0.mk hq
  have HRL := Aside0.mk hrl
  have HK := Aside0.mk hk
  clear hB1 hs1 hbo hbn hq hrl hk hS hS2
  refine callsIn_of_wp_marks Tryz.func19 rfl trivial ?_ rfl
  simp only [Tryz.ntmps19, List.size_toArray, List.length_cons, List.length_nil, Nat.reduceAdd, Nat.reduceSub, Array.replicate_succ, Array.replicate_zero, List.push_toArray, List.append_toArray, List.nil_append, List.cons_append]
  gi_wp2_with (first
    | (refine ⟨trivial, ?_⟩; gi_at_call 16; rw [← hW1]; refine (callsIn_wide.2 HA.out).mono ?_; rintro e_ w2 ⟨B, rfl, q1, q2, q3, q4⟩; have HX := Aside0.mk (And.intro q1 (And.intro q2 (And.intro q3 q4))); clear q1 q2 q3 q4))
  obtain ⟨hB1, hs1, hbo, hbn⟩ := HW1.out
  obtain ⟨q1, q2, q3, q4⟩ := HX.out
  have hB2 : Below w.heap.size w w2 := hB1.trans (q4.mono hB1.size)
  obtain ⟨sblk, ⟨D, D2, m1, m2, sy⟩, _, _⟩ := q3
  have hsz2 : W1.heap.size ≤ w2.heap.size := q4.size
  have bO : Boxed w2 w.heap.size 61 (.slice none 0 0) := blk_b hbo q4
  have bN : Boxed w2 (w.heap.size + 1) 40 (.int .u64 1) := blk_b hbn q4
  have hhas : ∀ x, has D (.int .u64 x) = true ↔ x = 1 ∨ x = 3 := fun x => by
    constructor
    · intro h
      have h0 := has_nat m1 x h
      obtain ⟨q, rfl⟩ : ∃ q : Nat, x = (q : Int) := ⟨x.toNat, by omega⟩
      have h2 := (sy.has1 q).symm.trans h
      rcases (HQ.out q).1 h2 with rfl | rfl
      · exact .inl rfl
      · exact .inr rfl
    · rintro (rfl | rfl)
      · exact (sy.has1 1).trans ((HQ.out 1).2 (.inl rfl))
      · exact (sy.has1 3).trans ((HQ.out 3).2 (.inr rfl))
  have hfr : ∀ q : Nat, (q = 1 ∨ q = 3) → Fr1 w.heap.size (w.heap.size + 1) w2 D q := fun q hq => by
    obtain ⟨e, he, hs⟩ := List.any_eq_true.1 ((HQ.out q).2 hq)
    have hs' := of_decide_eq_true hs
    obtain ⟨v, hat, Ar, cr, Ab, cb, rfl, h1, h2, h3, h4, h5, h6⟩ := sy.val1 e he
    rw [hs'] at hat
    exact ⟨e.1.win, e.1.recs, Ar, cr, _, hat, h1, HRL.out e he, h2, fun ad ea hp => by have := (h5 ad ea hp).1.2; omega⟩
  have HSZ := Aside0.mk (show (Tryz.prog.info? 44).map (·.size) = some 3 from by kernel_rfl)
  obtain ⟨i0, hi, hz0, hz1, hz2⟩ := info_parts info40
  have HI40 := Aside0.mk (And.intro hi (And.intro hz0 (And.intro hz1 hz2)))
  clear hi hz0 hz1 hz2
  refine wpIn_rangeFunc_ownH rfl (by decide) (gf := 30) (lb := #[.pointer (some ⟨B, 0, none⟩)]) rfl trivial (enters_of Tryz.func30 (by kernel_rfl) rfl)
    (all_stops 8 (by decide) w.heap.size (w.heap.size + 1) B (W1.heap.size + 1 + 1) W1.heap.size (W1.heap.size + 1) k.length c D w2 q1 sblk m1 (by omega) (by omega) bO (by have := sy.size1; have := HK.out; omega) hhas (hfr 1 (.inl rfl)) (hfr 3 (.inr rfl)))
    Kq.trans (Kq.put (by omega)) (Below.refl _ _) (fun _ => rfl)
    (Im w) (fun _ _ _ => False) (Im.own w _ (by omega)) (fun _ _ _ _ _ hs _ _ => hs)
    ⟨⟨_, (1, []), w2.heap.size, bO, bN, World.ownsRow_nil _ _ _ _, by omega, Nat.le_refl _, rfl, by decide, by simp⟩, hB2⟩
    (fun x a' W => ∃ Bx, w.heap.size + 1 < Bx ∧ W.heap[Bx]? = some (.cells #[.int .u64 x.1.1, .int .i64 x.2.1, .slice x.2.2.1 x.2.2.2.1 x.2.2.2.2] 44 (0, 0)) ∧ a' = { tmps := #[.pointer (some ⟨g, 0, none⟩), undef, .pointer (some ⟨w.heap.size, 0, none⟩), .pointer (some ⟨w.heap.size + 1, 0, none⟩), .pointer (some ⟨Bx, 0, none⟩), .pointer (some ⟨g, 0, none⟩), .func (.func 30) #[] #[.pointer (some ⟨B, 0, none⟩)], .agg #[.int .u64 x.1.1, .int .i64 x.2.1, .slice x.2.2.1 x.2.2.2.1 x.2.2.2.2], undef, undef, undef, undef, undef, undef, undef, undef, undef, undef, undef, undef, undef, undef, undef, undef, undef, undef, undef], defers := [] })
    (fun x a' _ X Y row hs hg hr => by
      obtain ⟨Bx, h1, h2, h3⟩ := hs
      refine ⟨Bx, h1, (hg.block Bx (blk_lt h2) (fun e => ?_)).trans h2, h3⟩
      obtain ⟨_, o, ho, hc⟩ := hr Bx e.symm
      rw [h2] at ho
      injection ho with ho
      subst ho
      cases hc)
    ?assign ?body ?done ?stop
  case assign =>
    rintro l pre x W K hi hK
    dsimp only [encF]
    have HON := Aside0.mk (show (#[.int .u64 x.1.1, .int .i64 x.2.1, .slice x.2.2.1 x.2.2.2.1 x.2.2.2.2] : Array Value).all (·.oneCell') = true from by simp [Value.oneCell'])
    gi_wp2_with (refine wpListIn_store_row rfl 44 (.tmp 4) (.tmp 7) rfl W.heap.size #[.int .u64 x.1.1, .int .i64 x.2.1, .slice x.2.2.1 x.2.2.2.1 x.2.2.2.2] rfl rfl 44 #[.int .u64 0, .int .i64 0, .slice none 0 0] (blk_new W _) HSZ.out rfl HON.out ?_)
    have hb : Below W.heap.size W ((W.alloc (.cells #[.int .u64 0, .int .i64 0, .slice none 0 0] 44)).setRow W.heap.size #[.int .u64 x.1.1, .int .i64 x.2.1, .slice x.2.2.1 x.2.2.2.1 x.2.2.2.2]) := below_setRow (below_alloc (Below.refl W.heap.size W) _) (Nat.le_refl _) _
    try simp only [Exit.then, Act.put, List.setIfInBounds_toArray, List.set_cons_zero, List.set_cons_succ]
    obtain ⟨⟨v, p, base, h1, h2, h3, h4, h5, h6⟩, hB⟩ := hi
    exact hK _ _ (kf_below hb) (Kq.of_below h1.lt hb) (Im.own w w.heap.size (Nat.le_refl _) pre W _ none ⟨⟨v, p, base, h1, h2, h3, h4, h5, h6⟩, hB⟩ (grown_of_below hb none) (by simp)) ⟨W.heap.size, h2.lt, setRow_heap _ W.heap.size _ #[.int .u64 x.1.1, .int .i64 x.2.1, .slice x.2.2.1 x.2.2.2.1 x.2.2.2.2] 44 (0, 0) (blk_new W _), rfl⟩
  case body =>
    rintro l pre x a' W hl ⟨r0, hr0⟩ hI ⟨Bx, hBx, hbx, rfl⟩ hlt
    obtain ⟨⟨v, p, base, h1, h2, h3, h4, h5, hp, hp4, hp3⟩, hB⟩ := hI
    obtain ⟨s, hs⟩ : ∃ s : Nat, x.1.1 = s := ⟨x.1.1.toNat, by have := x.1.2.1; omega⟩
    have hs3 : s ≤ 3 := by have := x.1.2.2; omega
    have HM := Aside0.mk (And.intro hp (And.intro hp4 (And.intro hp3 (And.intro hlt (And.intro hs hs3)))))
    have HBB := Aside0.mk (And.intro hBx hB)
    rw [hs] at hbx ⊢
    clear hB1 hbo hbn hB2 sblk m1 m2 sy hsz2 bO bN hhas hfr
    have HI := Aside0.mk (show Il w W Bx #[.int .u64 s, .int .i64 x.2.1, .slice x.2.2.1 x.2.2.2.1 x.2.2.2.2] w2.heap.size p 0 v W from ⟨h1, h2, ⟨base, by simpa using h3, h4, h5⟩, hbx, Kq.of_below h1.lt (Below.refl _ _), KeepsFrom.refl _ _, hB⟩)
    clear h1 h2 h3 h4 h5 hp hp4 hp3 hB hBx hbx hs hs3 hlt
    gi_wp2
    gi_loopg [] (s - p.1) (fun kq wr => ∃ (k1 : Nat) (v : Value), k1 + kq = s - p.1 ∧ Aside0 (Il w W Bx #[.int .u64 s, .int .i64 x.2.1, .slice x.2.2.1 x.2.2.2.1 x.2.2.2.2] w2.heap.size p k1 v wr))
    case atStart => exact ⟨0, v, by omega, HI⟩
    case round =>
      clear HI
      obtain ⟨k1, v1, hkq, HL⟩ := hrel
      obtain ⟨nx, hnx⟩ : ∃ nx, nx = p.1 + k1 := ⟨_, rfl⟩
      obtain ⟨A1, c1, rfl⟩ : ∃ A1 c1, v1 = .slice A1 ((p.2.length + k1 : Nat) : Nat) c1 := by
        obtain ⟨bb, hr, _⟩ := HL.out.row
        rcases hr.2 with ⟨rfl, h0⟩ | ⟨g1, cap1, _, rfl, _⟩
        · exact ⟨none, 0, by rw [h0]⟩
        · exact ⟨_, _, rfl⟩
      have HLK := Aside0.mk hkq
      have HNX := Aside0.mk hnx
      have co := HL.out.box.cell
      have cn : wr.cell? ⟨w.heap.size + 1, 0, none⟩ = some (.int .u64 nx) := by rw [hnx]; exact HL.out.nx.cell
      have cx : wr.cell? ⟨Bx, 0, none⟩ = some (.int .u64 s) := blk_cell HL.out.bx 0
      have fn0 := HL.out.nx.frozen
      obtain ⟨ln, hln⟩ : ∃ ln, ln = p.2.length + k1 := ⟨_, rfl⟩
      have z2 : (ln : Int) < 100 := by
        have h1 := HM.out.2.2.1
        have h2 := HM.out.2.2.2.1
        have h3 := HM.out.2.2.2.2.2
        omega
      have HLN := Aside0.mk hln
      rw [← hln] at co
      clear hln
      have hlt0 := HM.out.2.2.2.2.2
      by_cases hc : nx < s
      · have z1 : (nx : Int) < (s : Int) := by omega
        have HC := Aside0.mk hc
        clear hc hnx hkq hlt0
        obtain ⟨b', hr', hb1, hb2, hfresh⟩ : ∃ b', wr.ownsRow b' 40 1 (.slice A1 (p.2.length + k1) c1) (p.2.length + k1) ((p.2 ++ (List.range k1).map (p.1 + ·)).map fun m : Nat => Value.int .u64 m) ∧ w.heap.size + 1 < b' ∧ b' ≤ wr.heap.size ∧ (∀ g', b' ≤ g' → (∃ g n c, Value.slice A1 (p.2.length + k1) c1 = .slice (some ⟨g, 0, none⟩) n c ∧ g ≤ g') ∨ wr.heap.size ≤ g') := by
          obtain ⟨bb, hr, hb, hbs⟩ := HL.out.row
          obtain ⟨b', h1, h2, h3, h4⟩ := row_base hr hbs
          exact ⟨b', h1, (show w.heap.size + 1 < b' by omega), h3, h4⟩
        have HR5 := Aside0.mk (And.intro hr' (And.intro hb1 (And.intro hb2 hfresh)))
        clear hr' hb1 hb2 hfresh
        have HRN : wr.ownsRow b' 40 1 (.slice A1 ln c1) ln ((p.2 ++ (List.range k1).map (p.1 + ·)).map fun m : Nat => Value.int .u64 m) := by rw [HLN.out]; exact HR5.out.1
        have HRN2 := Aside0.mk HRN
        clear HRN
        gi_wp2_with (gi_at_builtin; refine wpListIn_append_own _ rfl _ _ 61 rfl b' 40 i0 (.int .u64 0) 1 8 Tryz.underlying61 HI40.out.1 HI40.out.2.1 HI40.out.2.2.1 HI40.out.2.2.2 rfl (by decide) _ _ _ rfl (HRN2.out.alloc _) ⟨wr.heap.size, 0, none⟩ 1 1 [.int .u64 nx] rfl rfl (cell_one_new _ _ _) (by simp [Value.oneCell']) (by unfold maxLen; omega) (by omega) (by have := HR5.out.2.2.1; simp; omega) ?_; intro v' w3 hown' hgrow _; obtain ⟨g3, cap3, rfl⟩ := ownsRow_succ hown'; have HST := Aside0.mk (Il.step HL.out HBB.out.1 HR5.out.1 HR5.out.2.1 HR5.out.2.2.1 HR5.out.2.2.2 (by rw [← HLN.out, ← HNX.out]; exact hown') (by rw [← HLN.out]; exact hgrow)); clear hown' hgrow; rw [← HLN.out, ← HNX.out] at HST; have co3 := HST.out.1.cell; have fo3 := HST.out.1.frozen; have cn3 := HST.out.2.1.cell; have fn3 := HST.out.2.1.frozen)
        have hc2 := HC.out
        have hs3 := HM.out.2.2.2.2.2
        have hw : IntKind.u64.wrap ((nx : Int) + 1) = ((nx + 1 : Nat) : Int) := by
          unfold IntKind.wrap
          simp [IntKind.bits, IntKind.signed]
          omega
        gi_roundg (gk - 1)
        case measure => have h1 := HLK.out; have h2 := HNX.out; omega
        case rel =>
          refine ⟨k1 + 1, .slice (some ⟨g3, 0, none⟩) (ln + 1) cap3, by have h1 := HLK.out; have h2 := HNX.out; omega, ⟨?_⟩⟩
          rw [hw]
          have h3 := HST.out.2.2
          rw [show p.1 + (k1 + 1) = nx + 1 by have h2 := HNX.out; omega] at h3
          exact h3
      · have z1 : ¬ (nx : Int) < (s : Int) := by omega
        have HC := Aside0.mk hc
        clear hc hnx hkq hlt0
        gi_wp2
        have hw : IntKind.u64.wrap ((s : Int) + 1) = ((s + 1 : Nat) : Int) := by
          unfold IntKind.wrap
          simp [IntKind.bits, IntKind.signed]
          have := HM.out.2.2.2.2.2
          omega
        rw [hw]
        obtain ⟨d1, d2, d3, d4, ⟨base2, d5, d6, d7⟩, d8⟩ := HL.out.done ((s + 1 : Nat) : Int)
        obtain ⟨m1, m2, m3, m4, m5, m6⟩ := HM.out
        have hk1 : k1 = s - p.1 := by have h1 := HLK.out; have h2 := HC.out; have h3 := HNX.out; omega
        subst hk1
        refine ⟨d1, d2, ⟨⟨_, miss1 p s, base2, d3, d4, ?_, d6, d7, ?_, ?_, ?_⟩, d8⟩⟩
        · have e : (miss1 p s).2.length = p.2.length + (s - p.1) := by simp [miss1]
          rw [e]
          exact d5
        · rw [missN_snoc, m5, ← m1]
          rfl
        · show s + 1 ≤ 4
          omega
        · simp [miss1]
          omega
  case done =>
    rintro D' ys W hD hS ⟨⟨v, p, base, h1, h2, h3, h4, h5, rfl, h7⟩, hB⟩ hK
    rw [missN_end ys hS] at h3
    obtain ⟨g', cap, r, rfl, hg', hbk⟩ : ∃ g' cap r, v = .slice (some ⟨g', 0, none⟩) 1 cap ∧ base ≤ g' ∧ W.heap[g']? = some (.cells (⟨Value.int .u64 2 :: r⟩ : Array Value) 40 (0, 0)) := by
      rcases h3.2 with ⟨_, h0⟩ | ⟨g', cap, cur, rfl, hg, hb, r1, r2, r3, r4⟩
      · simp at h0
      · obtain ⟨cl⟩ := cur
        cases cl with
        | nil => simp at r4
        | cons a tl =>
          simp at r4
          subst r4
          exact ⟨g', cap, tl, rfl, hg, hb⟩
    have hc := h1.cell
    have hf := h1.frozen
    have HB9 := Aside0.mk hB
    have HBK := Aside0.mk (And.intro h1 (And.intro h4 (And.intro hg' hbk)))
    clear h1 h2 h3 h5 h7 hB hg' hbk h4
    gi_wp2
    refine ⟨by simp, .inl ⟨_, _, rfl, run_takeDeferred ((KeepsOthers.setCell W ⟨w.heap.size, 0, none⟩ _).same D' _ hK rfl), ?_⟩⟩
    have hb8 : Boxed (W.setCell ⟨w.heap.size, 0, none⟩ (.slice (some ⟨g', 0, none⟩) 1 cap)) w.heap.size 61 (.slice (some ⟨g', 0, none⟩) 1 cap) := HBK.out.1.set _
    have hK8 := (KeepsOthers.setCell W ⟨w.heap.size, 0, none⟩ (.slice (some ⟨g', 0, none⟩) 1 cap)).same D' _ hK rfl
    have hnd : w.heap.size ≠ D' := fun e => by rw [← e] at hK8; rw [hb8] at hK8; cases hK8
    have hb9 := (hb8.kept (grownBy_putObj' _ D' (.deferred none)) (fun e => hnd (Option.some.inj e)))
    refine ⟨_, res61 _ _ _ _ rfl hb9.cell, g', cap, r, rfl, ?_, ?_⟩
    · have h1 := HBK.out.2.2.2
      have h2 := (Below.heap_setCell W ⟨w.heap.size, 0, none⟩ (.slice (some ⟨g', 0, none⟩) 1 cap) g' (by have := HBK.out.2.1; have := HBK.out.2.2.1; simp; omega)).trans h1
      exact (World.putObj_heap_other (fun e => by rw [← e, h2] at hK8; cases hK8)).trans h2
    · have h3 := HB9.out.setCell (p := ⟨w.heap.size, 0, none⟩) (Nat.le_refl _) (.slice (some ⟨g', 0, none⟩) 1 cap)
      exact h3.trans (belowK_b (w := w) (Nat.le_refl _) _ D' _ _ (by omega) hK8 rfl rfl)
  case stop =>
    rintro D' c' pre W _ _ h _
    exact h.elim
end Go.Proofs.YtpihpkphhkcdlaaGreatDoor.Mi
