/- The reference's Decode. -/
import Derived.Test.YtpihpkphhkcdlaaGreatDoorRi
import Derived.Test.YtpihpkphhkcdlaaGreatDoorWk
namespace Go.Proofs.YtpihpkphhkcdlaaGreatDoor.Wd
open Go.RowKit Go.Maps Go.Proofs.YtpihpkphhkcdlaaGreatDoorW.PrintWords Go.Proofs.YtpihpkphhkcdlaaGreatDoorW.PrintLast Go.Proofs.YtpihpkphhkcdlaaGreatDoor.PR Go.Proofs.YtpihpkphhkcdlaaGreatDoor.Tab Go.Proofs.YtpihpkphhkcdlaaGreatDoor.Kp Go.Proofs.YtpihpkphhkcdlaaGreatDoor.Crc Go.Proofs.YtpihpkphhkcdlaaGreatDoor.Pd Go.Proofs.YtpihpkphhkcdlaaGreatDoor.Fr Go.Proofs.YtpihpkphhkcdlaaGreatDoor.May Go.Proofs.YtpihpkphhkcdlaaGreatDoor.De Go.Proofs.YtpihpkphhkcdlaaGreatDoor.Eq Go.Proofs.YtpihpkphhkcdlaaGreatDoor.Rd Go.Proofs.YtpihpkphhkcdlaaGreatDoor.Rg Go.Proofs.YtpihpkphhkcdlaaGreatDoor.Ri Go.Proofs.YtpihpkphhkcdlaaGreatDoor.Ext
set_option linter.unusedVariables false
set_option linter.unusedSimpArgs false
abbrev ZC : Array Value := #[.int .u64 0, .int .i64 0, .slice none 0 0]
theorem cut_to (A : Option Addr) (n c m : Nat) (hm : m ≤ n) (hn : n ≤ c) : ∀ W : World, (Instr.slice 29 (.slice A n c) none (some (.int .i64 (m : Int))) none).run Tryz.prog W = .ok (.slice A m c) W := fun W => by
  have hu : Tryz.prog.underlying 29 = some (.slice (Tryz.prog.elem 29)) := by kernel_rfl
  have hz : (Tryz.prog.info? (Tryz.prog.elem 29)).map (·.size) = some 1 := by kernel_rfl
  obtain ⟨i, hi, hs⟩ := Option.map_eq_some_iff.1 hz
  have ha : (A.map fun x => x.add 0) = A := by cases A <;> simp [Addr.add]
  rw [run_slice_h W 29 A n c hu .i64 (m : Int) (Int.natCast_nonneg _) (by omega)]
  simp [sizeOf, typeInfo, hi, hs, sliced, Result.andThen, ha]
theorem reads_take {w : World} {A : Option Addr} {bs : List UInt8} (h : ReadsInt w .u8 A bs.length (nb bs)) (m : Nat) (hm : m ≤ bs.length) : ReadsInt w .u8 A (bs.take m).length (nb (bs.take m)) := by
  have hl : (bs.take m).length = m := by rw [List.length_take]; omega
  have := h.take_ m hm
  rw [hl, ← nb_take]
  exact this
theorem conv_str {w : World} {A : Option Addr} {c : Nat} {bs : List UInt8} (h : ReadsInt w .u8 A bs.length (nb bs)) : ∀ W, Below w.heap.size w W → (convert 29 9 (.slice A bs.length c)).run Tryz.prog W = .ok (.string (Wk.strB bs)) W := fun W hb => by
  have := Kd.C_string (P := Tryz.prog) (src := 29) (dst := 9) (e := 5) (A := A) (c := c) Tryz.underlying29 Tryz.underlying5 Tryz.underlying9 (Kd.C_of_reads (h1 := fun _ => rfl) (h.below hb))
  rw [strOf_nb] at this
  exact this
theorem num_calls (b : List UInt8) (A : Option Addr) (cp : Nat) (at_ : Nat) (n m e : Int) (hE : Ev (fun k => odometerref20_number.f k (nb b) (at_ : Int)) (n, m, e)) (a : Int) (ha : (at_ : Int) = a) (W : World) (hr : ReadsInt W .u8 A b.length (nb b)) (hcp : b.length ≤ cp) :
    Calls Tryz.prog 66 #[.slice A b.length cp, .int .i64 a] W fun x w' => x = .returned (.tuple #[.int .u64 n, .int .i64 m, .int .i64 e]) ∧ Below W.heap.size W w' := by
  subst ha
  obtain ⟨k, hk⟩ := hE.rounds
  have h := odometerref20_number.calls k A cp (nb b) (at_ : Int) n m e W (by rw [nb_len]; exact Kd.C_of_reads (h1 := fun _ => rfl) hr) (by rw [nb_len]; exact hcp) hk
  rw [nb_len] at h
  exact h.mono fun x w' h => ⟨h.1, h.2.below⟩
theorem rec_calls (b : List UInt8) (A : Option Addr) (cp : Nat) (at_ : Nat) (win : Int) (nm : ByteArray) (w1 i r : Int) (o : Bool) (m e : Int) (hE : Ev (fun k => odometerref20_record.f k (nb b) (at_ : Int) win) (nm, w1, i, r, o, m, e)) (W : World) (hr : ReadsInt W .u8 A b.length (nb b)) (hcp : b.length ≤ cp) :
    Calls Tryz.prog 67 #[.slice A b.length cp, .int .i64 (at_ : Int), .int .i64 win] W fun x w' => x = .returned (.tuple #[.agg #[.string nm, .int .i64 w1, .int .i64 i, .int .i64 r, .bool o], .int .i64 m, .int .i64 e]) ∧ Below W.heap.size W w' := by
  obtain ⟨k, hk⟩ := hE.rounds
  have h := odometerref20_record.calls k A cp (nb b) (at_ : Int) win nm w1 i r o m e W (by rw [nb_len]; exact Kd.C_of_reads (h1 := fun _ => rfl) hr) (by rw [nb_len]; exact hcp) hk
  rw [nb_len] at h
  exact h
theorem kd_recs {W : World} {A : Option Addr} {win : Int} {rs : List Rec} (h : RecsAt W A win rs) : Kd.C k73 W A rs.length (rs.map (Rh.toS win)) := by
  refine ⟨by simp, h.1, fun hp => ?_⟩
  obtain ⟨gr, e, hl, hc⟩ := h.2 hp
  refine ⟨_, e, fun j q hj => ?_⟩
  rw [List.getElem?_map] at hj
  obtain ⟨r, hr, rfl⟩ := Option.map_eq_some_iff.1 hj
  obtain ⟨hlt, rfl⟩ := List.getElem?_eq_some_iff.1 hr
  refine ⟨recC win rs[j], rfl, k73_mk W (Rh.toS win rs[j]), fun i u hu => ?_⟩
  have h1 := hc j hlt i u hu
  have e1 : (⟨gr, 0, none⟩ : Addr).add (j * k73.sz + i) = ⟨gr, j * 5 + i, none⟩ := by
    exact add_plain _ _
  rw [e1]
  exact h1
theorem may_calls2 (seq : Nat) (win : Int) (recs : List Rec) (hl : recs.length ≤ 1000000) (A : Option Addr) (c : Nat) (hc : recs.length ≤ c) (W : World) (hr : RecsAt W A win recs) :
    Calls Tryz.prog 51 #[.agg #[.int .u64 (seq : Nat), .int .i64 win, .slice A recs.length c]] W fun x w' => x = .returned (.bool (mayP ⟨seq, win, recs⟩)) ∧ Below W.heap.size W w' := by
  obtain ⟨k, hk⟩ := (Rh.may_ev seq win recs hl).rounds
  have h := odometerref20_May.calls k (seq : Int) win A c (recs.map (Rh.toS win)) _ W (by rw [List.length_map]; exact kd_recs hr) (by rw [List.length_map]; exact hc) hk
  rw [List.length_map] at h
  exact h
/-- The frame under way. -/
structure Dd (w W : World) (g6 : Nat) (a b rv : Value) (win : Int) (rs : List Rec) : Prop where
  b2 : W.heap[w.heap.size]? = some (.cells ZC 44 (0, 0))
  b4 : W.heap[w.heap.size + 1]? = some (.cells ZC 44 (0, 0))
  b6 : W.heap[g6]? = some (.cells #[a, b, rv] 44 (0, 0))
  row : W.ownsRow w.heap.size 73 5 rv rs.length (recsC win rs)
  be : Below w.heap.size w W
  ge : w.heap.size + 1 < g6
theorem Dd.below {w W W' : World} {g6 : Nat} {a b rv : Value} {win : Int} {rs : List Rec} (h : Dd w W g6 a b rv win rs) (k : Below W.heap.size W W') : Dd w W' g6 a b rv win rs :=
  ⟨(k.block _ (blk_lt h.b2)).trans h.b2, (k.block _ (blk_lt h.b4)).trans h.b4, (k.block _ (blk_lt h.b6)).trans h.b6, pw_own_below h.row k, h.be.trans (k.mono h.be.size), h.ge⟩
theorem Dd.set {w W : World} {g6 : Nat} {a b rv : Value} {win : Int} {rs : List Rec} (h : Dd w W g6 a b rv win rs) (i : Nat) (v : Value) {a' b' : Value} (e : (#[a, b, rv] : Array Value).setIfInBounds i v = #[a', b', rv]) (win' : Int) (hw : rs = [] ∨ win' = win) : Dd w (W.setCell ⟨g6, i, none⟩ v) g6 a' b' rv win' rs := by
  have hg := h.ge
  refine ⟨(Below.heap_setCell W ⟨g6, i, none⟩ v _ (show w.heap.size ≠ g6 by omega)).trans h.b2, (Below.heap_setCell W ⟨g6, i, none⟩ v _ (show w.heap.size + 1 ≠ g6 by omega)).trans h.b4, blk_put h.b6 i v e, ?_, h.be.setCell (p := ⟨g6, i, none⟩) (show w.heap.size ≤ g6 by omega) v, h.ge⟩
  have hr : W.ownsRow w.heap.size 73 5 rv rs.length (recsC win' rs) := by
    rcases hw with rfl | rfl
    · exact h.row
    · exact h.row
  refine own_move hr fun j hj => Below.heap_setCell W ⟨g6, i, none⟩ v j (fun e9 => ?_)
  have e' : j = g6 := e9
  subst e'
  obtain ⟨cs, hc⟩ := own_typed hr _ hj
  rw [h.b6] at hc
  injection hc with hc
  injection hc with _ ht
  exact absurd ht (by decide)
theorem Dd.app {w W W' : World} {g6 : Nat} {a b rv rv' : Value} {win : Int} {rs : List Rec} {r : Rec} (h : Dd w W g6 a b rv win rs) (ho : W'.ownsRow w.heap.size 73 5 rv' (rs.length + 1) (recsC win rs ++ recC win r)) (hg : W.grownBy W' rv.ownBlock) : W'.heap[g6]? = some (.cells #[a, b, rv] 44 (0, 0)) ∧ Dd w (W'.setCell ⟨g6, 2, none⟩ rv') g6 a b rv' win (rs ++ [r]) := by
  have hne : ∀ (j : Nat) (cs : Array Value), W.heap[j]? = some (.cells cs 44 (0, 0)) → some j ≠ rv.ownBlock := fun j cs hj e => by
    obtain ⟨cs', hc⟩ := own_typed h.row _ e.symm
    rw [hj] at hc
    injection hc with hc
    injection hc with _ ht
    exact absurd ht (by decide)
  have k1 : ∀ (j : Nat) (cs : Array Value), W.heap[j]? = some (.cells cs 44 (0, 0)) → W'.heap[j]? = some (.cells cs 44 (0, 0)) := fun j cs hj => (hg.block _ (blk_lt hj) (hne j cs hj)).trans hj
  have hb6 := k1 _ _ h.b6
  have hgg := h.ge
  refine ⟨hb6, (Below.heap_setCell W' ⟨g6, 2, none⟩ rv' _ (show w.heap.size ≠ g6 by omega)).trans (k1 _ _ h.b2), (Below.heap_setCell W' ⟨g6, 2, none⟩ rv' _ (show w.heap.size + 1 ≠ g6 by omega)).trans (k1 _ _ h.b4), blk_put hb6 2 rv' rfl, ?_, ?_, h.ge⟩
  · rw [recsC_snoc, List.length_append]
    refine own_move ho fun j hj => Below.heap_setCell W' ⟨g6, 2, none⟩ rv' j (fun e => ?_)
    have e' : j = g6 := e
    subst e'
    obtain ⟨cs, hc⟩ := own_typed ho _ hj
    rw [hb6] at hc
    injection hc with hc
    injection hc with _ ht
    exact absurd ht (by decide)
  · exact (h.be.grown hg h.be.size (fun j hj => own_base h.row j hj)).setCell (p := ⟨g6, 2, none⟩) (show w.heap.size ≤ g6 by omega) rv'
def DecSays (w : World) (bs : List UInt8) (e : Ending) (w' : World) : Prop := (((decP bs).2 = 0 ∧ ∃ Ar cr, e = .returned (.tuple #[.agg #[.int .u64 ((decP bs).1.seq : Nat), .int .i64 (decP bs).1.win, .slice Ar (decP bs).1.recs.length cr], .int .i64 0]) ∧ (decP bs).1.recs.length ≤ cr ∧ RecsAt w' Ar (decP bs).1.win (decP bs).1.recs ∧ (∀ ad, Ar = some ad → w.heap.size ≤ ad.block)) ∨ ((decP bs).2 ≠ 0 ∧ ∃ e4 : Int, e4 ≠ 0 ∧ e = .returned (.tuple #[.agg ZC, .int .i64 e4]))) ∧ Below w.heap.size w w'
set_option maxHeartbeats 8000000 in
set_option maxRecDepth 1000000 in
theorem refdec_calls (bs : List UInt8) (hb : bs.length ≤ 1000000) (A : Option Addr) (cp : Nat) (hcp : bs.length ≤ cp) (w : World) (hr : ReadsInt w .u8 A bs.length (nb bs)) :
    Calls Tryz.prog 46 #[.slice A bs.length cp] w fun e w' => DecSays w bs e w' := by
  have HSZ := Aside0.mk (show (Tryz.prog.info? 44).map (·.size) = some 3 from by kernel_rfl)
  have HR := Aside0.mk hr
  have HC := Aside0.mk (And.intro hb hcp)
  clear hb hcp hr
  go_enter Tryz.func46, Tryz.ntmps46
  go_upto_region 2 with (fail)
  have B2 := Aside0.mk (show ((w.alloc (.cells ZC 44)).alloc (.cells ZC 44)).heap[w.heap.size]? = some (.cells ZC 44 (0, 0)) from Cr.blk_b (blk_new w _) (below_alloc (Below.refl _ _) _))
  have B4 := Aside0.mk (show ((w.alloc (.cells ZC 44)).alloc (.cells ZC 44)).heap[w.heap.size + 1]? = some (.cells ZC 44 (0, 0)) from by
    have h := blk_new (w.alloc (.cells ZC 44)) (.cells ZC 44)
    rw [World.size_alloc] at h
    exact h)
  have BE := Aside0.mk (show Below w.heap.size w ((w.alloc (.cells ZC 44)).alloc (.cells ZC 44)) from below_alloc (below_alloc (Below.refl _ _) _) _)
  try rw [show (w.alloc (.cells ZC 44)).alloc (.cells ZC 44) = (w.alloc (.cells #[.int .u64 0, .int .i64 0, .slice none 0 0] 44)).alloc (.cells #[.int .u64 0, .int .i64 0, .slice none 0 0] 44) from rfl] at B2 B4 BE
  generalize (w.alloc (.cells #[.int .u64 0, .int .i64 0, .slice none 0 0] 44)).alloc (.cells #[.int .u64 0, .int .i64 0, .slice none 0 0] 44) = W0 at B2 B4 BE ⊢
  by_cases h4 : bs.length < 4
  · have d1 : decide ((bs.length : Int) < 4) = true := decide_eq_true (by omega)
    have HD := Aside0.mk (show (decP bs).2 ≠ 0 from by
      unfold decP
      rw [if_pos (fun e => by have := congrArg List.length e; rw [List.length_take] at this; simp at this; omega)]
      simp)
    clear h4
    have x40 : W0.cell? ⟨w.heap.size + 1, 0, none⟩ = some (.int .u64 0) := (blk_cell B4.out 0).trans rfl
    have x20 : W0.cell? ⟨w.heap.size, 0, none⟩ = some (.int .u64 0) := (blk_cell B2.out 0).trans rfl
    have z20 := blk_frozen B2.out 0
    have x41 : W0.cell? ⟨w.heap.size + 1, 1, none⟩ = some (.int .i64 0) := (blk_cell B4.out 1).trans rfl
    have x21 : W0.cell? ⟨w.heap.size, 1, none⟩ = some (.int .i64 0) := (blk_cell B2.out 1).trans rfl
    have z21 := blk_frozen B2.out 1
    have x42 : W0.cell? ⟨w.heap.size + 1, 2, none⟩ = some (.slice none 0 0) := (blk_cell B4.out 2).trans rfl
    have x22 : W0.cell? ⟨w.heap.size, 2, none⟩ = some (.slice none 0 0) := (blk_cell B2.out 2).trans rfl
    have z22 := blk_frozen B2.out 2
    go_wp2
    refine bodyPost_ret (results_ct rfl _ _ w.heap.size 44 ZC (0, 0) _ rfl (blk_put (blk_put (blk_put B2.out 0 _ rfl) 1 _ rfl) 2 _ rfl) Tryz.underlying44 rfl HSZ.out) rfl ?_
    exact ⟨.inr ⟨HD.out, 25, by decide, rfl⟩, below_set (below_set (below_set BE.out (Nat.le_refl _)) (Nat.le_refl _)) (Nat.le_refl _)⟩
  · have d1 : decide ((bs.length : Int) < 4) = false := decide_eq_false (by omega)
    have hsl : ∀ W : World, (Instr.slice 29 (.slice A bs.length cp) none (some (.int .i64 4)) none).run Tryz.prog W = .ok (.slice A 4 cp) W := cut_to A bs.length cp 4 (by omega) HC.out.2
    have p4 : (4 : Int) ≤ (cp : Int) := by have := HC.out.2; omega
    have p40 : decide ((4 : Int) ≤ (cp : Int)) = true := decide_eq_true p4
    have p5 : 4 ≤ cp := by omega
    have hl4 : (bs.take 4).length = 4 := by rw [List.length_take]; omega
    have hcv := conv_str (c := cp) (reads_take HR.out 4 (by omega)) W0 BE.out
    rw [hl4] at hcv
    have ht4 : (Wk.strB (bs.take 4)).toList = bs.take 4 := bal_mk _
    generalize Wk.strB (bs.take 4) = s4 at hcv ht4
    have H4 := Aside0.mk h4
    clear hl4 h4
    by_cases c1 : bs.take 4 ≠ [79, 68, 79, 1]
    · have HD := Aside0.mk (show (decP bs).2 ≠ 0 from by unfold decP; rw [if_pos c1]; simp)
      have d2 : (s4.toList == ([79, 68, 79, 1] : List UInt8)) = false := by rw [ht4]; exact beq_eq_false_iff_ne.2 c1
      have d3 : (s4.toList != ([79, 68, 79, 1] : List UInt8)) = true := by rw [ht4]; exact bne_iff_ne.2 c1
      clear c1 ht4
      have x40 : W0.cell? ⟨w.heap.size + 1, 0, none⟩ = some (.int .u64 0) := (blk_cell B4.out 0).trans rfl
      have x20 : W0.cell? ⟨w.heap.size, 0, none⟩ = some (.int .u64 0) := (blk_cell B2.out 0).trans rfl
      have z20 := blk_frozen B2.out 0
      have x41 : W0.cell? ⟨w.heap.size + 1, 1, none⟩ = some (.int .i64 0) := (blk_cell B4.out 1).trans rfl
      have x21 : W0.cell? ⟨w.heap.size, 1, none⟩ = some (.int .i64 0) := (blk_cell B2.out 1).trans rfl
      have z21 := blk_frozen B2.out 1
      have x42 : W0.cell? ⟨w.heap.size + 1, 2, none⟩ = some (.slice none 0 0) := (blk_cell B4.out 2).trans rfl
      have x22 : W0.cell? ⟨w.heap.size, 2, none⟩ = some (.slice none 0 0) := (blk_cell B2.out 2).trans rfl
      have z22 := blk_frozen B2.out 2
      go_wp2
      refine bodyPost_ret (results_ct rfl _ _ w.heap.size 44 ZC (0, 0) _ rfl (blk_put (blk_put (blk_put B2.out 0 _ rfl) 1 _ rfl) 2 _ rfl) Tryz.underlying44 rfl HSZ.out) rfl ?_
      exact ⟨.inr ⟨HD.out, 25, by decide, rfl⟩, below_set (below_set (below_set BE.out (Nat.le_refl _)) (Nat.le_refl _)) (Nat.le_refl _)⟩
    · have c1' : bs.take 4 = [79, 68, 79, 1] := by simpa using c1
      have HC1 := Aside0.mk c1
      have d2 : (s4.toList == ([79, 68, 79, 1] : List UInt8)) = true := by rw [ht4, c1']; rfl
      have d3 : (s4.toList != ([79, 68, 79, 1] : List UInt8)) = false := by rw [ht4, c1']; rfl
      clear c1 c1' ht4
      by_cases h8 : bs.length < 8
      · have d8 : decide ((bs.length : Int) < 8) = true := decide_eq_true (by omega)
        have HD := Aside0.mk (show (decP bs).2 ≠ 0 from by unfold decP; rw [if_neg HC1.out, if_pos h8]; simp)
        clear h8
        have x40 : W0.cell? ⟨w.heap.size + 1, 0, none⟩ = some (.int .u64 0) := (blk_cell B4.out 0).trans rfl
        have x20 : W0.cell? ⟨w.heap.size, 0, none⟩ = some (.int .u64 0) := (blk_cell B2.out 0).trans rfl
        have z20 := blk_frozen B2.out 0
        have x41 : W0.cell? ⟨w.heap.size + 1, 1, none⟩ = some (.int .i64 0) := (blk_cell B4.out 1).trans rfl
        have x21 : W0.cell? ⟨w.heap.size, 1, none⟩ = some (.int .i64 0) := (blk_cell B2.out 1).trans rfl
        have z21 := blk_frozen B2.out 1
        have x42 : W0.cell? ⟨w.heap.size + 1, 2, none⟩ = some (.slice none 0 0) := (blk_cell B4.out 2).trans rfl
        have x22 : W0.cell? ⟨w.heap.size, 2, none⟩ = some (.slice none 0 0) := (blk_cell B2.out 2).trans rfl
        have z22 := blk_frozen B2.out 2
        go_wp2
        refine bodyPost_ret (results_ct rfl _ _ w.heap.size 44 ZC (0, 0) _ rfl (blk_put (blk_put (blk_put B2.out 0 _ rfl) 1 _ rfl) 2 _ rfl) Tryz.underlying44 rfl HSZ.out) rfl ?_
        exact ⟨.inr ⟨HD.out, 11, by decide, rfl⟩, below_set (below_set (below_set BE.out (Nat.le_refl _)) (Nat.le_refl _)) (Nat.le_refl _)⟩
      · have d8 : decide ((bs.length : Int) < 8) = false := decide_eq_false (by omega)
        obtain ⟨b, hbb⟩ : ∃ b, b = bs.take (bs.length - 4) := ⟨_, rfl⟩
        have hbl : b.length = bs.length - 4 := by rw [hbb, List.length_take]; omega
        have hw4 : wrap64 ((bs.length : Int) - 4) = (b.length : Int) := by unfold wrap64; have := HC.out.1; omega
        have HBL := Aside0.mk (And.intro hbl (And.intro hw4 (And.intro hbb h8)))
        have HRB := Aside0.mk (show ReadsInt w .u8 A b.length (nb b) from by rw [hbb]; exact reads_take HR.out _ (by omega))
        clear hbl h8
        go_upto_region 7 with (fail)
        clear hw4 hcv hsl
        rw [HBL.out.2.1]
        have hslA := cut_to A bs.length cp b.length (by have := HBL.out.1; omega) HC.out.2
        obtain ⟨A2, hslB, hrd2, _⟩ := cut_from A bs.length cp b.length (by have := HBL.out.1; omega)
        obtain ⟨dd, hdd⟩ : ∃ dd, dd = bs.drop b.length := ⟨_, rfl⟩
        have hdl : dd.length = bs.length - b.length := by rw [hdd, List.length_drop]
        have HRD := Aside0.mk (show ReadsInt w .u8 A2 dd.length (nb dd) from by
          have h := hrd2 w .u8 (nb bs) HC.out.2 HR.out
          rw [Rg.nb_drop, ← hdd, ← hdl] at h
          exact h)
        rw [← hdl] at hslB
        have HDD := Aside0.mk (show dd = bs.drop (bs.length - 4) from by rw [hdd, HBL.out.1])
        have pA : (b.length : Int) ≤ (cp : Int) := by have := HBL.out.1; have := HC.out.2; omega
        have pB : (b.length : Int) ≤ (bs.length : Int) := by have := HBL.out.1; omega
        have pC : (0 : Int) ≤ (b.length : Int) := by omega
        have qA : decide ((b.length : Int) ≤ (cp : Int)) = true := decide_eq_true pA
        have qB : decide ((b.length : Int) ≤ (bs.length : Int)) = true := decide_eq_true pB
        have HP := Aside0.mk (And.intro pA pB)
        clear hrd2 hdd hdl p4 p40 p5 hbb
        refine start_ (n := 10) (S := fun w' => Below W0.heap.size W0 w') (ds := []) #[false, false, false, false, false, false, false, false, false, false] (by kernel_rfl) rfl rfl (below_drew1 (Below.refl _ _)) (fun hHeld => ?_)
        have hS0 := Aside0.mk (show Below W0.heap.size W0 W0.drew from below_drew1 (Below.refl _ _))
        refine pure_ (i := 0) (N := some 33) (v := ?_) (a' := ?_) #[true, false, false, false, false, false, false, false, false, false] rfl rfl (by kernel_rfl) (fun _ _ _ h => h) (Or.inl ⟨by rfl, ?_⟩) ?_ ?_
        rotate_left
        · intro w'
          go_simp
          with_reducible rfl
        rotate_left
        · simp only [Act.put, List.setIfInBounds_toArray, List.set_cons_zero, List.set_cons_succ, i64_w, i32_w]
          rfl
        refine pure_ (i := 1) (N := some 34) (v := ?_) (a' := ?_) #[true, true, false, false, false, false, false, false, false, false] rfl rfl (by kernel_rfl) (fun _ _ _ h => h) (Or.inl ⟨by rfl, ?_⟩) ?_ ?_
        rotate_left
        · intro w'
          go_simp
          with_reducible rfl
        rotate_left
        · simp only [Act.put, List.setIfInBounds_toArray, List.set_cons_zero, List.set_cons_succ, i64_w, i32_w]
          rfl
        refine pure_ (i := 2) (N := some 35) (v := ?_) (a' := ?_) #[true, true, true, false, false, false, false, false, false, false] rfl rfl (by kernel_rfl) (fun _ _ _ h => h) (Or.inl ⟨by rfl, ?_⟩) ?_ ?_
        rotate_left
        · intro w'
          go_simp
          with_reducible rfl
        rotate_left
        · simp only [Act.put, List.setIfInBounds_toArray, List.set_cons_zero, List.set_cons_succ, i64_w, i32_w]
          rfl
        refine pure_ (i := 5) (N := some 38) (v := ?_) (a' := ?_) #[true, true, true, false, false, true, false, false, false, false] rfl rfl (by kernel_rfl) (fun _ _ _ h => h) (Or.inl ⟨by rfl, ?_⟩) ?_ ?_
        rotate_left
        · intro w'
          go_simp
          with_reducible rfl
        rotate_left
        · simp only [Act.put, List.setIfInBounds_toArray, List.set_cons_zero, List.set_cons_succ, i64_w, i32_w]
          rfl
        refine pure_ (i := 6) (N := some 39) (v := ?_) (a' := ?_) #[true, true, true, false, false, true, true, false, false, false] rfl rfl (by kernel_rfl) (fun _ _ _ h => h) (Or.inl ⟨by rfl, ?_⟩) ?_ ?_
        rotate_left
        · intro w'
          go_simp
          with_reducible rfl
        rotate_left
        · simp only [Act.put, List.setIfInBounds_toArray, List.set_cons_zero, List.set_cons_succ, i64_w, i32_w]
          rfl
        refine pure_ (i := 7) (N := some 40) (v := ?_) (a' := ?_) #[true, true, true, false, false, true, true, true, false, false] rfl rfl (by kernel_rfl) (fun _ _ _ h => h) (Or.inl ⟨by rfl, ?_⟩) ?_ ?_
        rotate_left
        · intro w'
          go_simp
          with_reducible rfl
        rotate_left
        · simp only [Act.put, List.setIfInBounds_toArray, List.set_cons_zero, List.set_cons_succ, i64_w, i32_w]
          rfl
        refine take_ (i := 8) (N := some 41) (v := ?_) (a' := ?_) #[true, true, true, false, false, true, true, true, true, false] rfl rfl (by kernel_rfl) (fun _ _ _ h => h) (Or.inl ⟨by rfl, ?_⟩) hHeld ?_ ?_
        rotate_left
        · intro w' hS'
          have cv2 := conv_str (c := cp - b.length) HRD.out w' (BE.out.trans (hS'.mono BE.out.size))
          go_simp
          with_reducible rfl
        rotate_left
        · simp only [Act.put, List.setIfInBounds_toArray, List.set_cons_zero, List.set_cons_succ, i64_w, i32_w]
          rfl
        refine one_ (i := 3) (N := some 36) #[true, true, true, true, false, true, true, true, true, false] rfl rfl (by kernel_rfl) (by decide) (fun K hK => ?_)
        refine goes_ Tryz.func54 (by kernel_rfl) rfl #[.slice A b.length cp] (by rfl) rfl rfl (by simp [Act.eval]) ?_
        refine (En.sum_l b (by have := HBL.out.1; have := HC.out.1; omega) (HRB.out.below (BE.out.trans (hS0.out.mono BE.out.size))) (by have := HP.out.1; omega)).mono ?_
        rintro e_ w8 ⟨As, cs, rfl, hs1, hs2⟩
        refine ⟨_, rfl, ?_⟩
        have hSa := Aside0.mk (hS0.out.trans (hs2.mono hS0.out.size))
        have HRS := Aside0.mk hs1
        refine hK.out _ _ hSa.out (fun hHeld => ?_)
        clear hK K hs1 hs2
        refine norm_ (a' := ?_) ?_ ?_
        rotate_left
        · show Act.put _ (some 36) _ = _
          simp only [Act.put, List.setIfInBounds_toArray, List.set_cons_zero, List.set_cons_succ, i64_w, i32_w]
          rfl
        have cv1 := conv_str (c := cs) (bs := be4 (crc b)) HRS.out w8 (Below.refl _ _)
        have hbe : (be4 (crc b)).length = 4 := rfl
        rw [hbe] at cv1
        refine one_ (i := 4) (N := some 37) #[true, true, true, true, true, true, true, true, true, false] rfl rfl (by kernel_rfl) (by decide) (fun K hK => ?_)
        refine value_ (w1 := w8) (v := .string (Wk.strB (be4 (crc b)))) (by rfl) rfl (by go_simp <;> rfl) ?_
        refine hK.out _ _ hSa.out (fun hHeld => ?_)
        clear hK K
        refine norm_ (a' := ?_) ?_ ?_
        rotate_left
        · show Act.put _ (some 37) _ = _
          simp only [Act.put, List.setIfInBounds_toArray, List.set_cons_zero, List.set_cons_succ, i64_w, i32_w]
          rfl
        refine pure_ (i := 9) (N := some 42) (v := ?_) (a' := ?_) #[true, true, true, true, true, true, true, true, true, true] rfl rfl (by kernel_rfl) (fun _ _ _ h => h) (Or.inl ⟨by rfl, ?_⟩) ?_ ?_
        rotate_left
        · intro w'
          go_simp
          with_reducible rfl
        rotate_left
        · simp only [Act.put, List.setIfInBounds_toArray, List.set_cons_zero, List.set_cons_succ, i64_w, i32_w]
          rfl
        refine done_ (by kernel_rfl) ?_
        have B2b := Aside0.mk ((hSa.out.block _ (blk_lt B2.out)).trans B2.out)
        have B4b := Aside0.mk ((hSa.out.block _ (blk_lt B4.out)).trans B4.out)
        have BEb := Aside0.mk (BE.out.trans (hSa.out.mono BE.out.size))
        clear B2 B4 BE hSa hS0 hHeld cv1 hbe HRS HRD hslB
        obtain ⟨q, hq⟩ : ∃ q, q = (be4 (crc b) == dd) := ⟨_, rfl⟩
        rw [← hq]
        have HQ := Aside0.mk hq
        clear hq
        cases q with
        | true =>
          have c2 : be4 (crc b) = dd := by have h := HQ.out; exact eq_of_beq h.symm
          have HAN := Aside0.mk (show decP bs = ansP b from by
            unfold decP ansP
            rw [if_neg HC1.out, if_neg HBL.out.2.2.2, ← HBL.out.2.2.1, if_neg (fun h => h (by rw [← HDD.out]; exact c2.symm))])
          clear c2 HQ
          go_upto_region 11 with (fail)
          have DX := Aside0.mk (show Dd w (w8.alloc (.cells #[.int .u64 0, .int .i64 0, .slice none 0 0] 44)) w8.heap.size (.int .u64 0) (.int .i64 0) (.slice none 0 0) 0 [] from by
            have hbl := below_alloc (Below.refl w8.heap.size w8) (.cells #[.int .u64 0, .int .i64 0, .slice none 0 0] 44)
            exact ⟨(hbl.block _ (blk_lt B2b.out)).trans B2b.out, (hbl.block _ (blk_lt B4b.out)).trans B4b.out, blk_new w8 _, World.ownsRow_nil _ _ _ _, BEb.out.trans (hbl.mono BEb.out.size), blk_lt B4b.out⟩)
          generalize w8.alloc (.cells #[.int .u64 0, .int .i64 0, .slice none 0 0] 44) = W9 at DX ⊢
          generalize w8.heap.size = g6 at DX ⊢
          clear B2b B4b BEb
          have HB9 := Aside0.mk (show b.length ≤ 1000000 ∧ 4 ≤ b.length ∧ b.length ≤ cp from by have := HBL.out.1; have := HBL.out.2.2.2; have := HC.out; omega)
          have HFR := Aside0.mk (show frmP (b.drop 4) = (⟨(numP (b.drop 4, 0)).1, (sgP (numP (b.drop 4, 0)).2).1, (recsP (numP (sgP (numP (b.drop 4, 0)).2).2).1 (numP (sgP (numP (b.drop 4, 0)).2).2).2).1⟩, if (recsP (numP (sgP (numP (b.drop 4, 0)).2).2).1 (numP (sgP (numP (b.drop 4, 0)).2).2).2).2.2 = 0 ∧ 0 < (recsP (numP (sgP (numP (b.drop 4, 0)).2).2).1 (numP (sgP (numP (b.drop 4, 0)).2).2).2).2.1.length then 11 else (recsP (numP (sgP (numP (b.drop 4, 0)).2).2).1 (numP (sgP (numP (b.drop 4, 0)).2).2).2).2.2) from rfl)
          have HBAD := Aside0.mk (show (recsP (numP (sgP (numP (b.drop 4, 0)).2).2).1 (numP (sgP (numP (b.drop 4, 0)).2).2).2).2.2 ≠ 0 → (decP bs).2 ≠ 0 from fun h => by rw [HAN.out]; exact ans_err b (by rw [HFR.out]; dsimp only; rw [if_neg (fun h2 => h h2.1)]; exact h))
          clear hslA pA pB pC qA qB d1 d2 d3 d8
          rcases num_spec b HB9.out.1 4 HB9.out.2.1 with ⟨n, sz, hn, hs, hs0, hN, _, _, hE⟩ | ⟨hN, _, _, x0, m0, e0, he0, hE⟩
          · obtain ⟨a1, ha1⟩ : ∃ a1, a1 = 4 + sz := ⟨_, rfl⟩
            rw [← ha1] at hs hN hE
            have HA1 := Aside0.mk ha1
            clear ha1
            rw [hN] at HFR HBAD
            dsimp only at HFR HBAD
            have HE := Aside0.mk hE
            have HN := Aside0.mk (And.intro hn (And.intro hs hs0))
            clear hE hn hs hs0 hN
            go_upto_region 15 with (first | (go_at_call 66; (with_reducible refine (num_calls b A cp 4 _ _ _ HE.out 4 rfl _ (HRB.out.below DX.out.be) HB9.out.2.2).mono ?_); rintro e_ w9 ⟨rfl, hb_⟩; have DX := Aside0.mk (DX.out.below hb_); clear hb_; have y0 : w9.cell? ⟨g6, 0, none⟩ = some (.int .u64 0) := (blk_cell DX.out.b6 0).trans rfl; have f0 := blk_frozen DX.out.b6 0))
            have DY := Aside0.mk (DX.out.set 0 (.int .u64 (n : Int)) (a' := .int .u64 (n : Int)) (b' := .int .i64 0) rfl 0 (.inl rfl))
            generalize w9.setCell ⟨g6, 0, none⟩ (.int .u64 (n : Int)) = W10 at DY ⊢
            clear DX y0 f0 HE
            have DX := DY
            clear DY
            rcases num_spec b HB9.out.1 a1 HN.out.2.1 with ⟨n1, sz1, hn1, hs1, hs10, _, hS1, _, hE1⟩ | ⟨_, hS1, _, x1, m1, e1, he1, hE1⟩
            · obtain ⟨a2, ha2⟩ : ∃ a2, a2 = a1 + sz1 := ⟨_, rfl⟩
              rw [← ha2] at hs1 hS1 hE1
              have HA2 := Aside0.mk ha2
              clear ha2
              rw [hS1] at HFR HBAD
              dsimp only at HFR HBAD
              have HE := Aside0.mk hE1
              have HN1 := Aside0.mk (And.intro hn1 (And.intro hs1 hs10))
              clear hE1 hn1 hs1 hs10 hS1
              go_upto_region 19 with (first | (go_at_call 66; (with_reducible refine (num_calls b A cp a1 _ _ _ HE.out (a1 : Int) rfl _ (HRB.out.below DX.out.be) HB9.out.2.2).mono ?_); rintro e_ w9 ⟨rfl, hb_⟩; have DX := Aside0.mk (DX.out.below hb_); clear hb_; have y0 : w9.cell? ⟨g6, 1, none⟩ = some (.int .i64 0) := (blk_cell DX.out.b6 1).trans rfl; have f0 := blk_frozen DX.out.b6 1))
              have c0 := HN1.out.1
              have e1 : wrap64 (IntKind.u64.wrap ((n1 : Int) / 2)) = ((n1 / 2 : Nat) : Int) := by rw [Rr.uw _ (by omega) (by omega)]; unfold wrap64; omega
              rw [e1]
              have DY := Aside0.mk (DX.out.set 1 (.int .i64 ((n1 / 2 : Nat) : Int)) (a' := .int .u64 (n : Int)) (b' := .int .i64 ((n1 / 2 : Nat) : Int)) rfl 0 (.inl rfl))
              generalize w9.setCell ⟨g6, 1, none⟩ (.int .i64 ((n1 / 2 : Nat) : Int)) = W11 at DY ⊢
              clear DX y0 f0 HE c0 e1
              have DX := DY
              clear DY
              go_upto_if 77 with (fail)
              go_cut [] (fun wc => Aside0 (Dd w wc g6 (.int .u64 (n : Int)) (.int .i64 (zig n1)) (.slice none 0 0) (zig n1) []))
              case first =>
                have c0 := HN1.out.1
                have t0 : Int.tmod (n1 : Int) 2 = ((n1 % 2 : Nat) : Int) := by rw [Int.tmod_eq_emod_of_nonneg (by omega)]; omega
                have t1 : Int.tdiv (n1 : Int) 2 = ((n1 / 2 : Nat) : Int) := by rw [Int.tdiv_eq_ediv_of_nonneg (by omega)]; omega
                by_cases c : n1 % 2 = 1
                · have k1 : ((n1 : Int) % 2 == 1) = true := beq_iff_eq.2 (by omega)
                  have k2 : (Int.tmod (n1 : Int) 2 == 1) = true := beq_iff_eq.2 (by omega)
                  have y0 : W11.cell? ⟨g6, 1, none⟩ = some (.int .i64 ((n1 / 2 : Nat) : Int)) := (blk_cell DX.out.b6 1).trans rfl
                  have f0 := blk_frozen DX.out.b6 1
                  have e1 : wrap64 (IntKind.u64.wrap ((n1 : Int) / 2)) = ((n1 / 2 : Nat) : Int) := by rw [Rr.uw _ (by omega) (by omega)]; unfold wrap64; omega
                  have e2 : wrap64 (-1 - ((n1 / 2 : Nat) : Int)) = zig n1 := by unfold zig wrap64; rw [if_neg (by omega)]; omega
                  have HZ := Aside0.mk (And.intro e1 e2)
                  clear c t0 t1 e1 e2 c0
                  go_wp2
                  go_meet
                  case rel =>
                    have h := DX.out.set 1 (.int .i64 (zig n1)) (a' := .int .u64 (n : Int)) (b' := .int .i64 (zig n1)) rfl (zig n1) (.inl rfl)
                    rw [HZ.out.1, HZ.out.2]
                    exact ⟨h⟩
                · have k1 : ((n1 : Int) % 2 == 1) = false := beq_eq_false_iff_ne.2 (by omega)
                  have k2 : (Int.tmod (n1 : Int) 2 == 1) = false := beq_eq_false_iff_ne.2 (by omega)
                  have HZ := Aside0.mk (show ((n1 / 2 : Nat) : Int) = zig n1 from by unfold zig; rw [if_pos (by omega)])
                  clear c t0 t1 c0
                  go_wp2
                  go_meet
                  case rel =>
                    have h := DX.out
                    rw [HZ.out] at h
                    exact ⟨⟨h.b2, h.b4, h.b6, h.row, h.be, h.ge⟩⟩
              case rest =>
                clear DX
                have DX := hcut
                clear hcut
                rcases num_spec b HB9.out.1 a2 HN1.out.2.1 with ⟨n2, sz2, hn2, hs2, hs20, hN2, _, _, hE2⟩ | ⟨hN2, _, _, x2, m2, e2, he2, hE2⟩
                · obtain ⟨a3, ha3⟩ : ∃ a3, a3 = a2 + sz2 := ⟨_, rfl⟩
                  rw [← ha3] at hs2 hN2 hE2
                  have HA3 := Aside0.mk ha3
                  clear ha3
                  rw [hN2] at HFR HBAD
                  dsimp only at HFR HBAD
                  have HE := Aside0.mk hE2
                  have HN2 := Aside0.mk (And.intro hn2 (And.intro hs2 hs20))
                  clear hE2 hn2 hs2 hs20 hN2
                  obtain ⟨RR, hRR⟩ : ∃ RR, RR = recsP n2 (b.drop a3, 0) := ⟨_, rfl⟩
                  rw [← hRR] at HFR HBAD
                  have HRR := Aside0.mk hRR
                  clear hRR
                  go_upto_region 24 with (first | (go_at_call 66; (with_reducible refine (num_calls b A cp a2 _ _ _ HE.out (a2 : Int) rfl _ (HRB.out.below DX.out.be) HB9.out.2.2).mono ?_); rintro e_ w9 ⟨rfl, hb_⟩; have DX := Aside0.mk (DX.out.below hb_); clear hb_))
                  clear HE
                  have D0 := Aside0.mk (show Dd w w9 g6 (.int .u64 (n : Int)) (.int .i64 (zig n1)) (.slice none 0 0) (zig n1) [] from DX.out)
                  clear DX
                  go_wp2
                  go_loopg [8, 11] (b.length + 1) (fun kq v8 v11 wr => ∃ (at_ i m : Nat) (acc : List Rec) (rv : Value), v8 = .int .i64 (at_ : Int) ∧ v11 = .int .u64 (i : Int) ∧ Aside0 (b.length - at_ < kq ∧ at_ ≤ b.length ∧ acc.length ≤ at_ ∧ i + m = n2) ∧ Aside0 (Dd w wr g6 (.int .u64 (n : Int)) (.int .i64 (zig n1)) rv (zig n1) acc) ∧ Aside0 (acc ++ (recsP m (b.drop at_, 0)).1 = RR.1 ∧ (recsP m (b.drop at_, 0)).2 = RR.2))
                  case atStart => exact ⟨a3, 0, n2, [], .slice none 0 0, rfl, rfl, ⟨by omega, HN2.out.2.1, by simp, by omega⟩, D0, ⟨by rw [HRR.out]; rfl, by rw [HRR.out]⟩⟩
                  case round =>
                    clear D0
                    obtain ⟨at_, i, m, acc, rv, rfl, rfl, HI, DX, HE⟩ := hrel
                    cases m with
                    | zero =>
                      have d1 : ((i : Int) < (n2 : Int)) = False := eq_false (by have := HI.out.2.2.2; omega)
                      have d2 : decide ((i : Int) < (n2 : Int)) = false := decide_eq_false (by have := HI.out.2.2.2; omega)
                      have d2n : decide (i < n2) = false := decide_eq_false (by have := HI.out.2.2.2; omega)
                      have d2q : (i < n2) = False := eq_false (by have := HI.out.2.2.2; omega)
                      have HR1 := Aside0.mk (show acc = RR.1 ∧ ((b.drop at_, (0 : Int)) : S) = RR.2 from by
                        have h := HE.out
                        rw [show recsP 0 (b.drop at_, 0) = ([], (b.drop at_, 0)) from rfl, List.append_nil] at h
                        exact h)
                      clear HE
                      by_cases hlt : at_ < b.length
                      · have d3 : decide ((at_ : Int) < (b.length : Int)) = true := decide_eq_true (by omega)
                        have d3n : decide (at_ < b.length) = true := decide_eq_true hlt
                        have d3p : ((at_ : Int) < (b.length : Int)) = True := eq_true (by omega)
                        have d3q : (at_ < b.length) = True := eq_true hlt
                        have HD := Aside0.mk (show (decP bs).2 ≠ 0 from by
                          rw [HAN.out]
                          refine ans_err b ?_
                          rw [HFR.out, ← HR1.out.2]
                          dsimp only
                          rw [if_pos ⟨rfl, by rw [List.length_drop]; omega⟩]
                          decide)
                        clear hlt
                        have x40 : wr.cell? ⟨w.heap.size + 1, 0, none⟩ = some (.int .u64 0) := (blk_cell DX.out.b4 0).trans rfl
                        have x20 : wr.cell? ⟨w.heap.size, 0, none⟩ = some (.int .u64 0) := (blk_cell DX.out.b2 0).trans rfl
                        have z20 := blk_frozen DX.out.b2 0
                        have x41 : wr.cell? ⟨w.heap.size + 1, 1, none⟩ = some (.int .i64 0) := (blk_cell DX.out.b4 1).trans rfl
                        have x21 : wr.cell? ⟨w.heap.size, 1, none⟩ = some (.int .i64 0) := (blk_cell DX.out.b2 1).trans rfl
                        have z21 := blk_frozen DX.out.b2 1
                        have x42 : wr.cell? ⟨w.heap.size + 1, 2, none⟩ = some (.slice none 0 0) := (blk_cell DX.out.b4 2).trans rfl
                        have x22 : wr.cell? ⟨w.heap.size, 2, none⟩ = some (.slice none 0 0) := (blk_cell DX.out.b2 2).trans rfl
                        have z22 := blk_frozen DX.out.b2 2
                        go_wp2
                        refine bodyPost_ret (results_ct rfl _ _ w.heap.size 44 ZC (0, 0) _ rfl (blk_put (blk_put (blk_put DX.out.b2 0 _ rfl) 1 _ rfl) 2 _ rfl) Tryz.underlying44 rfl HSZ.out) rfl ?_
                        exact ⟨.inr ⟨HD.out, 11, by decide, rfl⟩, below_set (below_set (below_set DX.out.be (Nat.le_refl _)) (Nat.le_refl _)) (Nat.le_refl _)⟩
                      · have d3 : decide ((at_ : Int) < (b.length : Int)) = false := decide_eq_false (by omega)
                        have d3n : decide (at_ < b.length) = false := decide_eq_false hlt
                        have d3p : ((at_ : Int) < (b.length : Int)) = False := eq_false (by omega)
                        have d3q : (at_ < b.length) = False := eq_false hlt
                        obtain ⟨Ao, co, rfl⟩ := row_form DX.out.row
                        have HRA := Aside0.mk (recsAt_of_row DX.out.row (by have := HI.out.2.2.1; have := HI.out.2.1; have := HB9.out.1; omega))
                        have HLE := Aside0.mk (own_le DX.out.row)
                        have HFM := Aside0.mk (show frmP (b.drop 4) = (⟨n, zig n1, acc⟩, 0) from by
                          rw [HFR.out, ← HR1.out.2, ← HR1.out.1]
                          dsimp only
                          rw [if_neg (fun h => by have := h.2; rw [List.length_drop] at this; omega)])
                        obtain ⟨q, hq⟩ : ∃ q, q = mayP ⟨n, zig n1, acc⟩ := ⟨_, rfl⟩
                        have HM := Aside0.mk (fun (W : World) (hb : Below wr.heap.size wr W) => may_calls2 n (zig n1) acc (by have := HI.out.2.2.1; have := HI.out.2.1; have := HB9.out.1; omega) Ao co HLE.out W (HRA.out.below hb))
                        rw [← hq] at HM
                        have HQ := Aside0.mk hq
                        clear hq hlt
                        have y0 : wr.cell? ⟨g6, 0, none⟩ = some (.int .u64 (n : Int)) := (blk_cell DX.out.b6 0).trans rfl
                        have y1 : wr.cell? ⟨g6, 1, none⟩ = some (.int .i64 (zig n1)) := (blk_cell DX.out.b6 1).trans rfl
                        have y2 : wr.cell? ⟨g6, 2, none⟩ = some (.slice Ao acc.length co) := (blk_cell DX.out.b6 2).trans rfl
                        cases q with
                        | false =>
                          have HD := Aside0.mk (show (decP bs).2 ≠ 0 from by
                            rw [HAN.out]
                            unfold ansP
                            rw [HFM.out]
                            dsimp only
                            rw [if_neg (by simp), if_pos (.inr HQ.out.symm)]
                            simp)
                          go_upto_region 35 with (first | (go_at_call 51; (with_reducible refine (HM.out _ (Below.refl _ _)).mono ?_); rintro e_ w10 ⟨rfl, hb_⟩; have DY := Aside0.mk (DX.out.below hb_); have hbb_ := Aside0.mk hb_; clear hb_))
                          have x40 : w10.cell? ⟨w.heap.size + 1, 0, none⟩ = some (.int .u64 0) := (blk_cell DY.out.b4 0).trans rfl
                          have x20 : w10.cell? ⟨w.heap.size, 0, none⟩ = some (.int .u64 0) := (blk_cell DY.out.b2 0).trans rfl
                          have z20 := blk_frozen DY.out.b2 0
                          have x41 : w10.cell? ⟨w.heap.size + 1, 1, none⟩ = some (.int .i64 0) := (blk_cell DY.out.b4 1).trans rfl
                          have x21 : w10.cell? ⟨w.heap.size, 1, none⟩ = some (.int .i64 0) := (blk_cell DY.out.b2 1).trans rfl
                          have z21 := blk_frozen DY.out.b2 1
                          have x42 : w10.cell? ⟨w.heap.size + 1, 2, none⟩ = some (.slice none 0 0) := (blk_cell DY.out.b4 2).trans rfl
                          have x22 : w10.cell? ⟨w.heap.size, 2, none⟩ = some (.slice none 0 0) := (blk_cell DY.out.b2 2).trans rfl
                          have z22 := blk_frozen DY.out.b2 2
                          go_wp2
                          refine bodyPost_ret (results_ct rfl _ _ w.heap.size 44 ZC (0, 0) _ rfl (blk_put (blk_put (blk_put DY.out.b2 0 _ rfl) 1 _ rfl) 2 _ rfl) Tryz.underlying44 rfl HSZ.out) rfl ?_
                          exact ⟨.inr ⟨HD.out, 2, by decide, rfl⟩, below_set (below_set (below_set DY.out.be (Nat.le_refl _)) (Nat.le_refl _)) (Nat.le_refl _)⟩
                        | true =>
                          have HD := Aside0.mk (show decP bs = (⟨n, zig n1, acc⟩, 0) from by
                            rw [HAN.out]
                            unfold ansP
                            rw [HFM.out]
                            dsimp only
                            rw [if_neg (by simp), if_neg (by rw [← HQ.out]; simp)])
                          go_upto_region 36 with (first | (go_at_call 51; (with_reducible refine (HM.out _ (Below.refl _ _)).mono ?_); rintro e_ w10 ⟨rfl, hb_⟩; have DY := Aside0.mk (DX.out.below hb_); have hbb_ := Aside0.mk hb_; clear hb_))
                          clear y0 y1 y2
                          have y0 : w10.cell? ⟨g6, 0, none⟩ = some (.int .u64 (n : Int)) := (blk_cell DY.out.b6 0).trans rfl
                          have y1 : w10.cell? ⟨g6, 1, none⟩ = some (.int .i64 (zig n1)) := (blk_cell DY.out.b6 1).trans rfl
                          have y2 : w10.cell? ⟨g6, 2, none⟩ = some (.slice Ao acc.length co) := (blk_cell DY.out.b6 2).trans rfl
                          have x40 : w10.cell? ⟨w.heap.size + 1, 0, none⟩ = some (.int .u64 0) := (blk_cell DY.out.b4 0).trans rfl
                          have x20 : w10.cell? ⟨w.heap.size, 0, none⟩ = some (.int .u64 0) := (blk_cell DY.out.b2 0).trans rfl
                          have z20 := blk_frozen DY.out.b2 0
                          have x41 : w10.cell? ⟨w.heap.size + 1, 1, none⟩ = some (.int .i64 0) := (blk_cell DY.out.b4 1).trans rfl
                          have x21 : w10.cell? ⟨w.heap.size, 1, none⟩ = some (.int .i64 0) := (blk_cell DY.out.b2 1).trans rfl
                          have z21 := blk_frozen DY.out.b2 1
                          have x42 : w10.cell? ⟨w.heap.size + 1, 2, none⟩ = some (.slice none 0 0) := (blk_cell DY.out.b4 2).trans rfl
                          have x22 : w10.cell? ⟨w.heap.size, 2, none⟩ = some (.slice none 0 0) := (blk_cell DY.out.b2 2).trans rfl
                          have z22 := blk_frozen DY.out.b2 2
                          go_wp2
                          refine bodyPost_ret (results_ct rfl _ _ w.heap.size 44 #[.int .u64 (n : Int), .int .i64 (zig n1), .slice Ao acc.length co] (0, 0) _ rfl (blk_put (blk_put (blk_put DY.out.b2 0 _ rfl) 1 _ rfl) 2 _ rfl) Tryz.underlying44 rfl HSZ.out) rfl ?_
                          unfold DecSays
                          rw [HD.out]
                          refine ⟨.inl ⟨rfl, Ao, co, rfl, HLE.out, ?_, fun ad ha => own_base DX.out.row _ (by rw [ha]; rfl)⟩, below_set (below_set (below_set DY.out.be (Nat.le_refl _)) (Nat.le_refl _)) (Nat.le_refl _)⟩
                          have hK : Keep (fun j => j = w.heap.size) w10 (((w10.setCell ⟨w.heap.size, 0, none⟩ (.int .u64 (n : Int))).setCell ⟨w.heap.size, 1, none⟩ (.int .i64 (zig n1))).setCell ⟨w.heap.size, 2, none⟩ (.slice Ao acc.length co)) := (((Keep.refl (fun j => j = w.heap.size) w10).set (g := w.heap.size) rfl 0 _).set (g := w.heap.size) rfl 1 _).set (g := w.heap.size) rfl 2 _
                          refine Sk.RecsAt.keep (HRA.out.below hbb_.out) hK (fun ad ha hn e => ?_)
                          have e' : ad.block = w.heap.size := e
                          obtain ⟨cs', hc'⟩ := own_typed DX.out.row ad.block (by rw [ha]; rfl)
                          rw [e', DX.out.b2] at hc'
                          injection hc' with hc'
                          injection hc' with _ ht
                          exact absurd ht (by decide)
                    | succ m =>
                      have d1 : ((i : Int) < (n2 : Int)) = True := eq_true (by have := HI.out.2.2.2; omega)
                      have d2 : decide ((i : Int) < (n2 : Int)) = true := decide_eq_true (by have := HI.out.2.2.2; omega)
                      have d2n : decide (i < n2) = true := decide_eq_true (by have := HI.out.2.2.2; omega)
                      have d2q : (i < n2) = True := eq_true (by have := HI.out.2.2.2; omega)
                      have y1 : wr.cell? ⟨g6, 1, none⟩ = some (.int .i64 (zig n1)) := (blk_cell DX.out.b6 1).trans rfl
                      rcases rec_spec b HB9.out.1 at_ HI.out.2.1 (zig n1) with ⟨r, a', h1, h2, h3, hE⟩ | ⟨hR, nm, w_, ii, rr, o_, ma, e, he, hE⟩
                      · have hrr : recsP (m + 1) (b.drop at_, 0) = (r :: (recsP m (b.drop a', 0)).1, (recsP m (b.drop a', 0)).2) := by rw [recsP_go _ _ rfl, h1]
                        have HK := Aside0.mk hE
                        have HH := Aside0.mk (And.intro h2 h3)
                        have HE2 := Aside0.mk (show (acc ++ [r]) ++ (recsP m (b.drop a', 0)).1 = RR.1 ∧ (recsP m (b.drop a', 0)).2 = RR.2 from by
                          have h := HE.out
                          rw [hrr] at h
                          rw [List.append_assoc]
                          exact h)
                        clear hE h1 h2 h3 hrr HE
                        go_upto_region 28 with (first | (go_at_call 67; (with_reducible refine (rec_calls b A cp at_ (zig n1) _ _ _ _ _ _ _ HK.out _ (HRB.out.below DX.out.be) HB9.out.2.2).mono ?_); rintro e_ w9 ⟨rfl, hb_⟩; have DY := Aside0.mk (DX.out.below hb_); clear hb_))
                        have DZ := Aside0.mk (DY.out.below (below_alloc (Below.refl _ _) (.cells #[.string r.name, .int .i64 (zig n1), .int .i64 r.inc, .int .i64 r.rate, .bool r.over] 73)))
                        have BX := Aside0.mk (blk_new w9 (.cells #[.string r.name, .int .i64 (zig n1), .int .i64 r.inc, .int .i64 r.rate, .bool r.over] 73))
                        generalize w9.alloc (.cells #[.string r.name, .int .i64 (zig n1), .int .i64 r.inc, .int .i64 r.rate, .bool r.over] 73) = W8 at DZ BX ⊢
                        generalize w9.heap.size = gx at BX ⊢
                        clear DX DY y1 HK
                        have g2 : W8.cell? ⟨g6, 2, none⟩ = some rv := (blk_cell DZ.out.b6 2).trans rfl
                        have p2 := blk_frozen DZ.out.b6 2
                        have x0 : W8.cell? ⟨gx, 0, none⟩ = some (.string r.name) := (blk_cell BX.out 0).trans rfl
                        have x1 : W8.cell? ⟨gx, 1, none⟩ = some (.int .i64 (zig n1)) := (blk_cell BX.out 1).trans rfl
                        have x2 : W8.cell? ⟨gx, 2, none⟩ = some (.int .i64 r.inc) := (blk_cell BX.out 2).trans rfl
                        have x3 : W8.cell? ⟨gx, 3, none⟩ = some (.int .i64 r.rate) := (blk_cell BX.out 3).trans rfl
                        have x4 : W8.cell? ⟨gx, 4, none⟩ = some (.bool r.over) := (blk_cell BX.out 4).trans rfl
                        obtain ⟨i0, hi0, hz0, hz1, hz2⟩ := info_parts rec_info
                        have HIX := Aside0.mk (And.intro hi0 (And.intro hz0 (And.intro hz1 hz2)))
                        clear hi0 hz0 hz1 hz2
                        have HLN := Aside0.mk (show acc.length ≤ 1000000 from by have := HI.out.2.2.1; have := HI.out.2.1; have := HB9.out.1; omega)
                        go_wp2_with (first | (at_builtin; refine wpList_append_own _ rfl (.tmp 114) (.tmp 116) 42 rfl w.heap.size 73 i0 (.agg #[.string ⟨#[]⟩, .int .i64 0, .int .i64 0, .int .i64 0, .bool false]) 5 48 Tryz.underlying42 HIX.out.1 HIX.out.2.1 HIX.out.2.2.1 HIX.out.2.2.2 rfl (by decide) rv acc.length (recsC (zig n1) acc) rfl (pw_own_below DZ.out.row (below_alloc (Below.refl _ _) _)) ⟨W8.heap.size, 0, none⟩ 1 1 (recC (zig n1) r) rfl rfl ?aC ?aO ?aM ?aB ?aH ?_; (case aC => intro j u hj; rw [show (⟨W8.heap.size, 0, none⟩ : Addr).add j = ⟨W8.heap.size, j, none⟩ from add_plain _ _, blk_cell (blk_new W8 _) j]; rw [← hj]; simp [recC]); (case aO => intro u hu; simp only [recC, List.mem_cons, List.not_mem_nil, or_false] at hu; rcases hu with rfl | rfl | rfl | rfl | rfl <;> rfl); (case aM => have := HLN.out; unfold maxLen; omega); (case aB => have := HLN.out; omega); (case aH => have := blk_lt DZ.out.b2; simp; omega); intro v' w10 hown hgr _; obtain ⟨gn, cn, rfl⟩ := row_succ hown; have HAA := Aside0.mk (DZ.out.below (below_alloc (Below.refl _ _) (.cells #[.string r.name, .int .i64 (zig n1), .int .i64 r.inc, .int .i64 r.rate, .bool r.over] 73))); have HG := Aside0.mk (HAA.out.app (r := r) hown hgr); have p3 := blk_frozen HG.out.1 2; have g3 : w10.cell? ⟨g6, 2, none⟩ = some rv := (blk_cell HG.out.1 2).trans rfl; clear hown hgr HAA))
                        go_roundg (gk - 1)
                        case measure => have := HI.out.1; omega
                        case rel =>
                          have hwi : IntKind.u64.wrap ((i : Int) + 1) = ((i + 1 : Nat) : Int) := by have := HI.out.2.2.2; have := HN2.out.1; rw [Rr.uw _ (by omega) (by omega)]; omega
                          exact ⟨a', i + 1, m, acc ++ [r], _, rfl, by first | rfl | (rw [hwi]), ⟨by have := HI.out.1; have := HH.out; omega, HH.out.2, by rw [List.length_append]; have := HI.out.2.2.1; have := HH.out.1; simp; omega, by have := HI.out.2.2.2; omega⟩, ⟨HG.out.2⟩, HE2⟩
                      · have HK := Aside0.mk hE
                        have HD := Aside0.mk (show (decP bs).2 ≠ 0 from HBAD.out (by
                          rw [← HE.out.2, recsP_go _ _ rfl]
                          exact recsP_err _ _ hR))
                        have HEE := Aside0.mk he
                        have ee : (e == 0) = false := beq_eq_false_iff_ne.2 he
                        have ef : (e != 0) = true := bne_iff_ne.2 he
                        clear hE hR he HE
                        go_upto_region 29 with (first | (go_at_call 67; (with_reducible refine (rec_calls b A cp at_ (zig n1) _ _ _ _ _ _ _ HK.out _ (HRB.out.below DX.out.be) HB9.out.2.2).mono ?_); rintro e_ w9 ⟨rfl, hb_⟩; have DY := Aside0.mk (DX.out.below hb_); clear hb_))
                        have DZ := Aside0.mk (DY.out.below (below_alloc (Below.refl _ _) (.cells #[.string nm, .int .i64 w_, .int .i64 ii, .int .i64 rr, .bool o_] 73)))
                        generalize w9.alloc (.cells #[.string nm, .int .i64 w_, .int .i64 ii, .int .i64 rr, .bool o_] 73) = W8 at DZ ⊢
                        clear DX DY y1 HK
                        have x40 : W8.cell? ⟨w.heap.size + 1, 0, none⟩ = some (.int .u64 0) := (blk_cell DZ.out.b4 0).trans rfl
                        have x20 : W8.cell? ⟨w.heap.size, 0, none⟩ = some (.int .u64 0) := (blk_cell DZ.out.b2 0).trans rfl
                        have z20 := blk_frozen DZ.out.b2 0
                        have x41 : W8.cell? ⟨w.heap.size + 1, 1, none⟩ = some (.int .i64 0) := (blk_cell DZ.out.b4 1).trans rfl
                        have x21 : W8.cell? ⟨w.heap.size, 1, none⟩ = some (.int .i64 0) := (blk_cell DZ.out.b2 1).trans rfl
                        have z21 := blk_frozen DZ.out.b2 1
                        have x42 : W8.cell? ⟨w.heap.size + 1, 2, none⟩ = some (.slice none 0 0) := (blk_cell DZ.out.b4 2).trans rfl
                        have x22 : W8.cell? ⟨w.heap.size, 2, none⟩ = some (.slice none 0 0) := (blk_cell DZ.out.b2 2).trans rfl
                        have z22 := blk_frozen DZ.out.b2 2
                        go_wp2
                        refine bodyPost_ret (results_ct rfl _ _ w.heap.size 44 ZC (0, 0) _ rfl (blk_put (blk_put (blk_put DZ.out.b2 0 _ rfl) 1 _ rfl) 2 _ rfl) Tryz.underlying44 rfl HSZ.out) rfl ?_
                        exact ⟨.inr ⟨HD.out, e, HEE.out, rfl⟩, below_set (below_set (below_set DZ.out.be (Nat.le_refl _)) (Nat.le_refl _)) (Nat.le_refl _)⟩
                · skip
                  have ee : (e2 == 0) = false := beq_eq_false_iff_ne.2 he2
                  have ef : (e2 != 0) = true := bne_iff_ne.2 he2
                  have HEE := Aside0.mk he2
                  go_upto_region 23 with (first | (go_at_call 66; (with_reducible refine (num_calls b A cp a2 _ _ _ hE2 (a2 : Int) rfl _ (HRB.out.below DX.out.be) HB9.out.2.2).mono ?_); rintro e_ w9 ⟨rfl, hb_⟩; have DX := Aside0.mk (DX.out.below hb_); clear hb_))
                  have x40 : w9.cell? ⟨w.heap.size + 1, 0, none⟩ = some (.int .u64 0) := (blk_cell DX.out.b4 0).trans rfl
                  have x20 : w9.cell? ⟨w.heap.size, 0, none⟩ = some (.int .u64 0) := (blk_cell DX.out.b2 0).trans rfl
                  have z20 := blk_frozen DX.out.b2 0
                  have x41 : w9.cell? ⟨w.heap.size + 1, 1, none⟩ = some (.int .i64 0) := (blk_cell DX.out.b4 1).trans rfl
                  have x21 : w9.cell? ⟨w.heap.size, 1, none⟩ = some (.int .i64 0) := (blk_cell DX.out.b2 1).trans rfl
                  have z21 := blk_frozen DX.out.b2 1
                  have x42 : w9.cell? ⟨w.heap.size + 1, 2, none⟩ = some (.slice none 0 0) := (blk_cell DX.out.b4 2).trans rfl
                  have x22 : w9.cell? ⟨w.heap.size, 2, none⟩ = some (.slice none 0 0) := (blk_cell DX.out.b2 2).trans rfl
                  have z22 := blk_frozen DX.out.b2 2
                  go_wp2
                  refine bodyPost_ret (results_ct rfl _ _ w.heap.size 44 ZC (0, 0) _ rfl (blk_put (blk_put (blk_put DX.out.b2 0 _ rfl) 1 _ rfl) 2 _ rfl) Tryz.underlying44 rfl HSZ.out) rfl ?_
                  exact ⟨.inr ⟨(HBAD.out (recsP_err _ _ hN2)), e2, HEE.out, rfl⟩, below_set (below_set (below_set DX.out.be (Nat.le_refl _)) (Nat.le_refl _)) (Nat.le_refl _)⟩
            · skip
              have ee : (e1 == 0) = false := beq_eq_false_iff_ne.2 he1
              have ef : (e1 != 0) = true := bne_iff_ne.2 he1
              have HEE := Aside0.mk he1
              go_upto_region 17 with (first | (go_at_call 66; (with_reducible refine (num_calls b A cp a1 _ _ _ hE1 (a1 : Int) rfl _ (HRB.out.below DX.out.be) HB9.out.2.2).mono ?_); rintro e_ w9 ⟨rfl, hb_⟩; have DX := Aside0.mk (DX.out.below hb_); clear hb_))
              have x40 : w9.cell? ⟨w.heap.size + 1, 0, none⟩ = some (.int .u64 0) := (blk_cell DX.out.b4 0).trans rfl
              have x20 : w9.cell? ⟨w.heap.size, 0, none⟩ = some (.int .u64 0) := (blk_cell DX.out.b2 0).trans rfl
              have z20 := blk_frozen DX.out.b2 0
              have x41 : w9.cell? ⟨w.heap.size + 1, 1, none⟩ = some (.int .i64 0) := (blk_cell DX.out.b4 1).trans rfl
              have x21 : w9.cell? ⟨w.heap.size, 1, none⟩ = some (.int .i64 0) := (blk_cell DX.out.b2 1).trans rfl
              have z21 := blk_frozen DX.out.b2 1
              have x42 : w9.cell? ⟨w.heap.size + 1, 2, none⟩ = some (.slice none 0 0) := (blk_cell DX.out.b4 2).trans rfl
              have x22 : w9.cell? ⟨w.heap.size, 2, none⟩ = some (.slice none 0 0) := (blk_cell DX.out.b2 2).trans rfl
              have z22 := blk_frozen DX.out.b2 2
              go_wp2
              refine bodyPost_ret (results_ct rfl _ _ w.heap.size 44 ZC (0, 0) _ rfl (blk_put (blk_put (blk_put DX.out.b2 0 _ rfl) 1 _ rfl) 2 _ rfl) Tryz.underlying44 rfl HSZ.out) rfl ?_
              exact ⟨.inr ⟨(HBAD.out (recsP_err _ _ (numP_err _ hS1))), e1, HEE.out, rfl⟩, below_set (below_set (below_set DX.out.be (Nat.le_refl _)) (Nat.le_refl _)) (Nat.le_refl _)⟩
          · skip
            have ee : (e0 == 0) = false := beq_eq_false_iff_ne.2 he0
            have ef : (e0 != 0) = true := bne_iff_ne.2 he0
            have HEE := Aside0.mk he0
            go_upto_region 13 with (first | (go_at_call 66; (with_reducible refine (num_calls b A cp 4 _ _ _ hE 4 rfl _ (HRB.out.below DX.out.be) HB9.out.2.2).mono ?_); rintro e_ w9 ⟨rfl, hb_⟩; have DX := Aside0.mk (DX.out.below hb_); clear hb_))
            have x40 : w9.cell? ⟨w.heap.size + 1, 0, none⟩ = some (.int .u64 0) := (blk_cell DX.out.b4 0).trans rfl
            have x20 : w9.cell? ⟨w.heap.size, 0, none⟩ = some (.int .u64 0) := (blk_cell DX.out.b2 0).trans rfl
            have z20 := blk_frozen DX.out.b2 0
            have x41 : w9.cell? ⟨w.heap.size + 1, 1, none⟩ = some (.int .i64 0) := (blk_cell DX.out.b4 1).trans rfl
            have x21 : w9.cell? ⟨w.heap.size, 1, none⟩ = some (.int .i64 0) := (blk_cell DX.out.b2 1).trans rfl
            have z21 := blk_frozen DX.out.b2 1
            have x42 : w9.cell? ⟨w.heap.size + 1, 2, none⟩ = some (.slice none 0 0) := (blk_cell DX.out.b4 2).trans rfl
            have x22 : w9.cell? ⟨w.heap.size, 2, none⟩ = some (.slice none 0 0) := (blk_cell DX.out.b2 2).trans rfl
            have z22 := blk_frozen DX.out.b2 2
            go_wp2
            refine bodyPost_ret (results_ct rfl _ _ w.heap.size 44 ZC (0, 0) _ rfl (blk_put (blk_put (blk_put DX.out.b2 0 _ rfl) 1 _ rfl) 2 _ rfl) Tryz.underlying44 rfl HSZ.out) rfl ?_
            exact ⟨.inr ⟨(HBAD.out (recsP_err _ _ (numP_err _ (sgP_err _ hN)))), e0, HEE.out, rfl⟩, below_set (below_set (below_set DX.out.be (Nat.le_refl _)) (Nat.le_refl _)) (Nat.le_refl _)⟩
        | false =>
          have c2 : ¬ be4 (crc b) = dd := by have h := HQ.out; exact ne_of_beq_false h.symm
          have HD := Aside0.mk (show (decP bs).2 ≠ 0 from by
            unfold decP
            rw [if_neg HC1.out, if_neg HBL.out.2.2.2, ← HBL.out.2.2.1, if_pos (by rw [← HDD.out]; exact fun h => c2 h.symm)]
            simp)
          clear c2 HQ
          have x40 : w8.cell? ⟨w.heap.size + 1, 0, none⟩ = some (.int .u64 0) := (blk_cell B4b.out 0).trans rfl
          have x20 : w8.cell? ⟨w.heap.size, 0, none⟩ = some (.int .u64 0) := (blk_cell B2b.out 0).trans rfl
          have z20 := blk_frozen B2b.out 0
          have x41 : w8.cell? ⟨w.heap.size + 1, 1, none⟩ = some (.int .i64 0) := (blk_cell B4b.out 1).trans rfl
          have x21 : w8.cell? ⟨w.heap.size, 1, none⟩ = some (.int .i64 0) := (blk_cell B2b.out 1).trans rfl
          have z21 := blk_frozen B2b.out 1
          have x42 : w8.cell? ⟨w.heap.size + 1, 2, none⟩ = some (.slice none 0 0) := (blk_cell B4b.out 2).trans rfl
          have x22 : w8.cell? ⟨w.heap.size, 2, none⟩ = some (.slice none 0 0) := (blk_cell B2b.out 2).trans rfl
          have z22 := blk_frozen B2b.out 2
          go_wp2
          refine bodyPost_ret (results_ct rfl _ _ w.heap.size 44 ZC (0, 0) _ rfl (blk_put (blk_put (blk_put B2b.out 0 _ rfl) 1 _ rfl) 2 _ rfl) Tryz.underlying44 rfl HSZ.out) rfl ?_
          exact ⟨.inr ⟨HD.out, 24, by decide, rfl⟩, below_set (below_set (below_set BEb.out (Nat.le_refl _)) (Nat.le_refl _)) (Nat.le_refl _)⟩
end Go.Proofs.YtpihpkphhkcdlaaGreatDoor.Wd
