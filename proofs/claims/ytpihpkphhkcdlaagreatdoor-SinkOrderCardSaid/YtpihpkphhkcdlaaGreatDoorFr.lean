/- A reader's frame. -/
import Derived.Test.YtpihpkphhkcdlaaGreatDoorRm
import Derived.Deep.RegionWith
import Derived.OwnWalk
import Derived.Laws.AppendOwn
namespace Go.Proofs.YtpihpkphhkcdlaaGreatDoor.Fr
open Go.RowKit Go.Proofs.YtpihpkphhkcdlaaGreatDoorW.PrintWords Go.Proofs.YtpihpkphhkcdlaaGreatDoorW.PrintLast Go.Proofs.YtpihpkphhkcdlaaGreatDoor.Tab Go.Proofs.YtpihpkphhkcdlaaGreatDoor.Rdn Go.Proofs.YtpihpkphhkcdlaaGreatDoor.Kp Go.Proofs.YtpihpkphhkcdlaaGreatDoor.Pd Go.Proofs.YtpihpkphhkcdlaaGreatDoor.Pk Go.Proofs.YtpihpkphhkcdlaaGreatDoor.Rd Go.Proofs.YtpihpkphhkcdlaaGreatDoor.Rm
set_option linter.unusedVariables false
set_option linter.unusedSimpArgs false
/-- A record's cells; a row of records'. -/
def recC (win : Int) (r : Rec) : List Value := [.string r.name, .int .i64 win, .int .i64 r.inc, .int .i64 r.rate, .bool r.over]
def recsC (win : Int) (rs : List Rec) : List Value := rs.flatMap (recC win)
theorem recsC_snoc (win : Int) (rs : List Rec) (r : Rec) : recsC win (rs ++ [r]) = recsC win rs ++ recC win r := by unfold recsC; simp
theorem ck_zero {c e : Int} : ck c e = 0 ↔ c = 0 ∧ e = 0 := by
  unfold ck
  by_cases h1 : c = 0 <;> by_cases h2 : e = 0 <;> by_cases h3 : e = 11 <;> simp_all <;> omega
theorem tk_ok {s : S} {n : Nat} {e : Int} (h : (tk s n e).2 = 0) : s.2 = 0 ∧ e = 0 ∧ (tk s n e).1 = s.1.drop n := by
  have := ck_zero.1 (show ck s.2 e = 0 from h)
  exact ⟨this.1, this.2, if_pos this⟩
theorem tk_le (s : S) (n : Nat) (e : Int) : (tk s n e).1.length ≤ s.1.length := by
  unfold tk
  dsimp only
  split
  · rw [List.length_drop]; omega
  · exact Nat.le_refl _
theorem numP_le (s : S) : (numP s).2.1.length ≤ s.1.length := tk_le _ _ _
theorem txP_le (s : S) : (txP s).2.1.length ≤ s.1.length := tk_le _ _ _
theorem sgP_le (s : S) : (sgP s).2.1.length ≤ s.1.length := tk_le _ _ _
theorem numP_ok {s : S} (h : (numP s).2.2 = 0) : s.2 = 0 := (tk_ok (show (tk s _ _).2 = 0 from h)).1
theorem txP_ok {s : S} (h : (txP s).2.2 = 0) : s.2 = 0 := (tk_ok (show (tk s _ _).2 = 0 from h)).1
theorem flP_ok {s : S} (h : (flP s).2.2 = 0) : (flP s).2.1.length + 1 ≤ s.1.length := by
  obtain ⟨bs, c⟩ := s
  cases bs with
  | nil => exact absurd (tk_ok (show (tk ([], c) 0 11).2 = 0 from h)).2.1 (by decide)
  | cons x t =>
    have := (tk_ok (show (tk (x :: t, c) 1 _).2 = 0 from h)).2.2
    show (tk (x :: t, c) 1 _).1.length + 1 ≤ _
    rw [this]
    simp
theorem recP_lt {s : S} (h : (recP s).2.2 = 0) : (recP s).2.1.length + 1 ≤ s.1.length := by
  have h1 := flP_ok (show (flP (numP (numP (txP s).2).2).2).2.2 = 0 from h)
  have h2 := numP_le (numP (txP s).2).2
  have h3 := numP_le (txP s).2
  have h4 := txP_le s
  show (flP (numP (numP (txP s).2).2).2).2.1.length + 1 ≤ _
  omega
theorem own_keepG {w W : World} {base : Nat} {e : TypeId} {size n g : Nat} {v : Value} {xs : List Value} (h : w.ownsRow base e size v n xs) (k : Keep (G1 g) w W) (hg : g < base) : W.ownsRow base e size v n xs :=
  own_move h fun j hj => k.block j (own_lt h j hj) (fun he => by have := own_base h j hj; have : j = g := he; omega)
theorem rec_info : (Tryz.prog.info? 73).map (fun i => (i.zero, i.size, i.bytes)) = some (some (.agg #[.string ⟨#[]⟩, .int .i64 0, .int .i64 0, .int .i64 0, .bool false]), 5, 48) := by kernel_rfl
/-- While a frame is read: the frame's own block, its row of records, the reader. -/
structure At (w W : World) (g : Nat) (a b rv : Value) (win : Int) (rs : List Rec) (s : S) : Prop where
  fb : W.heap[w.heap.size]? = some (.cells #[a, b, rv] 44 (0, 0))
  row : W.ownsRow w.heap.size 73 5 rv rs.length (recsC win rs)
  rd : IsR w.heap.size W g s
  kp : Keep (G1 g) w W
  gl : g < w.heap.size
  gb : Glob w
  ng : ¬ G1 g 0
theorem At.glob {w W : World} {g : Nat} {a b rv : Value} {win : Int} {rs : List Rec} {s : S} (h : At w W g a b rv win rs s) : Glob W := h.gb.keep h.kp h.ng
theorem At.read {w W W' : World} {g : Nat} {a b rv : Value} {win : Int} {rs : List Rec} {s s' : S} (h : At w W g a b rv win rs s) (hr : IsR w.heap.size W' g s') (k : Keep (G1 g) W W') : At w W' g a b rv win rs s' :=
  ⟨k.blk h.fb (fun e => by have : w.heap.size = g := e; have := h.gl; omega), own_keepG h.row k h.gl, hr, h.kp.trans k fun _ _ => id, h.gl, h.gb, h.ng⟩
theorem At.below {w W W' : World} {g : Nat} {a b rv : Value} {win : Int} {rs : List Rec} {s : S} (h : At w W g a b rv win rs s) (k : Below W.heap.size W W') : At w W' g a b rv win rs s :=
  ⟨(k.block _ (blk_lt h.fb)).trans h.fb, pw_own_below h.row k, h.rd.below k, h.kp.step k, h.gl, h.gb, h.ng⟩
theorem At.put {w W : World} {g : Nat} {a b rv a' b' : Value} {win : Int} {rs : List Rec} {s : S} (h : At w W g a b rv win rs s) (i : Nat) (u : Value) (e : (#[a, b, rv] : Array Value).setIfInBounds i u = #[a', b', rv]) : At w (W.setCell ⟨w.heap.size, i, none⟩ u) g a' b' rv win rs s := by
  have k : Keep (fun k => k = w.heap.size) W (W.setCell ⟨w.heap.size, i, none⟩ u) := (Keep.refl (fun k => k = w.heap.size) W).set (g := w.heap.size) rfl i u
  refine ⟨blk_put h.fb i u e, own_move h.row fun j hj => ?_, h.rd.keep k (fun e => by have : g = w.heap.size := e; have := h.gl; omega) (fun j hj => by have : j = w.heap.size := hj; omega), ?_, h.gl, h.gb, h.ng⟩
  · refine Below.heap_setCell W ⟨w.heap.size, i, none⟩ u j (fun e => ?_)
    have e' : j = w.heap.size := e
    subst e'
    obtain ⟨cs, hc⟩ := own_typed h.row _ hj
    rw [h.fb] at hc
    injection hc with hc
    injection hc with _ ht
    exact absurd ht (by decide)
  · exact h.kp.trans k fun j hj hk => by have : j = w.heap.size := hk; omega
/-- .. and a record's own block. -/
structure AtX (w W : World) (g : Nat) (a b rv : Value) (win : Int) (rs : List Rec) (s : S) (gx : Nat) (xs : Array Value) : Prop where
  at_ : At w W g a b rv win rs s
  xb : W.heap[gx]? = some (.cells xs 73 (0, 0))
  xg : w.heap.size < gx
  xr : rv.ownBlock ≠ some gx
theorem AtX.new {w W : World} {g : Nat} {a b rv : Value} {win : Int} {rs : List Rec} {s : S} (h : At w W g a b rv win rs s) (xs : Array Value) : AtX w (W.alloc (.cells xs 73)) g a b rv win rs s W.heap.size xs :=
  ⟨h.below (below_alloc (Below.refl _ _) _), blk_new W _, blk_lt h.fb, fun e => by have := own_lt h.row _ e; omega⟩
theorem AtX.read {w W W' : World} {g : Nat} {a b rv : Value} {win : Int} {rs : List Rec} {s s' : S} {gx : Nat} {xs : Array Value} (h : AtX w W g a b rv win rs s gx xs) (hr : IsR w.heap.size W' g s') (k : Keep (G1 g) W W') : AtX w W' g a b rv win rs s' gx xs :=
  ⟨h.at_.read hr k, k.blk h.xb (fun e => by have : gx = g := e; have := h.at_.gl; have := h.xg; omega), h.xg, h.xr⟩
theorem AtX.put {w W : World} {g : Nat} {a b rv : Value} {win : Int} {rs : List Rec} {s : S} {gx : Nat} {xs xs' : Array Value} (h : AtX w W g a b rv win rs s gx xs) (i : Nat) (u : Value) (e : xs.setIfInBounds i u = xs') : AtX w (W.setCell ⟨gx, i, none⟩ u) g a b rv win rs s gx xs' := by
  have hxg := h.xg
  have k : Keep (fun k => k = gx) W (W.setCell ⟨gx, i, none⟩ u) := (Keep.refl (fun k => k = gx) W).set (g := gx) rfl i u
  refine ⟨⟨k.blk h.at_.fb (fun e => by have : w.heap.size = gx := e; omega), own_move h.at_.row fun j hj => ?_, h.at_.rd.keep k (fun e => by have : g = gx := e; have := h.at_.gl; omega) (fun j hj => by have : j = gx := hj; omega), ?_, h.at_.gl, h.at_.gb, h.at_.ng⟩, blk_put h.xb i u e, hxg, h.xr⟩
  · exact Below.heap_setCell W ⟨gx, i, none⟩ u j (fun e => h.xr (by have e' : j = gx := e; rw [hj, e']))
  · exact h.at_.kp.trans k fun j hj hk => by have : j = gx := hk; omega
/-- The row has grown, and stands in the frame. -/
theorem At.grow {w W W' : World} {g : Nat} {a b rv rv' : Value} {win : Int} {rs : List Rec} {r : Rec} {s : S} (h : At w W g a b rv win rs s) (ho : W'.ownsRow w.heap.size 73 5 rv' (rs.length + 1) (recsC win rs ++ recC win r)) (hg : W.grownBy W' rv.ownBlock) : At w (W'.setCell ⟨w.heap.size, 2, none⟩ rv') g a b rv' win (rs ++ [r]) s := by
  have hne : some w.heap.size ≠ rv.ownBlock := fun e => by
    obtain ⟨cs, hc⟩ := own_typed h.row _ e.symm
    rw [h.fb] at hc
    injection hc with hc
    injection hc with _ ht
    exact absurd ht (by decide)
  have hbase := own_base h.row
  have k1 : Keep (fun k => rv.ownBlock = some k) W W' := (Keep.refl (fun k => rv.ownBlock = some k) W).grown hg fun k hk _ => hk
  have fb1 := k1.blk h.fb (fun e => hne e.symm)
  have k2 : Keep (fun k => k = w.heap.size) W' (W'.setCell ⟨w.heap.size, 2, none⟩ rv') := (Keep.refl (fun k => k = w.heap.size) W').set (g := w.heap.size) rfl 2 rv'
  have hgl := h.gl
  have hr1 : IsR w.heap.size W' g s := h.rd.keep k1 (fun e => by have := hbase _ e; omega) (fun j hj => hbase _ hj)
  refine ⟨blk_put fb1 2 rv' rfl, ?_, hr1.keep k2 (fun e => by have : g = w.heap.size := e; omega) (fun j hj => by have : j = w.heap.size := hj; omega), ?_, hgl, h.gb, h.ng⟩
  · rw [recsC_snoc, List.length_append]
    refine own_move ho fun j hj => Below.heap_setCell W' ⟨w.heap.size, 2, none⟩ rv' j (fun e => ?_)
    have e' : j = w.heap.size := e
    subst e'
    obtain ⟨cs, hc⟩ := own_typed ho _ hj
    rw [fb1] at hc
    injection hc with hc
    injection hc with _ ht
    exact absurd ht (by decide)
  · exact (h.kp.trans k1 fun j hj hk => by have := hbase _ hk; omega).trans k2 fun j hj hk => by have : j = w.heap.size := hk; omega
theorem At.grown_fb {w W W' : World} {g : Nat} {a b rv : Value} {win : Int} {rs : List Rec} {s : S} (h : At w W g a b rv win rs s) (hg : W.grownBy W' rv.ownBlock) : W'.heap[w.heap.size]? = some (.cells #[a, b, rv] 44 (0, 0)) := by
  have hne : some w.heap.size ≠ rv.ownBlock := fun e => by
    obtain ⟨cs, hc⟩ := own_typed h.row _ e.symm
    rw [h.fb] at hc
    injection hc with hc
    injection hc with _ ht
    exact absurd ht (by decide)
  exact (hg.block _ (blk_lt h.fb) hne).trans h.fb
theorem row_succ {W : World} {base : Nat} {e : TypeId} {size : Nat} {v : Value} {k : Nat} {xs : List Value} (h : W.ownsRow base e size v (k + 1) xs) : ∃ g cap, v = .slice (some ⟨g, 0, none⟩) (k + 1) cap := by
  rcases h.2 with ⟨_, h0⟩ | ⟨g, cap, _, rfl, _⟩
  · cases h0
  · exact ⟨g, cap, rfl⟩
theorem row_form {W : World} {base : Nat} {e : TypeId} {size : Nat} {v : Value} {k : Nat} {xs : List Value} (h : W.ownsRow base e size v k xs) : ∃ A cap, v = .slice A k cap := by
  rcases h.2 with ⟨rfl, h0⟩ | ⟨g, cap, _, rfl, _⟩
  · exact ⟨none, 0, by rw [h0]⟩
  · exact ⟨_, cap, rfl⟩
theorem recsP_stop (k : Nat) (s : S) (h : k = 0 ∨ s.2 ≠ 0) : recsP k s = ([], s) := by
  cases k with
  | zero => rfl
  | succ k =>
    rcases h with h | h
    · omega
    · unfold recsP; rw [if_pos h]
theorem recsP_go (k : Nat) (s : S) (h : s.2 = 0) : recsP (k + 1) s = ((recP s).1 :: (recsP k (recP s).2).1, (recsP k (recP s).2).2) := by
  rw [recsP, if_neg (fun hn => hn h)]
set_option maxHeartbeats 4000000 in
set_option maxRecDepth 1000000 in
theorem frame_calls (g : Nat) (b : List UInt8) (hl : b.length ≤ 1000000) (w : World) (hG : Glob w) (hR : IsR w.heap.size w g (b, 0)) : Calls Tryz.prog 60 #[.pointer (some ⟨g, 0, none⟩)] w fun x w' => ∃ rv s, x = .returned (.agg #[.int .u64 ((frmP b).1.seq : Nat), .int .i64 (frmP b).1.win, rv]) ∧ w'.ownsRow w.heap.size 73 5 rv (frmP b).1.recs.length (recsC (frmP b).1.win (frmP b).1.recs) ∧ IsR w.heap.size w' g s ∧ s.2 = (frmP b).2 ∧ Keep (G1 g) w w' := by
  have hgl := hR.lt
  have hng := Rd.Glob.ne hG hR
  obtain ⟨n0, hn0⟩ : ∃ n0, n0 = numP (b, 0) := ⟨_, rfl⟩
  obtain ⟨w0, hw0⟩ : ∃ w0, w0 = sgP n0.2 := ⟨_, rfl⟩
  obtain ⟨m0, hm0⟩ : ∃ m0, m0 = numP w0.2 := ⟨_, rfl⟩
  have HP := Aside0.mk (And.intro hn0 (And.intro hw0 hm0))
  have HRR := Aside0.mk hR
  have HG := Aside0.mk hG
  have HA0 := Aside0.mk (show At w (w.alloc (.cells #[.int .u64 0, .int .i64 0, .slice none 0 0] 44)) g (.int .u64 0) (.int .i64 0) (.slice none 0 0) 0 [] (b, 0) from
    ⟨blk_new w _, own_nil _ _ _ _, hR.below (below_alloc (Below.refl _ _) _), Keep.of_below (below_alloc (Below.refl _ _) _), hgl, hG, hng⟩)
  clear hR hG hn0 hw0 hm0 hgl hng
  go_enter Tryz.func60, Tryz.ntmps60
  go_upto_region 2 with (fail)
  generalize w.alloc (.cells #[.int .u64 0, .int .i64 0, .slice none 0 0] 44) = W1 at HA0 ⊢
  have HA := HA0
  clear HA0
  go_upto_region 3 with (first | (go_at_call 74; (with_reducible refine (number_calls g _ _ HA.out.glob HA.out.rd).mono ?_); rintro e w2 ⟨rfl, hb, h2⟩; have HA2 := Aside0.mk (HA.out.read hb h2); clear hb h2 HA; have HA := HA2; clear HA2) | (go_at_call 75; (with_reducible refine (signed_calls g _ _ HA.out.glob HA.out.rd).mono ?_); rintro e w3 ⟨rfl, hb, h2⟩; have HA2 := Aside0.mk (HA.out.read hb h2); clear hb h2 HA; have HA := HA2; clear HA2; have fb := HA.out.fb; have f0 := blk_frozen fb 0; have f1 := blk_frozen fb 1; have c0 := blk_cell fb 0; have c1 := blk_cell fb 1; clear fb))
  have HA2 := Aside0.mk ((HA.out.put (a' := .int .u64 ((numP (b, 0)).1 : Nat)) (b' := .int .i64 0) 0 _ rfl).put (a' := .int .u64 ((numP (b, 0)).1 : Nat)) (b' := .int .i64 (sgP (numP (b, 0)).2).1) 1 _ rfl)
  clear HA f0 f1 c0 c1
  have HA := HA2
  clear HA2
  rw [← HP.out.1] at HA ⊢
  rw [← HP.out.2.1] at HA ⊢
  generalize (w3.setCell ⟨w.heap.size, 0, none⟩ (Value.int IntKind.u64 (n0.1 : Nat))).setCell ⟨w.heap.size, 1, none⟩ (Value.int IntKind.i64 w0.1) = W3 at HA ⊢
  go_upto_region 4 with (first | (go_at_call 74; (with_reducible refine (number_calls g _ _ HA.out.glob HA.out.rd).mono ?_); rintro e w4 ⟨rfl, hb, h2⟩; have HA2 := Aside0.mk (HA.out.read hb h2); clear hb h2 HA; have HA := HA2; clear HA2))
  rw [← HP.out.2.2] at HA ⊢
  obtain ⟨R, hR⟩ : ∃ R, R = recsP m0.1 m0.2 := ⟨_, rfl⟩
  have hm64 : m0.1 < 18446744073709551616 := by
    have := (rd_bd w0.2.1).1
    rw [HP.out.2.2]
    unfold numP
    dsimp only
    split
    · exact this
    · decide
  have hml : m0.2.1.length ≤ b.length := by
    have h1 := numP_le w0.2
    have h2 := sgP_le n0.2
    have h3 := numP_le (b, 0)
    rw [← HP.out.2.2] at h1
    rw [← HP.out.2.1] at h2
    rw [← HP.out.1] at h3
    dsimp only at h3
    omega
  have HM := Aside0.mk (And.intro hm64 (And.intro hR hl))
  have HI0 := Aside0.mk hml
  clear hm64 hR hml hl
  obtain ⟨many, hmany⟩ : ∃ k, k = m0.1 := ⟨_, rfl⟩
  obtain ⟨sm, hsm⟩ : ∃ k, k = m0.2 := ⟨_, rfl⟩
  rw [← hmany, ← hsm] at HM
  rw [← hmany]
  rw [← hsm] at HA HI0
  have HMM := Aside0.mk (And.intro hmany hsm)
  clear hmany hsm
  go_wp2
  go_loopg [5] (b.length + 2) (fun kq v5 w' => ∃ (i : Nat) (rv : Value) (rs : List Rec) (s : S), v5 = .int .u64 (i : Int) ∧ Aside0 ((if s.2 = 0 then s.1.length + 1 else 0) < kq ∧ (s.2 = 0 → i + s.1.length ≤ b.length) ∧ i ≤ b.length + 1 ∧ i ≤ many ∧ rs.length = i) ∧ Aside0 (At w w' g (.int .u64 (n0.1 : Nat)) (.int .i64 w0.1) rv w0.1 rs s) ∧ Aside0 (rs ++ (recsP (many - i) s).1 = R.1 ∧ (recsP (many - i) s).2 = R.2))
  case atStart => exact ⟨0, .slice none 0 0, [], sm, rfl, ⟨by have := HI0.out; split <;> omega, fun _ => by have := HI0.out; omega, by omega, by omega, rfl⟩, ⟨⟨HA.out.fb, HA.out.row, HA.out.rd, HA.out.kp, HA.out.gl, HA.out.gb, HA.out.ng⟩⟩, ⟨by rw [HM.out.2.1]; rfl, by rw [HM.out.2.1]; rfl⟩⟩
  case round =>
    clear HA
    obtain ⟨i, rv, rs, s, rfl, HI, HA, HE⟩ := hrel
    have fb := HA.out.fb
    have f0 := blk_frozen fb 0
    have f1 := blk_frozen fb 1
    have f2 := blk_frozen fb 2
    have c0 : wr.cell? ⟨w.heap.size, 0, none⟩ = some (.int .u64 (n0.1 : Nat)) := (blk_cell fb 0).trans rfl
    have c1 : wr.cell? ⟨w.heap.size, 1, none⟩ = some (.int .i64 w0.1) := (blk_cell fb 1).trans rfl
    have c2 : wr.cell? ⟨w.heap.size, 2, none⟩ = some rv := (blk_cell fb 2).trans rfl
    clear fb
    obtain ⟨A, cp, hb, hcp, hr, hf⟩ := HA.out.rd
    have r0 : wr.cell? ⟨g, 0, none⟩ = some (.slice A s.1.length cp) := (blk_cell hb 0).trans rfl
    have r1 : wr.cell? ⟨g, 1, none⟩ = some (wrV s.2) := (blk_cell hb 1).trans rfl
    have q0 := blk_frozen hb 0
    have q1 := blk_frozen hb 1
    clear hb hcp hr hf
    by_cases hi : i < many ∧ s.2 = 0
    · have d1 : decide ((i : Int) < (many : Int)) = true := decide_eq_true (by omega)
      have d2 : ((i : Int) < (many : Int)) = True := eq_true (by omega)
      rw [hi.2, show wrV 0 = .nilIface from rfl] at r1
      have HII := Aside0.mk hi
      clear hi
      go_upto_region 7 with (fail)
      have HLT := Aside0.mk (show ¬ wr.heap.size = g from by have := HA.out.rd.lt; omega)
      have HD := Aside0.mk (HA.out.below (below_drew (Below.refl _ _)))
      have e1 : wr.drew.cell? ⟨w.heap.size, 1, none⟩ = some (.int .i64 w0.1) := c1
      have HAL := Aside0.mk (fun o => (HA.out.below (below_alloc (Below.refl _ _) o)).below (below_drew (Below.refl _ _)))
      have e2 : ∀ o, (wr.alloc o).drew.cell? ⟨w.heap.size, 1, none⟩ = some (.int .i64 w0.1) := fun o => (blk_cell (HAL.out o).fb 1).trans rfl
      go_region_with (first | (go_at_call 76; (with_reducible refine (text_calls g s _ HD.out.glob HD.out.rd).mono ?_); rintro e w5 ⟨rfl, hb, h2⟩; have HA2 := Aside0.mk (HD.out.read hb h2); clear hb h2; have e3 : w5.cell? ⟨w.heap.size, 1, none⟩ = some (.int .i64 w0.1) := (blk_cell HA2.out.fb 1).trans rfl; have e4 : ∀ o, (w5.alloc o).cell? ⟨w.heap.size, 1, none⟩ = some (.int .i64 w0.1) := fun o => (blk_cell (HA2.out.below (below_alloc (Below.refl _ _) o)).fb 1).trans rfl) | (go_at_call 76; (with_reducible refine (text_calls g s _ (HAL.out _).glob (HAL.out _).rd).mono ?_); rintro e w5 ⟨rfl, hb, h2⟩; have HX2 := Aside0.mk ((HAL.out _).read hb h2); have hxb := h2.blk (blk_new wr _) (fun e => absurd (show wr.heap.size = g from e) (HLT.out)); clear hb h2; have e3 : w5.cell? ⟨w.heap.size, 1, none⟩ = some (.int .i64 w0.1) := (blk_cell HX2.out.fb 1).trans rfl; have y0 : w5.cell? ⟨wr.heap.size, 0, none⟩ = some (.string ⟨#[]⟩) := (blk_cell hxb 0).trans rfl; have z0 := blk_frozen hxb 0; have y1 : w5.cell? ⟨wr.heap.size, 1, none⟩ = some (.int .i64 0) := (blk_cell hxb 1).trans rfl; have z1 := blk_frozen hxb 1; have y2 : w5.cell? ⟨wr.heap.size, 2, none⟩ = some (.int .i64 0) := (blk_cell hxb 2).trans rfl; have z2 := blk_frozen hxb 2; have y3 : w5.cell? ⟨wr.heap.size, 3, none⟩ = some (.int .i64 0) := (blk_cell hxb 3).trans rfl; have z3 := blk_frozen hxb 3; have y4 : w5.cell? ⟨wr.heap.size, 4, none⟩ = some (.bool false) := (blk_cell hxb 4).trans rfl; have z4 := blk_frozen hxb 4))
      all_goals (
        first
        | (have HX := Aside0.mk (AtX.new HA2.out #[.string (txP s).1, .int .i64 w0.1, .int .i64 0, .int .i64 0, .bool false])
           clear e1 e2 e3 e4 HAL HD HA2
           generalize w5.alloc (.cells #[.string (txP s).1, .int .i64 w0.1, .int .i64 0, .int .i64 0, .bool false] 73) = W6 at HX ⊢
           generalize w5.heap.size = gx at HX ⊢)
        | (have HX := Aside0.mk (show AtX w _ g _ _ rv w0.1 rs (txP s).2 wr.heap.size #[.string (txP s).1, .int .i64 w0.1, .int .i64 0, .int .i64 0, .bool false] from (((((AtX.mk HX2.out hxb (blk_lt HA.out.fb) (fun e => by have := own_lt HA.out.row _ e; omega)).put 0 (.string (txP s).1) rfl).put 1 (.int .i64 w0.1) rfl).put 2 (.int .i64 0) rfl).put 3 (.int .i64 0) rfl).put 4 (.bool false) rfl)
           clear e1 e2 e3 HAL HD HX2 hxb y0 y1 y2 y3 y4 z0 z1 z2 z3 z4
           generalize ((((w5.setCell ⟨wr.heap.size, 0, none⟩ (.string (txP s).1)).setCell ⟨wr.heap.size, 1, none⟩ (.int .i64 w0.1)).setCell ⟨wr.heap.size, 2, none⟩ (.int .i64 0)).setCell ⟨wr.heap.size, 3, none⟩ (.int .i64 0)).setCell ⟨wr.heap.size, 4, none⟩ (.bool false) = W6 at HX ⊢
           generalize wr.heap.size = gx at HX ⊢)
        clear c0 c1 c2 f0 f1 f2 r0 r1 q0 q1
        go_upto_region 9 with (first | (go_at_call 74; (with_reducible refine (number_calls g _ _ HX.out.at_.glob HX.out.at_.rd).mono ?_); rintro e w7 ⟨rfl, hb, h2⟩; have HA2 := Aside0.mk (HX.out.read hb h2); clear hb h2 HX; have HX := HA2; clear HA2; have y2 : w7.cell? ⟨gx, 2, none⟩ = some (.int .i64 0) := (blk_cell HX.out.xb 2).trans rfl; have z2 := blk_frozen HX.out.xb 2; have y3 : w7.cell? ⟨gx, 3, none⟩ = some (.int .i64 0) := (blk_cell HX.out.xb 3).trans rfl; have z3 := blk_frozen HX.out.xb 3))
        have HA2 := Aside0.mk ((HX.out.put (xs' := #[.string (txP s).1, .int .i64 w0.1, .int .i64 (wrap64 (numP (txP s).2).1), .int .i64 0, .bool false]) 2 (.int .i64 (wrap64 (numP (txP s).2).1)) rfl).put (xs' := #[.string (txP s).1, .int .i64 w0.1, .int .i64 (wrap64 (numP (txP s).2).1), .int .i64 (wrap64 (numP (numP (txP s).2).2).1), .bool false]) 3 (.int .i64 (wrap64 (numP (numP (txP s).2).2).1)) rfl)
        clear HX y2 z2 y3 z3
        have HX := HA2
        clear HA2
        generalize (w7.setCell ⟨gx, 2, none⟩ (.int .i64 (wrap64 (numP (txP s).2).1))).setCell ⟨gx, 3, none⟩ (.int .i64 (wrap64 (numP (numP (txP s).2).2).1)) = W7 at HX ⊢
        go_upto_region 10 with (first | (go_at_call 77; (with_reducible refine (flag_calls g _ _ HX.out.at_.rd).mono ?_); rintro e w8 ⟨rfl, hb, h2⟩; have HA2 := Aside0.mk (HX.out.read hb h2); clear hb h2 HX; have HX := HA2; clear HA2; have y4 : w8.cell? ⟨gx, 4, none⟩ = some (.bool false) := (blk_cell HX.out.xb 4).trans rfl; have z4 := blk_frozen HX.out.xb 4))
        have HA2 := Aside0.mk (HX.out.put (xs' := (recC w0.1 (recP s).1).toArray) 4 (.bool (recP s).1.over) rfl)
        clear HX y4 z4
        have HX := HA2
        clear HA2
        rw [show (flP (numP (numP (txP s).2).2).2).2 = (recP s).2 from rfl] at HX
        rw [show (flP (numP (numP (txP s).2).2).2).1 = (recP s).1.over from rfl]
        generalize w8.setCell ⟨gx, 4, none⟩ (.bool (recP s).1.over) = W8 at HX ⊢
        have fb := HX.out.at_.fb
        have g2 : W8.cell? ⟨w.heap.size, 2, none⟩ = some rv := (blk_cell fb 2).trans rfl
        have p2 := blk_frozen fb 2
        clear fb
        have x0 : W8.cell? ⟨gx, 0, none⟩ = some (.string (recP s).1.name) := (blk_cell HX.out.xb 0).trans rfl
        have x1 : W8.cell? ⟨gx, 1, none⟩ = some (.int .i64 w0.1) := (blk_cell HX.out.xb 1).trans rfl
        have x2 : W8.cell? ⟨gx, 2, none⟩ = some (.int .i64 (recP s).1.inc) := (blk_cell HX.out.xb 2).trans rfl
        have x3 : W8.cell? ⟨gx, 3, none⟩ = some (.int .i64 (recP s).1.rate) := (blk_cell HX.out.xb 3).trans rfl
        have x4 : W8.cell? ⟨gx, 4, none⟩ = some (.bool (recP s).1.over) := (blk_cell HX.out.xb 4).trans rfl
        obtain ⟨i0, hi0, hz0, hz1, hz2⟩ := info_parts rec_info
        have HIX := Aside0.mk (And.intro hi0 (And.intro hz0 (And.intro hz1 hz2)))
        clear hi0 hz0 hz1 hz2
        have HLN := Aside0.mk (show rs.length ≤ 1000001 from by have := HI.out; have := HM.out.2.2; omega)
        go_wp2_with (first | (at_builtin; refine wpList_append_own _ rfl (.tmp 46) (.tmp 48) 42 rfl w.heap.size 73 i0 (.agg #[.string ⟨#[]⟩, .int .i64 0, .int .i64 0, .int .i64 0, .bool false]) 5 48 Tryz.underlying42 HIX.out.1 HIX.out.2.1 HIX.out.2.2.1 HIX.out.2.2.2 rfl (by decide) rv rs.length (recsC w0.1 rs) rfl (pw_own_below HX.out.at_.row (below_alloc (Below.refl _ _) _)) ⟨W8.heap.size, 0, none⟩ 1 1 (recC w0.1 (recP s).1) rfl rfl ?aC ?aO ?aM ?aB ?aH ?_; (case aC => intro j u hj; rw [show (⟨W8.heap.size, 0, none⟩ : Addr).add j = ⟨W8.heap.size, j, none⟩ from add_plain _ _, blk_cell (blk_new W8 _) j]; rw [← hj]; simp [recC]); (case aO => intro u hu; simp only [recC, List.mem_cons, List.not_mem_nil, or_false] at hu; rcases hu with rfl | rfl | rfl | rfl | rfl <;> rfl); (case aM => have := HLN.out; unfold maxLen; omega); (case aB => have := HLN.out; omega); (case aH => have := blk_lt HX.out.at_.fb; simp; omega); intro v' w10 hown hgr _; obtain ⟨gn, cn, rfl⟩ := row_succ hown; have HAA := Aside0.mk (HX.out.at_.below (below_alloc (Below.refl _ _) (.cells #[.string (recP s).1.name, .int .i64 w0.1, .int .i64 (recP s).1.inc, .int .i64 (recP s).1.rate, .bool (recP s).1.over] 73))); have p3 := blk_frozen (HAA.out.grown_fb hgr) 2; have g3 : w10.cell? ⟨w.heap.size, 2, none⟩ = some rv := (blk_cell (HAA.out.grown_fb hgr) 2).trans rfl; have HY := Aside0.mk (HAA.out.grow (r := (recP s).1) hown hgr); clear hown hgr HAA))
        go_roundg (gk - 1)
        case measure =>
          have h1 := HI.out
          have h2 := HII.out
          rw [if_pos h2.2] at h1
          omega
        case rel =>
          have h1 := HI.out
          have h2 := HII.out
          have h3 := HE.out
          rw [show many - i = (many - (i + 1)) + 1 by omega, recsP_go _ _ h2.2] at h3
          have h4 := @recP_lt s
          have hwi : IntKind.u64.wrap ((i : Int) + 1) = ((i + 1 : Nat) : Int) := by
            unfold IntKind.wrap
            simp [IntKind.bits, IntKind.signed]
            have := HM.out.1
            omega
          rw [if_pos h2.2] at h1
          refine ⟨i + 1, _, rs ++ [(recP s).1], (recP s).2, by first | rfl | (rw [hwi]), ⟨?_, fun h => ?_, ?_, by omega, by rw [List.length_append, h1.2.2.2.2]; rfl⟩, HY, ⟨by rw [List.append_assoc]; exact h3.1, h3.2⟩⟩
          · split
            · have := h4 ‹_›
              omega
            · omega
          · have := h4 h
            have := h1.2.1 h2.2
            omega
          · have := h1.2.1 h2.2
            omega)
    · have hst := recsP_stop (many - i) s (by
        by_cases h : i < many
        · exact .inr (fun h2 => hi ⟨h, h2⟩)
        · exact .inl (by omega))
      have hE := HE.out
      rw [hst, List.append_nil] at hE
      have HF := Aside0.mk (show frmP b = (⟨n0.1, w0.1, rs⟩, if s.2 = 0 ∧ 0 < s.1.length then 11 else s.2) from by
        show ((⟨(numP (b, 0)).1, (sgP (numP (b, 0)).2).1, (recsP (numP (sgP (numP (b, 0)).2).2).1 (numP (sgP (numP (b, 0)).2).2).2).1⟩ : Frm), _) = _
        rw [← HP.out.1, ← HP.out.2.1, ← HP.out.2.2, ← HMM.out.1, ← HMM.out.2, ← HM.out.2.1, ← hE.1, ← hE.2])
      clear hE hst
      have hsz : (Tryz.prog.info? 44).map (·.size) = some (#[.int .u64 (n0.1 : Nat), .int .i64 w0.1, rv] : Array Value).size := by rw [show (#[.int .u64 (n0.1 : Nat), .int .i64 w0.1, rv] : Array Value).size = 3 from rfl]; kernel_rfl
      have hz3 : (#[.int .u64 (n0.1 : Nat), .int .i64 w0.1, rv] : Array Value).all (·.oneCell') = true := by
        obtain ⟨Av, cv, rfl⟩ := row_form HA.out.row
        simp [Value.oneCell']
      have HSZ := Aside0.mk (And.intro hsz hz3)
      clear hsz hz3
      by_cases hs : s.2 = 0
      · have hii : i = many := by have := HI.out; omega
        have d1 : decide ((i : Int) < (many : Int)) = false := decide_eq_false (by omega)
        have d2 : ((i : Int) < (many : Int)) = False := eq_false (by omega)
        rw [hs, show wrV 0 = .nilIface from rfl] at r1
        by_cases hlen : 0 < s.1.length
        · have l1 : decide ((s.1.length : Int) > 0) = true := decide_eq_true (by omega)
          have l2 : decide ((0 : Int) < (s.1.length : Int)) = true := decide_eq_true (by omega)
          have l3 : decide (0 < s.1.length) = true := decide_eq_true hlen
          rw [if_pos ⟨hs, hlen⟩] at HF
          obtain ⟨bs, c⟩ := s
          (try dsimp only at HI); (try dsimp only at HA); (try dsimp only at r0); (try dsimp only at l1); (try dsimp only at l2); (try dsimp only at l3); (try dsimp only at hs); (try dsimp only at r1)
          subst hs
          have HW := Aside0.mk (HA.out.rd.wrong 11)
          rw [show wrV 11 = .iface 137 (.agg #[.int .i64 11]) from rfl] at HW
          clear hi hii hlen
          go_upto_region 13 with (fail)
          have HB := Aside0.mk (show At w _ g _ _ rv w0.1 rs _ from HA.out.read HW.out.1 HW.out.2)
          clear HA r0 r1 q0 q1 c0 c1 c2 f0 f1 f2
          try (generalize wr.setCell ⟨g, 1, none⟩ (.iface 137 (.agg #[.int .i64 11])) = W9 at HB ⊢)
          go_wp2_with (first | (refine wpList_load_row rfl 44 (.tmp 2) rfl w.heap.size rfl 44 #[.int .u64 (n0.1 : Nat), .int .i64 w0.1, rv] (0, 0) _ HB.out.fb Tryz.underlying44 rfl HSZ.out.1 ?_) | (refine wpList_store_row rfl 44 (.tmp 2) (.tmp 69) rfl w.heap.size #[.int .u64 (n0.1 : Nat), .int .i64 w0.1, rv] rfl rfl 44 #[.int .u64 (n0.1 : Nat), .int .i64 w0.1, rv] HB.out.fb HSZ.out.1 rfl HSZ.out.2 ?_; rw [setRow_self _ _ _ _ _ HB.out.fb]))
          try simp only [Exit.inBlock, Exit.then]
          refine bodyPost_ret (results_cell_row rfl _ _ w.heap.size 44 _ (0, 0) _ rfl HB.out.fb Tryz.underlying44 rfl HSZ.out.1) rfl ?_
          rw [HF.out]
          first | exact ⟨rv, _, rfl, HB.out.row, HB.out.rd, rfl, HB.out.kp⟩ | exact ⟨rv, rfl, HB.out.row, _, _, HB.out.rd, rfl, HB.out.kp⟩
        · have l1 : decide ((s.1.length : Int) > 0) = false := decide_eq_false (by omega)
          have l2 : decide ((0 : Int) < (s.1.length : Int)) = false := decide_eq_false (by omega)
          have l3 : decide (0 < s.1.length) = false := decide_eq_false hlen
          rw [if_neg (fun h => hlen h.2)] at HF
          clear hi hii hlen hs
          go_upto_region 13 with (fail)
          have HB := Aside0.mk (show At w _ g _ _ rv w0.1 rs _ from HA.out)
          clear HA r0 r1 q0 q1 c0 c1 c2 f0 f1 f2
          try (generalize wr.setCell ⟨g, 1, none⟩ (.iface 137 (.agg #[.int .i64 11])) = W9 at HB ⊢)
          go_wp2_with (first | (refine wpList_load_row rfl 44 (.tmp 2) rfl w.heap.size rfl 44 #[.int .u64 (n0.1 : Nat), .int .i64 w0.1, rv] (0, 0) _ HB.out.fb Tryz.underlying44 rfl HSZ.out.1 ?_) | (refine wpList_store_row rfl 44 (.tmp 2) (.tmp 69) rfl w.heap.size #[.int .u64 (n0.1 : Nat), .int .i64 w0.1, rv] rfl rfl 44 #[.int .u64 (n0.1 : Nat), .int .i64 w0.1, rv] HB.out.fb HSZ.out.1 rfl HSZ.out.2 ?_; rw [setRow_self _ _ _ _ _ HB.out.fb]))
          try simp only [Exit.inBlock, Exit.then]
          refine bodyPost_ret (results_cell_row rfl _ _ w.heap.size 44 _ (0, 0) _ rfl HB.out.fb Tryz.underlying44 rfl HSZ.out.1) rfl ?_
          rw [HF.out]
          first | exact ⟨rv, _, rfl, HB.out.row, HB.out.rd, rfl, HB.out.kp⟩ | exact ⟨rv, rfl, HB.out.row, _, _, HB.out.rd, rfl, HB.out.kp⟩
      · rw [show wrV s.2 = .iface 137 (.agg #[.int .i64 s.2]) from if_neg hs] at r1
        rw [if_neg (fun h => hs h.1)] at HF
        by_cases hm : i < many
        · have d1 : decide ((i : Int) < (many : Int)) = true := decide_eq_true (by omega)
          have d2 : ((i : Int) < (many : Int)) = True := eq_true (by omega)
          clear hi hs hm
          go_upto_region 13 with (fail)
          have HB := Aside0.mk (show At w _ g _ _ rv w0.1 rs _ from HA.out)
          clear HA r0 r1 q0 q1 c0 c1 c2 f0 f1 f2
          try (generalize wr.setCell ⟨g, 1, none⟩ (.iface 137 (.agg #[.int .i64 11])) = W9 at HB ⊢)
          go_wp2_with (first | (refine wpList_load_row rfl 44 (.tmp 2) rfl w.heap.size rfl 44 #[.int .u64 (n0.1 : Nat), .int .i64 w0.1, rv] (0, 0) _ HB.out.fb Tryz.underlying44 rfl HSZ.out.1 ?_) | (refine wpList_store_row rfl 44 (.tmp 2) (.tmp 69) rfl w.heap.size #[.int .u64 (n0.1 : Nat), .int .i64 w0.1, rv] rfl rfl 44 #[.int .u64 (n0.1 : Nat), .int .i64 w0.1, rv] HB.out.fb HSZ.out.1 rfl HSZ.out.2 ?_; rw [setRow_self _ _ _ _ _ HB.out.fb]))
          try simp only [Exit.inBlock, Exit.then]
          refine bodyPost_ret (results_cell_row rfl _ _ w.heap.size 44 _ (0, 0) _ rfl HB.out.fb Tryz.underlying44 rfl HSZ.out.1) rfl ?_
          rw [HF.out]
          first | exact ⟨rv, _, rfl, HB.out.row, HB.out.rd, rfl, HB.out.kp⟩ | exact ⟨rv, rfl, HB.out.row, _, _, HB.out.rd, rfl, HB.out.kp⟩
        · have d1 : decide ((i : Int) < (many : Int)) = false := decide_eq_false (by omega)
          have d2 : ((i : Int) < (many : Int)) = False := eq_false (by omega)
          clear hi hs hm
          go_upto_region 13 with (fail)
          have HB := Aside0.mk (show At w _ g _ _ rv w0.1 rs _ from HA.out)
          clear HA r0 r1 q0 q1 c0 c1 c2 f0 f1 f2
          try (generalize wr.setCell ⟨g, 1, none⟩ (.iface 137 (.agg #[.int .i64 11])) = W9 at HB ⊢)
          go_wp2_with (first | (refine wpList_load_row rfl 44 (.tmp 2) rfl w.heap.size rfl 44 #[.int .u64 (n0.1 : Nat), .int .i64 w0.1, rv] (0, 0) _ HB.out.fb Tryz.underlying44 rfl HSZ.out.1 ?_) | (refine wpList_store_row rfl 44 (.tmp 2) (.tmp 69) rfl w.heap.size #[.int .u64 (n0.1 : Nat), .int .i64 w0.1, rv] rfl rfl 44 #[.int .u64 (n0.1 : Nat), .int .i64 w0.1, rv] HB.out.fb HSZ.out.1 rfl HSZ.out.2 ?_; rw [setRow_self _ _ _ _ _ HB.out.fb]))
          try simp only [Exit.inBlock, Exit.then]
          refine bodyPost_ret (results_cell_row rfl _ _ w.heap.size 44 _ (0, 0) _ rfl HB.out.fb Tryz.underlying44 rfl HSZ.out.1) rfl ?_
          rw [HF.out]
          first | exact ⟨rv, _, rfl, HB.out.row, HB.out.rd, rfl, HB.out.kp⟩ | exact ⟨rv, rfl, HB.out.row, _, _, HB.out.rd, rfl, HB.out.kp⟩
end Go.Proofs.YtpihpkphhkcdlaaGreatDoor.Fr
