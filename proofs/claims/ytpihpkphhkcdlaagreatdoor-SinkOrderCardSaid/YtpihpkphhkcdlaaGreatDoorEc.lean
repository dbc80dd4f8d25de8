/- The bytes of a frame of one record. -/
import Derived.Test.YtpihpkphhkcdlaaGreatDoorEn
namespace Go.Proofs.YtpihpkphhkcdlaaGreatDoor.Ec
open Go.RowKit Go.Proofs.YtpihpkphhkcdlaaGreatDoorW.PrintWords Go.Proofs.YtpihpkphhkcdlaaGreatDoorW.PrintLast Go.Proofs.YtpihpkphhkcdlaaGreatDoor.Ext Go.Proofs.YtpihpkphhkcdlaaGreatDoor.Crc Go.Proofs.YtpihpkphhkcdlaaGreatDoor.Tab Go.Proofs.YtpihpkphhkcdlaaGreatDoor.Pd Go.Proofs.YtpihpkphhkcdlaaGreatDoor.Eq Go.Proofs.YtpihpkphhkcdlaaGreatDoor.Bf Go.Proofs.YtpihpkphhkcdlaaGreatDoor.En
set_option linter.unusedVariables false
set_option linter.unusedSimpArgs false
def body1 (n : Nat) : List UInt8 := [79, 68, 79, 1, UInt8.ofNat n, UInt8.ofNat (2 * n), 1, 1, 97, 5, 1, 0]
def enc1 (n : Nat) : List UInt8 := body1 n ++ be4 (crc (body1 n))
set_option maxHeartbeats 4000000 in
set_option maxRecDepth 1000000 in
theorem encode_one (n : Nat) (hn : n = 1 ∨ n = 3) (gr : Nat) (w : World) (h : w.heap[gr]? = some (.cells (rec1 n) 73 (0, 0))) :
    Calls Tryz.prog 33 #[.agg #[.int .u64 (n : Int), .int .i64 (n : Int), .slice (some ⟨gr, 0, none⟩) 1 1]] w fun e w' => ∃ A c, e = .returned (.tuple #[.slice A (enc1 n).length c, .int .i64 0]) ∧ (enc1 n).length ≤ c ∧ ReadsInt w' .u8 A (enc1 n).length (nb (enc1 n)) ∧ Below w.heap.size w w' := by
  have kc := fun (w : World) (C : Array Value) (n c : Nat) => Lib.run_convert_bytes_const (P := Tryz.prog) w 29 5 C n c Tryz.underlying29 Tryz.underlying5
  have hb1 := below_alloc (Below.refl w.heap.size w) (.cells #[.int .u64 (n : Int), .int .i64 (n : Int), .slice (some ⟨gr, 0, none⟩) 1 1] 44)
  have HG0 := Aside0.mk ((hb1.block _ (blk_lt h)).trans h)
  have HF0 := Aside0.mk (blk_new w (.cells #[.int .u64 (n : Int), .int .i64 (n : Int), .slice (some ⟨gr, 0, none⟩) 1 1] 44))
  have HB0 := Aside0.mk hb1
  have HN := Aside0.mk hn
  clear hb1 h hn
  go_enter Tryz.func33, Tryz.ntmps33
  go_upto_region 1 with (fail)
  generalize w.alloc (.cells #[.int .u64 (n : Int), .int .i64 (n : Int), .slice (some ⟨gr, 0, none⟩) 1 1] 44) = W1 at HG0 HF0 HB0 ⊢
  generalize w.heap.size = gf at HF0 ⊢
  have c0 : W1.cell? ⟨gf, 0, none⟩ = some (.int .u64 (n : Int)) := (blk_cell HF0.out 0).trans rfl
  have c1 : W1.cell? ⟨gf, 1, none⟩ = some (.int .i64 (n : Int)) := (blk_cell HF0.out 1).trans rfl
  have c2 : W1.cell? ⟨gf, 2, none⟩ = some (.slice (some ⟨gr, 0, none⟩) 1 1) := (blk_cell HF0.out 2).trans rfl
  have HMY := Aside0.mk (may_one n HN.out gr W1 HG0.out)
  go_upto_region 3 with (first | (go_at_call 51; (with_reducible refine HMY.out.mono ?_); rintro e_ w2 ⟨rfl, hb⟩; have HB2 := Aside0.mk hb; clear hb))
  have HL3 := Aside0.mk (show Below W1.heap.size W1 (w2.alloc (.cells #[.int .u8 79, .int .u8 68, .int .u8 79, .int .u8 1] 5 (4, 5))) from below_alloc HB2.out _)
  have HU3 := Aside0.mk (show Buf (w2.alloc (.cells #[.int .u8 79, .int .u8 68, .int .u8 79, .int .u8 1] 5 (4, 5))) W1.heap.size (.slice (some ⟨w2.heap.size, 0, none⟩) 4 4) [79, 68, 79, 1] from .inr ⟨_, rfl, HB2.out.size, blk_new w2 _⟩)
  go_upto_region 4 with (fail)
  generalize w2.alloc (.cells #[.int .u8 79, .int .u8 68, .int .u8 79, .int .u8 1] 5 (4, 5)) = W3 at HL3 HU3 ⊢
  generalize w2.heap.size = gl at HU3 ⊢
  have d0 := pw_cell_below HL3.out c0
  have d1 := pw_cell_below HL3.out c1
  have d2 := pw_cell_below HL3.out c2
  clear c0 c1 c2
  have HN2 := Aside0.mk (show (0 : Int) ≤ (n : Int) ∧ (n : Int) ≤ 3 from by have := HN.out; omega)
  go_upto_region 5 with (first | (go_at_call 52; (with_reducible refine (put_l (n : Int) (by have := HN.out; omega) _).mono ?_); rintro e_ w4 ⟨Ap, cp, rfl, hr, hb⟩; have HP := Aside0.mk hr; have HB4 := Aside0.mk (HL3.out.trans (hb.mono HL3.out.size)); have HU4 := Aside0.mk (show Buf w4 W1.heap.size (.slice (some ⟨gl, 0, none⟩) 4 4) [79, 68, 79, 1] from HU3.out.elim (fun h => .inl (pw_own_below h hb)) (fun ⟨g, e1, e2, e3⟩ => .inr ⟨g, e1, e2, (hb.block _ (blk_lt e3)).trans e3⟩)); clear hr hb) | (at_builtin; refine buf_append_row (w0 := W1) W1.heap.size rfl (.tmp 12) (.tmp 15) 29 rfl Tryz.underlying29 info5 (.slice (some ⟨gl, 0, none⟩) 4 4) [79, 68, 79, 1] [(n : Int)] Ap cp rfl rfl (by show (0 : Nat) < 1; decide) HU4.out HP.out HB4.out HB4.out.size (by show 4 + 1 ≤ 1000000; decide) ?_; intro v5 w5 ho hb5; have HE := Aside0.mk (show Es W1 w5 gr (rec1 n) v5 ([79, 68, 79, 1] ++ [(n : Int)]) from ⟨hb5, ho, (hb5.block _ (blk_lt HG0.out)).trans HG0.out⟩); clear ho hb5))
  clear d0 d1 d2
  have c1 : w5.cell? ⟨gf, 1, none⟩ = some (.int .i64 (n : Int)) := (blk_cell ((HE.out.hb.block _ (blk_lt HF0.out)).trans HF0.out) 1).trans rfl
  clear HU3 HL3 HU4 HB4 HP
  go_upto_region 6 with (first | (go_at_call 53; (with_reducible refine (signed_l (n : Int) (by have := HN.out; omega) _).mono ?_); rintro e_ w5 ⟨rfl, hb⟩; have HE2 := Aside0.mk (HE.out.below hb); clear HE hb; have HE := HE2; clear HE2) | (go_at_call 52; (with_reducible refine (put_l (2 * (n : Int)) (by have := HN.out; omega) _).mono ?_); rintro e_ w5 ⟨Ap, cp, rfl, hr, hb⟩; have HE2 := Aside0.mk (HE.out.below hb); have HP := Aside0.mk hr; clear HE hb hr; have HE := HE2; clear HE2) | (at_builtin; refine Es.wp rfl _ _ rfl rfl rfl HE.out HP.out rfl (by decide) (by simp [bytesOf_length, ByteArray.size]) ?_; intro v6 w6 hE6; clear HE HP; have HE := Aside0.mk hE6; clear hE6))
  clear c1
  have c2 : w6.cell? ⟨gf, 2, none⟩ = some (.slice (some ⟨gr, 0, none⟩) 1 1) := (blk_cell ((HE.out.hb.block _ (blk_lt HF0.out)).trans HF0.out) 2).trans rfl
  go_upto_region 7 with (first | (go_at_call 52; (with_reducible refine (put_l 1 (by have := HN.out; omega) _).mono ?_); rintro e_ w5 ⟨Ap, cp, rfl, hr, hb⟩; have HE2 := Aside0.mk (HE.out.below hb); have HP := Aside0.mk hr; clear HE hb hr; have HE := HE2; clear HE2) | (at_builtin; refine Es.wp rfl _ _ rfl rfl rfl HE.out HP.out rfl (by decide) (by simp [bytesOf_length, ByteArray.size]) ?_; intro v6 w6 hE6; clear HE HP; have HE := Aside0.mk hE6; clear hE6))
  clear c2
  have g2 : w6.cell? ⟨gf, 2, none⟩ = some (.slice (some ⟨gr, 0, none⟩) 1 1) := (blk_cell ((HE.out.hb.block _ (blk_lt HF0.out)).trans HF0.out) 2).trans rfl
  have h0 : w6.cell? ⟨gr, 0, none⟩ = some (.string ⟨#[97]⟩) := (blk_cell HE.out.xb 0).trans rfl
  have h1 : w6.cell? ⟨gr, 1, none⟩ = some (.int .i64 (n : Int)) := (blk_cell HE.out.xb 1).trans rfl
  have h2 : w6.cell? ⟨gr, 2, none⟩ = some (.int .i64 5) := (blk_cell HE.out.xb 2).trans rfl
  have h3 : w6.cell? ⟨gr, 3, none⟩ = some (.int .i64 1) := (blk_cell HE.out.xb 3).trans rfl
  have h4 : w6.cell? ⟨gr, 4, none⟩ = some (.bool false) := (blk_cell HE.out.xb 4).trans rfl
  go_wp2
  refine wp_loop_rounds 2 ?_
  rw [rounds_succ]
  go_wp2
  have HE7 := Aside0.mk (show Es W1 (w6.alloc (.cells #[.string ⟨#[97]⟩, .int .i64 (n : Int), .int .i64 5, .int .i64 1, .bool false] 73)) w6.heap.size (rec1 n) v6 _ from ⟨(HE.out.below (below_alloc (Below.refl _ _) _)).hb, (HE.out.below (below_alloc (Below.refl _ _) _)).row, blk_new w6 _⟩)
  clear g2 h0 h1 h2 h3 h4 HE
  generalize w6.alloc (.cells #[.string ⟨#[97]⟩, .int .i64 (n : Int), .int .i64 5, .int .i64 1, .bool false] 73) = W7 at HE7 ⊢
  generalize w6.heap.size = gx at HE7 ⊢
  refine start_ (n := 11) (S := fun w' => w'.heap[gx]? = some (.cells (rec1 n) 73 (0, 0))) (ds := []) #[false, false, false, false, false, false, false, false, false, false, false] (by kernel_rfl) rfl rfl HE7.out.xb (fun hHeld => ?_)
  have HEa := Aside0.mk (HE7.out.below (below_drew1 (Below.refl _ _)))
  refine pure_ (i := 0) (N := some 42) (v := ?_) (a' := ?_) #[true, false, false, false, false, false, false, false, false, false, false] rfl rfl (by kernel_rfl) (fun _ _ _ h => h) (Or.inl ⟨by rfl, ?_⟩) ?_ ?_
  rotate_left
  · intro w'
    go_simp
    with_reducible rfl
  rotate_left
  · simp only [Act.put, List.setIfInBounds_toArray, List.set_cons_zero, List.set_cons_succ, i64_w, i32_w]
    rfl
  refine pure_ (i := 1) (N := some 43) (v := ?_) (a' := ?_) #[true, true, false, false, false, false, false, false, false, false, false] rfl rfl (by kernel_rfl) (fun _ _ _ h => h) (Or.inl ⟨by rfl, ?_⟩) ?_ ?_
  rotate_left
  · intro w'
    go_simp
    with_reducible rfl
  rotate_left
  · simp only [Act.put, List.setIfInBounds_toArray, List.set_cons_zero, List.set_cons_succ, i64_w, i32_w]
    rfl
  refine pure_ (i := 7) (N := some 49) (v := ?_) (a' := ?_) #[true, true, false, false, false, false, false, true, false, false, false] rfl rfl (by kernel_rfl) (fun _ _ _ h => h) (Or.inl ⟨by rfl, ?_⟩) ?_ ?_
  rotate_left
  · intro w'
    go_simp
    with_reducible rfl
  rotate_left
  · simp only [Act.put, List.setIfInBounds_toArray, List.set_cons_zero, List.set_cons_succ, i64_w, i32_w]
    rfl
  refine take_ (i := 2) (N := some 44) (v := ?_) (a' := ?_) #[true, true, true, false, false, false, false, true, false, false, false] rfl rfl (by kernel_rfl) (fun _ _ _ h => h) (Or.inl ⟨by rfl, ?_⟩) hHeld ?_ ?_
  rotate_left
  · intro w' hS'
    have x0 : w'.cell? ⟨gx, 0, none⟩ = some (.string ⟨#[97]⟩) := (blk_cell hS' 0).trans rfl; have x1 : w'.cell? ⟨gx, 1, none⟩ = some (.int .i64 (n : Int)) := (blk_cell hS' 1).trans rfl; have x2 : w'.cell? ⟨gx, 2, none⟩ = some (.int .i64 5) := (blk_cell hS' 2).trans rfl; have x3 : w'.cell? ⟨gx, 3, none⟩ = some (.int .i64 1) := (blk_cell hS' 3).trans rfl; have x4 : w'.cell? ⟨gx, 4, none⟩ = some (.bool false) := (blk_cell hS' 4).trans rfl
    go_simp
    with_reducible rfl
  rotate_left
  · simp only [Act.put, List.setIfInBounds_toArray, List.set_cons_zero, List.set_cons_succ, i64_w, i32_w]
    rfl
  refine pure_ (i := 3) (N := some 45) (v := ?_) (a' := ?_) #[true, true, true, true, false, false, false, true, false, false, false] rfl rfl (by kernel_rfl) (fun _ _ _ h => h) (Or.inl ⟨by rfl, ?_⟩) ?_ ?_
  rotate_left
  · intro w'
    go_simp
    with_reducible rfl
  rotate_left
  · simp only [Act.put, List.setIfInBounds_toArray, List.set_cons_zero, List.set_cons_succ, i64_w, i32_w]
    rfl
  refine take_ (i := 4) (N := some 46) (v := ?_) (a' := ?_) #[true, true, true, true, true, false, false, true, false, false, false] rfl rfl (by kernel_rfl) (fun _ _ _ h => h) (Or.inl ⟨by rfl, ?_⟩) hHeld ?_ ?_
  rotate_left
  · intro w' hS'
    have x0 : w'.cell? ⟨gx, 0, none⟩ = some (.string ⟨#[97]⟩) := (blk_cell hS' 0).trans rfl; have x1 : w'.cell? ⟨gx, 1, none⟩ = some (.int .i64 (n : Int)) := (blk_cell hS' 1).trans rfl; have x2 : w'.cell? ⟨gx, 2, none⟩ = some (.int .i64 5) := (blk_cell hS' 2).trans rfl; have x3 : w'.cell? ⟨gx, 3, none⟩ = some (.int .i64 1) := (blk_cell hS' 3).trans rfl; have x4 : w'.cell? ⟨gx, 4, none⟩ = some (.bool false) := (blk_cell hS' 4).trans rfl
    go_simp
    with_reducible rfl
  rotate_left
  · simp only [Act.put, List.setIfInBounds_toArray, List.set_cons_zero, List.set_cons_succ, i64_w, i32_w]
    rfl
  refine take_ (i := 8) (N := some 50) (v := ?_) (a' := ?_) #[true, true, true, true, true, false, false, true, true, false, false] rfl rfl (by kernel_rfl) (fun _ _ _ h => h) (Or.inl ⟨by rfl, ?_⟩) hHeld ?_ ?_
  rotate_left
  · intro w' hS'
    have x0 : w'.cell? ⟨gx, 0, none⟩ = some (.string ⟨#[97]⟩) := (blk_cell hS' 0).trans rfl; have x1 : w'.cell? ⟨gx, 1, none⟩ = some (.int .i64 (n : Int)) := (blk_cell hS' 1).trans rfl; have x2 : w'.cell? ⟨gx, 2, none⟩ = some (.int .i64 5) := (blk_cell hS' 2).trans rfl; have x3 : w'.cell? ⟨gx, 3, none⟩ = some (.int .i64 1) := (blk_cell hS' 3).trans rfl; have x4 : w'.cell? ⟨gx, 4, none⟩ = some (.bool false) := (blk_cell hS' 4).trans rfl
    go_simp
    with_reducible rfl
  rotate_left
  · simp only [Act.put, List.setIfInBounds_toArray, List.set_cons_zero, List.set_cons_succ, i64_w, i32_w]
    rfl
  refine one_ (i := 5) (N := some 47) #[true, true, true, true, true, true, false, true, true, false, false] rfl rfl (by kernel_rfl) (by decide) (fun K hK => ?_)
  refine goes_ Tryz.func52 (by kernel_rfl) rfl #[.int .u64 1] (by rfl) rfl rfl (by first | (simp [Act.eval]; done) | (simp [Act.eval]; decide)) ?_
  refine (put_l 1 (by decide) _).mono ?_
  rintro e_ y47 ⟨Aq47, cq47, rfl, hr47, hb⟩
  refine ⟨_, rfl, ?_⟩
  have HEb := Aside0.mk (HEa.out.below hb)
  have HQ47 := Aside0.mk hr47
  refine hK.out _ _ HEb.out.xb (fun hHeld => ?_)
  clear hK K hb hr47
  refine norm_ (a' := ?_) ?_ ?_
  rotate_left
  · show Act.put _ (some 47) _ = _
    simp only [Act.put, List.setIfInBounds_toArray, List.set_cons_zero, List.set_cons_succ, i64_w, i32_w]
    rfl
  obtain ⟨v48, z48, hrun, hE⟩ := Es.app (c := cq47) HEb.out HQ47.out (by show (0 : Nat) < 1; decide) (by simp [bytesOf_length, ByteArray.size])
  have HEc := Aside0.mk hE
  replace hrun := hrun
  refine one_ (i := 6) (N := some 48) #[true, true, true, true, true, true, true, true, true, false, false] rfl rfl (by kernel_rfl) (by decide) (fun K hK => ?_)
  refine value_ (w1 := z48) (v := v48) (by rfl) rfl ?_ ?_
  · unfold execOp
    exact (by simpa [resolve, invoke, builtin, Act.eval, Result.andThen] using congrArg (fun r => Result.andThen r fun a w' => Result.ok (Next.value a) w') hrun)
  refine hK.out _ _ HEc.out.xb (fun hHeld => ?_)
  clear hK K hrun hE
  refine norm_ (a' := ?_) ?_ ?_
  rotate_left
  · show Act.put _ (some 48) _ = _
    simp only [Act.put, List.setIfInBounds_toArray, List.set_cons_zero, List.set_cons_succ, i64_w, i32_w]
    rfl
  obtain ⟨v51, z51, hrun, hE⟩ := Es.str HEc.out ⟨#[97]⟩ (by simp [ByteArray.size])
  have HEd := Aside0.mk hE
  refine one_ (i := 9) (N := some 51) #[true, true, true, true, true, true, true, true, true, true, false] rfl rfl (by kernel_rfl) (by decide) (fun K hK => ?_)
  refine value_ (w1 := z51) (v := v51) (by rfl) rfl ?_ ?_
  · unfold execOp
    exact (by simpa [resolve, invoke, builtin, Act.eval, Result.andThen] using congrArg (fun r => Result.andThen r fun a w' => Result.ok (Next.value a) w') hrun)
  refine hK.out _ _ HEd.out.xb (fun hHeld => ?_)
  clear hK K hrun hE
  refine norm_ (a' := ?_) ?_ ?_
  rotate_left
  · show Act.put _ (some 51) _ = _
    simp only [Act.put, List.setIfInBounds_toArray, List.set_cons_zero, List.set_cons_succ, i64_w, i32_w]
    rfl
  refine pure_ (i := 10) (N := some 4) (v := ?_) (a' := ?_) #[true, true, true, true, true, true, true, true, true, true, true] rfl rfl (by kernel_rfl) (fun _ _ _ h => h) (Or.inl ⟨by rfl, ?_⟩) ?_ ?_
  rotate_left
  · intro w'
    go_simp
    with_reducible rfl
  rotate_left
  · simp only [Act.put, List.setIfInBounds_toArray, List.set_cons_zero, List.set_cons_succ, i64_w, i32_w]
    rfl
  refine done_ (by kernel_rfl) ?_
  clear HEa HEb HEc HE7 hHeld
  go_upto_region 12 with (fail)
  refine start_ (n := 12) (S := fun w' => w'.heap[gx]? = some (.cells (rec1 n) 73 (0, 0))) (ds := []) #[false, false, false, false, false, false, false, false, false, false, false, false] (by kernel_rfl) rfl rfl HEd.out.xb (fun hHeld => ?_)
  have HEe := Aside0.mk (HEd.out.below (below_drew1 (Below.refl _ _)))
  refine pure_ (i := 0) (N := some 52) (v := ?_) (a' := ?_) #[true, false, false, false, false, false, false, false, false, false, false, false] rfl rfl (by kernel_rfl) (fun _ _ _ h => h) (Or.inl ⟨by rfl, ?_⟩) ?_ ?_
  rotate_left
  · intro w'
    go_simp
    with_reducible rfl
  rotate_left
  · simp only [Act.put, List.setIfInBounds_toArray, List.set_cons_zero, List.set_cons_succ, i64_w, i32_w]
    rfl
  refine pure_ (i := 1) (N := some 53) (v := ?_) (a' := ?_) #[true, true, false, false, false, false, false, false, false, false, false, false] rfl rfl (by kernel_rfl) (fun _ _ _ h => h) (Or.inl ⟨by rfl, ?_⟩) ?_ ?_
  rotate_left
  · intro w'
    go_simp
    with_reducible rfl
  rotate_left
  · simp only [Act.put, List.setIfInBounds_toArray, List.set_cons_zero, List.set_cons_succ, i64_w, i32_w]
    rfl
  refine pure_ (i := 6) (N := some 58) (v := ?_) (a' := ?_) #[true, true, false, false, false, false, true, false, false, false, false, false] rfl rfl (by kernel_rfl) (fun _ _ _ h => h) (Or.inl ⟨by rfl, ?_⟩) ?_ ?_
  rotate_left
  · intro w'
    go_simp
    with_reducible rfl
  rotate_left
  · simp only [Act.put, List.setIfInBounds_toArray, List.set_cons_zero, List.set_cons_succ, i64_w, i32_w]
    rfl
  refine take_ (i := 2) (N := some 54) (v := ?_) (a' := ?_) #[true, true, true, false, false, false, true, false, false, false, false, false] rfl rfl (by kernel_rfl) (fun _ _ _ h => h) (Or.inl ⟨by rfl, ?_⟩) hHeld ?_ ?_
  rotate_left
  · intro w' hS'
    have x0 : w'.cell? ⟨gx, 0, none⟩ = some (.string ⟨#[97]⟩) := (blk_cell hS' 0).trans rfl; have x1 : w'.cell? ⟨gx, 1, none⟩ = some (.int .i64 (n : Int)) := (blk_cell hS' 1).trans rfl; have x2 : w'.cell? ⟨gx, 2, none⟩ = some (.int .i64 5) := (blk_cell hS' 2).trans rfl; have x3 : w'.cell? ⟨gx, 3, none⟩ = some (.int .i64 1) := (blk_cell hS' 3).trans rfl; have x4 : w'.cell? ⟨gx, 4, none⟩ = some (.bool false) := (blk_cell hS' 4).trans rfl
    go_simp
    with_reducible rfl
  rotate_left
  · simp only [Act.put, List.setIfInBounds_toArray, List.set_cons_zero, List.set_cons_succ, i64_w, i32_w]
    rfl
  refine take_ (i := 3) (N := some 55) (v := ?_) (a' := ?_) #[true, true, true, true, false, false, true, false, false, false, false, false] rfl rfl (by kernel_rfl) (fun _ _ _ h => h) (Or.inl ⟨by rfl, ?_⟩) hHeld ?_ ?_
  rotate_left
  · intro w' hS'
    have x0 : w'.cell? ⟨gx, 0, none⟩ = some (.string ⟨#[97]⟩) := (blk_cell hS' 0).trans rfl; have x1 : w'.cell? ⟨gx, 1, none⟩ = some (.int .i64 (n : Int)) := (blk_cell hS' 1).trans rfl; have x2 : w'.cell? ⟨gx, 2, none⟩ = some (.int .i64 5) := (blk_cell hS' 2).trans rfl; have x3 : w'.cell? ⟨gx, 3, none⟩ = some (.int .i64 1) := (blk_cell hS' 3).trans rfl; have x4 : w'.cell? ⟨gx, 4, none⟩ = some (.bool false) := (blk_cell hS' 4).trans rfl
    go_simp
    with_reducible rfl
  rotate_left
  · simp only [Act.put, List.setIfInBounds_toArray, List.set_cons_zero, List.set_cons_succ, i64_w, i32_w]
    rfl
  refine take_ (i := 7) (N := some 59) (v := ?_) (a' := ?_) #[true, true, true, true, false, false, true, true, false, false, false, false] rfl rfl (by kernel_rfl) (fun _ _ _ h => h) (Or.inl ⟨by rfl, ?_⟩) hHeld ?_ ?_
  rotate_left
  · intro w' hS'
    have x0 : w'.cell? ⟨gx, 0, none⟩ = some (.string ⟨#[97]⟩) := (blk_cell hS' 0).trans rfl; have x1 : w'.cell? ⟨gx, 1, none⟩ = some (.int .i64 (n : Int)) := (blk_cell hS' 1).trans rfl; have x2 : w'.cell? ⟨gx, 2, none⟩ = some (.int .i64 5) := (blk_cell hS' 2).trans rfl; have x3 : w'.cell? ⟨gx, 3, none⟩ = some (.int .i64 1) := (blk_cell hS' 3).trans rfl; have x4 : w'.cell? ⟨gx, 4, none⟩ = some (.bool false) := (blk_cell hS' 4).trans rfl
    go_simp
    with_reducible rfl
  rotate_left
  · simp only [Act.put, List.setIfInBounds_toArray, List.set_cons_zero, List.set_cons_succ, i64_w, i32_w]
    rfl
  refine take_ (i := 8) (N := some 60) (v := ?_) (a' := ?_) #[true, true, true, true, false, false, true, true, true, false, false, false] rfl rfl (by kernel_rfl) (fun _ _ _ h => h) (Or.inl ⟨by rfl, ?_⟩) hHeld ?_ ?_
  rotate_left
  · intro w' hS'
    have x0 : w'.cell? ⟨gx, 0, none⟩ = some (.string ⟨#[97]⟩) := (blk_cell hS' 0).trans rfl; have x1 : w'.cell? ⟨gx, 1, none⟩ = some (.int .i64 (n : Int)) := (blk_cell hS' 1).trans rfl; have x2 : w'.cell? ⟨gx, 2, none⟩ = some (.int .i64 5) := (blk_cell hS' 2).trans rfl; have x3 : w'.cell? ⟨gx, 3, none⟩ = some (.int .i64 1) := (blk_cell hS' 3).trans rfl; have x4 : w'.cell? ⟨gx, 4, none⟩ = some (.bool false) := (blk_cell hS' 4).trans rfl
    go_simp
    with_reducible rfl
  rotate_left
  · simp only [Act.put, List.setIfInBounds_toArray, List.set_cons_zero, List.set_cons_succ, i64_w, i32_w]
    rfl
  refine one_ (i := 4) (N := some 56) #[true, true, true, true, true, false, true, true, true, false, false, false] rfl rfl (by kernel_rfl) (by decide) (fun K hK => ?_)
  refine goes_ Tryz.func52 (by kernel_rfl) rfl #[.int .u64 5] (by rfl) rfl rfl (by first | (simp [Act.eval]; done) | (simp [Act.eval]; decide)) ?_
  refine (put_l 5 (by decide) _).mono ?_
  rintro e_ y56 ⟨Aq56, cq56, rfl, hr56, hb⟩
  refine ⟨_, rfl, ?_⟩
  have HEf := Aside0.mk (HEe.out.below hb)
  have HQ56 := Aside0.mk hr56
  refine hK.out _ _ HEf.out.xb (fun hHeld => ?_)
  clear hK K hb hr56
  refine norm_ (a' := ?_) ?_ ?_
  rotate_left
  · show Act.put _ (some 56) _ = _
    simp only [Act.put, List.setIfInBounds_toArray, List.set_cons_zero, List.set_cons_succ, i64_w, i32_w]
    rfl
  obtain ⟨v57, z57, hrun, hE⟩ := Es.app (c := cq56) HEf.out HQ56.out (by show (0 : Nat) < 1; decide) (by simp [bytesOf_length, ByteArray.size])
  have HEg := Aside0.mk hE
  replace hrun := hrun
  refine one_ (i := 5) (N := some 57) #[true, true, true, true, true, true, true, true, true, false, false, false] rfl rfl (by kernel_rfl) (by decide) (fun K hK => ?_)
  refine value_ (w1 := z57) (v := v57) (by rfl) rfl ?_ ?_
  · unfold execOp
    exact (by simpa [resolve, invoke, builtin, Act.eval, Result.andThen] using congrArg (fun r => Result.andThen r fun a w' => Result.ok (Next.value a) w') hrun)
  refine hK.out _ _ HEg.out.xb (fun hHeld => ?_)
  clear hK K hrun hE
  refine norm_ (a' := ?_) ?_ ?_
  rotate_left
  · show Act.put _ (some 57) _ = _
    simp only [Act.put, List.setIfInBounds_toArray, List.set_cons_zero, List.set_cons_succ, i64_w, i32_w]
    rfl
  refine one_ (i := 9) (N := some 61) #[true, true, true, true, true, true, true, true, true, true, false, false] rfl rfl (by kernel_rfl) (by decide) (fun K hK => ?_)
  refine goes_ Tryz.func52 (by kernel_rfl) rfl #[.int .u64 1] (by rfl) rfl rfl (by first | (simp [Act.eval]; done) | (simp [Act.eval]; decide)) ?_
  refine (put_l 1 (by decide) _).mono ?_
  rintro e_ y61 ⟨Aq61, cq61, rfl, hr61, hb⟩
  refine ⟨_, rfl, ?_⟩
  have HEh := Aside0.mk (HEg.out.below hb)
  have HQ61 := Aside0.mk hr61
  refine hK.out _ _ HEh.out.xb (fun hHeld => ?_)
  clear hK K hb hr61
  refine norm_ (a' := ?_) ?_ ?_
  rotate_left
  · show Act.put _ (some 61) _ = _
    simp only [Act.put, List.setIfInBounds_toArray, List.set_cons_zero, List.set_cons_succ, i64_w, i32_w]
    rfl
  obtain ⟨v62, z62, hrun, hE⟩ := Es.app (c := cq61) HEh.out HQ61.out (by show (0 : Nat) < 1; decide) (by simp [bytesOf_length, ByteArray.size])
  have HEi := Aside0.mk hE
  replace hrun := hrun
  refine one_ (i := 10) (N := some 62) #[true, true, true, true, true, true, true, true, true, true, true, false] rfl rfl (by kernel_rfl) (by decide) (fun K hK => ?_)
  refine value_ (w1 := z62) (v := v62) (by rfl) rfl ?_ ?_
  · unfold execOp
    exact (by simpa [resolve, invoke, builtin, Act.eval, Result.andThen] using congrArg (fun r => Result.andThen r fun a w' => Result.ok (Next.value a) w') hrun)
  refine hK.out _ _ HEi.out.xb (fun hHeld => ?_)
  clear hK K hrun hE
  refine norm_ (a' := ?_) ?_ ?_
  rotate_left
  · show Act.put _ (some 62) _ = _
    simp only [Act.put, List.setIfInBounds_toArray, List.set_cons_zero, List.set_cons_succ, i64_w, i32_w]
    rfl
  refine pure_ (i := 11) (N := some 4) (v := ?_) (a' := ?_) #[true, true, true, true, true, true, true, true, true, true, true, true] rfl rfl (by kernel_rfl) (fun _ _ _ h => h) (Or.inl ⟨by rfl, ?_⟩) ?_ ?_
  rotate_left
  · intro w'
    go_simp
    with_reducible rfl
  rotate_left
  · simp only [Act.put, List.setIfInBounds_toArray, List.set_cons_zero, List.set_cons_succ, i64_w, i32_w]
    rfl
  refine done_ (by kernel_rfl) ?_
  clear HEd HEe HEf HEg HEh hHeld
  have x4 : z62.cell? ⟨gx, 4, none⟩ = some (.bool false) := (blk_cell HEi.out.xb 4).trans rfl
  have g2 : z62.cell? ⟨gf, 2, none⟩ = some (.slice (some ⟨gr, 0, none⟩) 1 1) := (blk_cell ((HEi.out.hb.block _ (blk_lt HF0.out)).trans HF0.out) 2).trans rfl
  go_upto_region 15 with (fail)
  have HEj := Aside0.mk (HEi.out.below (below_alloc (Below.refl _ _) (.cells #[.int .u8 0] 5)))
  have HPz := Aside0.mk (show ReadsInt (z62.alloc (.cells #[.int .u8 0] 5)) .u8 (some ⟨z62.heap.size, 0, none⟩) 1 [0] from De.reads_lit [0] (blk_new z62 _) rfl (by decide))
  clear HEi x4
  go_upto_region 16 with (first | (at_builtin; refine Es.wp rfl _ _ rfl rfl rfl HEj.out HPz.out rfl (by decide) (by simp [bytesOf_length, ByteArray.size]) ?_; intro v8 w8 hE8; have HE8 := Aside0.mk hE8; have g2' : w8.cell? ⟨gf, 2, none⟩ = some (.slice (some ⟨gr, 0, none⟩) 1 1) := (blk_cell ((hE8.hb.block _ (blk_lt HF0.out)).trans HF0.out) 2).trans rfl; clear hE8) | (rw [rounds_succ]))
  clear g2 g2' HEj HPz
  have hL : ([79, 68, 79, 1] ++ [(n : Int)] ++ [2 * (n : Int)] ++ [1] ++ [1] ++ bytesOf ⟨#[97]⟩ ++ [5] ++ [1] ++ [0]) = nb (body1 n) := by
    rcases HN.out with rfl | rfl <;> decide +kernel
  rw [hL] at HE8
  clear hL
  have hrow := HE8.out.row
  rw [nb_len] at hrow
  obtain ⟨A8, c8, rfl, hr8⟩ := own_reads hrow
  have HR8 := Aside0.mk hr8
  have HC8 := Aside0.mk (own_le hrow)
  clear hrow hr8
  have HSM := Aside0.mk (sum_l (c := c8) (body1 n) (by show 12 ≤ 1000000; decide) HR8.out HC8.out)
  go_wp2_with (first | (go_at_call 54; (with_reducible refine HSM.out.mono ?_); rintro e_ w9 ⟨A9, c9, rfl, hr, hb⟩; have HE9 := Aside0.mk (HE8.out.below hb); have HP9 := Aside0.mk hr; clear hb hr) | (at_builtin; refine Es.wp rfl _ _ rfl rfl rfl HE9.out HP9.out rfl (by decide) (by rw [nb_len]; show 12 + 4 ≤ 1000000; decide) ?_; intro v10 w10 hE10; have HE10 := Aside0.mk hE10; clear hE10))
  refine bodyPost_ret (results_tmp2 rfl _ _ _) rfl ?_
  have hrow := HE10.out.row
  rw [show nb (body1 n) ++ nb (be4 (crc (body1 n))) = nb (enc1 n) from by unfold enc1 nb; rw [List.map_append], nb_len] at hrow
  obtain ⟨A, c, hv, hr⟩ := own_reads hrow
  rw [hv] at hrow
  exact ⟨A, c, by first | (rw [← hv]; rfl) | (simp [hv]), own_le hrow, hr, HB0.out.trans (HE10.out.hb.mono HB0.out.size)⟩
end Go.Proofs.YtpihpkphhkcdlaaGreatDoor.Ec
