/- strconv.FormatInt at base 16, of a number from 256 to 511: a digit 1, then two. -/
import Derived.Test.YtjapnbghnnbamaaGreatDoorProg
import Derived.Test.YtjapnbghnnbamaaGreatDoorWWords
import Derived.Test.YtjapnbghnnbamaaGreatDoorWLast
import Derived.WalkKit
import Derived.Laws.Bits64b
import Derived.KernelRfl
namespace Go.Proofs.YtjapnbghnnbamaaGreatDoor.Fmt
open Go.RowKit Go.Proofs.YtjapnbghnnbamaaGreatDoorW.PrintWords Go.Proofs.YtjapnbghnnbamaaGreatDoorW.PrintLast
set_option linter.unusedVariables false
set_option linter.unusedSimpArgs false
set_option maxHeartbeats 1000000 in
set_option maxRecDepth 100000 in
theorem pow2_16 (w : World) : Calls Tryz.prog 85 #[.int .i64 16] w fun e w' => e = .returned (.bool true) ∧ w = w' := by
  have h : bits BinOp.and IntKind.i64 16 15 = 0 := by decide +kernel
  go_enter Tryz.func85, Tryz.ntmps85
  go_wp2
  go_ret
  exact ⟨rfl, rfl⟩
set_option maxHeartbeats 1000000 in
set_option maxRecDepth 100000 in
theorem tz64_16 (w : World) (hT : w.cell? ⟨8, 15, none⟩ = some (.int .u8 4)) : Calls Tryz.prog 90 #[.int .u64 16] w fun e w' => e = .returned (.int .i64 4) ∧ w = w' := by
  have key : IntKind.u64.wrap (bits BinOp.and IntKind.u64 16 (IntKind.u64.wrap (-16)) * 285870213051353865) / 288230376151711744 = 15 := by decide +kernel
  go_enter Tryz.func90, Tryz.ntmps90
  go_wp2_with (simp only [key])
  go_ret
  exact ⟨rfl, rfl⟩
set_option maxHeartbeats 1000000 in
set_option maxRecDepth 100000 in
theorem tz_16 (w : World) (hT : w.cell? ⟨8, 15, none⟩ = some (.int .u8 4)) : Calls Tryz.prog 86 #[.int .u64 16] w fun e w' => e = .returned (.int .i64 4) ∧ w = w' := by
  have HT := Aside0.mk hT
  clear hT
  go_enter Tryz.func86, Tryz.ntmps86
  go_wp2_with (first | (go_at_call 90; (with_reducible refine (tz64_16 _ HT.out).mono ?_); rintro e w1 ⟨rfl, rfl⟩))
  go_ret
  exact ⟨rfl, rfl⟩
/-- The digits of the library. -/
abbrev digs : ByteArray := ⟨#[48, 49, 50, 51, 52, 53, 54, 55, 56, 57, 97, 98, 99, 100, 101, 102, 103, 104, 105, 106, 107, 108, 109, 110, 111, 112, 113, 114, 115, 116, 117, 118, 119, 120, 121, 122]⟩
theorem zero65 : ∀ (W : World), (zeroValue 138).run Tryz.prog W = .ok (.agg (Array.replicate 65 (.int .u8 0))) W := fun W => by kernel_rfl
/-- A digit's byte. -/
def hexd (d : Nat) : Int := if d < 10 then 48 + d else 87 + d
theorem digs_hexd : ∀ d : Fin 16, ((digs[d.val]'(by have := d.isLt; show d.val < 36; omega)).toNat : Int) = hexd d.val := by decide +kernel
theorem and15 (n : Nat) (h : n < 65536) : bits BinOp.and IntKind.u64 (n : Int) 15 = ((n % 16 : Nat) : Int) := by
  have h1 := bits_and_u64_nat n 15 (by omega) (by decide)
  have h2 : n &&& 15 = n % 16 := Nat.and_two_pow_sub_one_eq_mod n 4
  rw [h2] at h1
  exact h1
set_option maxHeartbeats 4000000 in
set_option maxRecDepth 100000 in
theorem bits_16 (n : Nat) (h1 : 256 ≤ n) (h2 : n ≤ 511) (w : World) (hT : w.cell? ⟨8, 15, none⟩ = some (.int .u8 4)) :
    Calls Tryz.prog 72 #[.slice none 0 0, .int .u64 (n : Int), .int .i64 16, .bool false, .bool false] w fun e w' => e = .returned (.tuple #[.slice none 0 0, .string (strOfNums [49, hexd (n / 16 % 16), hexd (n % 16)])]) ∧ Below w.heap.size w w' := by
  have HT := Aside0.mk hT
  clear hT
  obtain ⟨Z, hZ⟩ : ∃ Z : Array Value, Z = Array.replicate 65 (.int .u8 0) := ⟨_, rfl⟩
  have hz := zero65
  rw [← hZ] at hz
  go_enter Tryz.func72, Tryz.ntmps72
  go_upto_region 11 with (first | (go_at_call 85; (with_reducible refine (pow2_16 _).mono ?_); rintro e w1 ⟨rfl, rfl⟩) | (go_at_call 86; (with_reducible refine (tz_16 _ (pw_cell_below (below_alloc (Below.refl _ _) _) HT.out)).mono ?_); rintro e w1 ⟨rfl, rfl⟩))
  obtain ⟨q, hq⟩ : ∃ q : Nat, q = n / 16 := ⟨_, rfl⟩
  obtain ⟨d0, hd0⟩ : ∃ d : Nat, d = n % 16 := ⟨_, rfl⟩
  obtain ⟨d1, hd1⟩ : ∃ d : Nat, d = q % 16 := ⟨_, rfl⟩
  have a1 : decide ((n : Int) ≥ 16) = true := decide_eq_true (by omega)
  have a2 : decide ((q : Int) ≥ 16) = true := decide_eq_true (by omega)
  have b1 : bits BinOp.and IntKind.u64 (n : Int) 15 = (d0 : Int) := by rw [hd0]; exact and15 n (by omega)
  have b2 : bits BinOp.and IntKind.u64 (q : Int) 15 = (d1 : Int) := by rw [hd1]; exact and15 q (by omega)
  have c1 : (n : Int) / 16 = (q : Int) := by omega
  have c2 : (q : Int) / 16 = 1 := by omega
  have e0 : (d0 : Int) < 36 := by omega
  have e1 : (d1 : Int) < 36 := by omega
  refine wp_loop_rounds 3 ?_
  have E1 := Aside0.mk (show d1 = n / 16 % 16 ∧ d0 = n % 16 from ⟨by rw [hd1, hq], hd0⟩)
  clear hd0 hd1 hq
  have z0 : d0 < digs.size := by show d0 < 36; omega
  have z1 : d1 < digs.size := by show d1 < 36; omega
  rw [rounds_succ]
  go_upto_region 14 with (fail)
  obtain ⟨W1, hW1⟩ : ∃ W1, W1 = w.alloc (Obj.cells ((Array.replicate 65 (.int .u8 0)).setIfInBounds 64 (.int .u8 ((digs[d0]).toNat : Int))) 138) := ⟨_, rfl⟩
  obtain ⟨x0, hx0⟩ : ∃ x : Int, x = ((digs[d0]).toNat : Int) := ⟨_, rfl⟩
  obtain ⟨x1, hx1⟩ : ∃ x : Int, x = ((digs[d1]).toNat : Int) := ⟨_, rfl⟩
  obtain ⟨g, hg⟩ : ∃ g, g = w.heap.size := ⟨_, rfl⟩
  have HL1 := Aside0.mk (show W1.heap[g]? = some (.cells ((Array.replicate 65 (.int .u8 0)).setIfInBounds 64 (.int .u8 x0)) 138 (0, 0)) from by rw [hW1, hg, hx0]; exact blk_new w _)
  have HB1 := Aside0.mk (show Below w.heap.size w W1 from by rw [hW1]; exact below_alloc (Below.refl _ _) _)
  have HX0 := Aside0.mk hx0
  have HX1 := Aside0.mk hx1
  rw [← hW1, ← hg]
  have HGG := Aside0.mk hg
  clear hW1 hx0 hx1 hg
  have k63 : W1.cell? ⟨g, 63, none⟩ = some (.int .u8 0) := (blk_cell HL1.out 63).trans rfl
  have k62 : W1.cell? ⟨g, 62, none⟩ = some (.int .u8 0) := (blk_cell HL1.out 62).trans rfl
  have f63 := blk_frozen HL1.out 63
  have f62 := blk_frozen HL1.out 62
  go_upto_region 11 with (fail)
  rw [rounds_succ]
  go_upto_region 14 with (fail)
  obtain ⟨W2, hW2⟩ : ∃ W2, W2 = W1.setCell ⟨g, 63, none⟩ (.int .u8 ((digs[d1]).toNat : Int)) := ⟨_, rfl⟩
  rw [← hW2]
  have HL2 := Aside0.mk (show W2.heap[g]? = some (.cells (((Array.replicate 65 (.int .u8 0)).setIfInBounds 64 (.int .u8 x0)).setIfInBounds 63 (.int .u8 x1)) 138 (0, 0)) from by rw [hW2, HX1.out]; exact blk_put HL1.out 63 _ rfl)
  have HB2 := Aside0.mk (show Below w.heap.size w W2 from by rw [hW2]; exact HB1.out.setCell (by rw [← HGG.out]; exact Nat.le_refl _) _)
  clear hW2 k62 k63 f62 f63
  have k62 : W2.cell? ⟨g, 62, none⟩ = some (.int .u8 0) := (blk_cell HL2.out 62).trans rfl
  have f62 := blk_frozen HL2.out 62
  go_upto_region 11 with (fail)
  rw [rounds_succ]
  go_upto_region 25 with (fail)
  obtain ⟨W3, hW3⟩ : ∃ W3, W3 = W2.setCell ⟨g, 62, none⟩ (.int .u8 ((digs[1]).toNat : Int)) := ⟨_, rfl⟩
  rw [← hW3]
  have HL3 := Aside0.mk (show W3.heap[g]? = some (.cells ((((Array.replicate 65 (.int .u8 0)).setIfInBounds 64 (.int .u8 x0)).setIfInBounds 63 (.int .u8 x1)).setIfInBounds 62 (.int .u8 49)) 138 (0, 0)) from by rw [hW3]; exact blk_put HL2.out 62 _ rfl)
  have HB3 := Aside0.mk (show Below w.heap.size w W3 from by rw [hW3]; exact HB2.out.setCell (by rw [← HGG.out]; exact Nat.le_refl _) _)
  clear hW3 k62 f62
  have r0 : W3.cell? ⟨g, 62, none⟩ = some (.int .u8 49) := (blk_cell HL3.out 62).trans rfl
  have r1 : W3.cell? ⟨g, 63, none⟩ = some (.int .u8 x1) := (blk_cell HL3.out 63).trans rfl
  have r2 : W3.cell? ⟨g, 64, none⟩ = some (.int .u8 x0) := (blk_cell HL3.out 64).trans rfl
  have hrd : ReadsInt W3 .u8 (some ⟨g, 62, none⟩) 3 [49, x1, x0] := ⟨rfl, by decide, fun _ => ⟨_, rfl, fun j hj => by
    rw [Go.WideShapes.add_plain]
    match j, hj with
    | 0, _ => exact r0
    | 1, _ => exact r1
    | 2, _ => exact r2⟩⟩
  have HRD := Aside0.mk hrd
  have hcv := Kd.C_string (P := Tryz.prog) (c := 3) Tryz.underlying33 Tryz.underlying5 Tryz.underlying9 (Kd.C_of_reads (d := (0 : Int)) (h1 := fun _ => rfl) hrd)
  clear r0 r1 r2 hrd
  go_wp2
  go_ret2
  have g0 : x0 = hexd (n % 16) := HX0.out.trans ((digs_hexd ⟨d0, by have := E1.out.2; omega⟩).trans (congrArg hexd E1.out.2))
  have g1 : x1 = hexd (n / 16 % 16) := HX1.out.trans ((digs_hexd ⟨d1, by have := E1.out.1; omega⟩).trans (congrArg hexd E1.out.1))
  rw [← g0, ← g1]
  exact ⟨rfl, HB3.out⟩
set_option maxHeartbeats 2000000 in
set_option maxRecDepth 100000 in
theorem fmtI_16 (n : Nat) (h1 : 256 ≤ n) (h2 : n ≤ 511) (w : World) (hT : w.cell? ⟨8, 15, none⟩ = some (.int .u8 4)) :
    Calls Tryz.prog 55 #[.int .i64 (n : Int), .int .i64 16] w fun e w' => e = .returned (.string (strOfNums [49, hexd (n / 16 % 16), hexd (n % 16)])) ∧ Below w.heap.size w w' := by
  have HB := Aside0.mk (bits_16 n h1 h2 w hT)
  have d1 : decide ((n : Int) < 0) = false := decide_eq_false (by omega)
  have d2 : IntKind.u64.wrap (n : Int) = (n : Int) := by simp [IntKind.wrap, IntKind.signed, IntKind.bits]; omega
  clear hT h1 h2
  go_enter Tryz.func55, Tryz.ntmps55
  go_wp2_with (first | (go_at_call 72; (with_reducible refine HB.out.mono ?_); rintro e w1 ⟨rfl, hb⟩; have HB2 := Aside0.mk hb; clear hb))
  go_ret
  exact ⟨rfl, HB2.out⟩
set_option maxHeartbeats 2000000 in
set_option maxRecDepth 100000 in
/-- strconv.FormatInt at base 16. -/
theorem fmt_16 (n : Nat) (h1 : 256 ≤ n) (h2 : n ≤ 511) (w : World) (hT : w.cell? ⟨8, 15, none⟩ = some (.int .u8 4)) :
    Calls Tryz.prog 40 #[.int .i64 (n : Int), .int .i64 16] w fun e w' => e = .returned (.string (strOfNums [49, hexd (n / 16 % 16), hexd (n % 16)])) ∧ Below w.heap.size w w' := by
  have HB := Aside0.mk (fmtI_16 n h1 h2 w hT)
  clear hT h1 h2
  go_enter Tryz.func40, Tryz.ntmps40
  go_wp2_with (first | (go_at_call 55; (with_reducible refine HB.out.mono ?_); rintro e w1 ⟨rfl, hb⟩; have HB2 := Aside0.mk hb; clear hb))
  go_ret
  exact ⟨rfl, HB2.out⟩
end Go.Proofs.YtjapnbghnnbamaaGreatDoor.Fmt
