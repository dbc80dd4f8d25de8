/- The shelf's contracts of a strings.Builder's WriteByte and WriteString at this program. -/
import Derived.Test.YtjapnbghnnbamaaGreatDoorShelf
import Derived.Test.YtjapnbghnnbamaaGreatDoorPlainU
import Derived.Test.YtjapnbghnnbamaaGreatDoorFmt
import Derived.Test.YtjapnbghnnbamaaGreatDoorExtConv
import Derived.Test.YtjapnbghnnbamaaGreatDoorWMore
import Derived.Deep.LoopGhost
import Derived.Deep.QuietTactic
import Derived.Maps.AppendAt
import Derived.OwnWalk
import Derived.Lib.AppendStr
namespace Go.Proofs
open Go.Shelf Go.RowKit
def Tryz.lays166_ren : Go.Shelf.Ren := ⟨fun | 166 => 20 | 240 => 39 | 276 => 54 | n => n, fun | 0 => 0 | 3 => 3 | 4 => 4 | 5 => 5 | 9 => 9 | 20 => 20 | 37 => 33 | 70 => 52 | 72 => 54 | 75 => 42 | 80 => 57 | 164 => 72 | n => n, fun n => n⟩
theorem Tryz.lays166 : Go.Proofs.Lays.n166 Tryz.prog Tryz.lays166_ren := {
  mixed := by kernel_rfl
  f166 := Tryz.func20.trans (congrArg some (by kernel_rfl))
  f240 := Tryz.func39.trans (congrArg some (by kernel_rfl))
  f276 := Tryz.func54.trans (congrArg some (by kernel_rfl))
  t0 := Tryz.underlying0
  a0 := Tryz.isAgg0
  z0 := Tryz.sizeOf0
  v0 := Tryz.zeroValue0
  t3 := Tryz.underlying3
  a3 := Tryz.isAgg3
  z3 := Tryz.sizeOf3
  v3 := Tryz.zeroValue3
  t4 := Tryz.underlying4
  a4 := Tryz.isAgg4
  z4 := Tryz.sizeOf4
  v4 := Tryz.zeroValue4
  t9 := Tryz.underlying9
  a9 := Tryz.isAgg9
  z9 := Tryz.sizeOf9
  v9 := Tryz.zeroValue9
  t20 := Tryz.underlying20
  a20 := Tryz.isAgg20
  z20 := Tryz.sizeOf20
  v20 := Tryz.zeroValue20
  t37 := Tryz.underlying33
  a37 := Tryz.isAgg33
  z37 := Tryz.sizeOf33
  v37 := Tryz.zeroValue33
  t70 := Tryz.underlying52
  a70 := Tryz.isAgg52
  z70 := Tryz.sizeOf52
  v70 := Tryz.zeroValue52
  t72 := Tryz.underlying54
  a72 := Tryz.isAgg54
  z72 := Tryz.sizeOf54
  v72 := Tryz.zeroValue54
  t75 := Tryz.underlying42
  a75 := Tryz.isAgg42
  z75 := Tryz.sizeOf42
  v75 := Tryz.zeroValue42
  t164 := Tryz.underlying72
  a164 := Tryz.isAgg72
  z164 := Tryz.sizeOf72
  v164 := Tryz.zeroValue72
}
theorem Tryz.Builder_Extra_166 : Builder.Extra Tryz.prog Tryz.lays166_ren where
  sizeBuilder := by kernel_rfl
  liesBuilder := by kernel_rfl
  t5 := Tryz.underlying5
  a5 := Tryz.isAgg5
  z5 := Tryz.sizeOf5
  v5 := Tryz.zeroValue5
  infoByte := by kernel_rfl
  cellsByte := by kernel_rfl
  sizeByte := by kernel_rfl
  neB5 := by decide
def Tryz.lays167_ren : Go.Shelf.Ren := ⟨fun | 167 => 57 | 240 => 39 | 276 => 54 | n => n, fun | 0 => 0 | 3 => 3 | 4 => 4 | 5 => 5 | 9 => 9 | 20 => 20 | 37 => 33 | 70 => 52 | 72 => 54 | 75 => 42 | 80 => 57 | 164 => 72 | n => n, fun n => n⟩
theorem Tryz.lays167 : Go.Proofs.Lays.n167 Tryz.prog Tryz.lays167_ren := {
  mixed := by kernel_rfl
  f167 := Tryz.func57.trans (congrArg some (by kernel_rfl))
  f240 := Tryz.func39.trans (congrArg some (by kernel_rfl))
  f276 := Tryz.func54.trans (congrArg some (by kernel_rfl))
  t0 := Tryz.underlying0
  a0 := Tryz.isAgg0
  z0 := Tryz.sizeOf0
  v0 := Tryz.zeroValue0
  t4 := Tryz.underlying4
  a4 := Tryz.isAgg4
  z4 := Tryz.sizeOf4
  v4 := Tryz.zeroValue4
  t5 := Tryz.underlying5
  a5 := Tryz.isAgg5
  z5 := Tryz.sizeOf5
  v5 := Tryz.zeroValue5
  t9 := Tryz.underlying9
  a9 := Tryz.isAgg9
  z9 := Tryz.sizeOf9
  v9 := Tryz.zeroValue9
  t20 := Tryz.underlying20
  a20 := Tryz.isAgg20
  z20 := Tryz.sizeOf20
  v20 := Tryz.zeroValue20
  t37 := Tryz.underlying33
  a37 := Tryz.isAgg33
  z37 := Tryz.sizeOf33
  v37 := Tryz.zeroValue33
  t70 := Tryz.underlying52
  a70 := Tryz.isAgg52
  z70 := Tryz.sizeOf52
  v70 := Tryz.zeroValue52
  t72 := Tryz.underlying54
  a72 := Tryz.isAgg54
  z72 := Tryz.sizeOf54
  v72 := Tryz.zeroValue54
  t75 := Tryz.underlying42
  a75 := Tryz.isAgg42
  z75 := Tryz.sizeOf42
  v75 := Tryz.zeroValue42
  t164 := Tryz.underlying72
  a164 := Tryz.isAgg72
  z164 := Tryz.sizeOf72
  v164 := Tryz.zeroValue72
}
theorem Tryz.Builder_Extra_167 : Builder.Extra Tryz.prog Tryz.lays167_ren where
  sizeBuilder := by kernel_rfl
  liesBuilder := by kernel_rfl
  t5 := Tryz.underlying5
  a5 := Tryz.isAgg5
  z5 := Tryz.sizeOf5
  v5 := Tryz.zeroValue5
  infoByte := by kernel_rfl
  cellsByte := by kernel_rfl
  sizeByte := by kernel_rfl
  neB5 := by decide
theorem Tryz.Builder_WriteByte (B b : Nat) (bs : List Value) (c : Int) (w : World) (h : Lib.IsBuilder 54 5 B b bs w) (hlen : bs.length + 1 ≤ 140737488355328) (hBw : B ≤ w.heap.size) :
    Calls Tryz.prog 57 #[.pointer (some ⟨b, 0, none⟩), .int .u8 c] w fun e w' => e = .returned .nilIface ∧ (Lib.BuilderAt 54 5 B b (.pointer (some ⟨b, 0, none⟩)) (bs ++ [.int .u8 c]) w' ∧ Below B w w') := Any.Builder_WriteByte Tryz.lays167 Tryz.Builder_Extra_167 B b bs c w h hlen hBw
theorem Tryz.Builder_WriteString (B b : Nat) (bs : List Value) (s : ByteArray) (w : World) (h : Lib.IsBuilder 54 5 B b bs w) (hlen : bs.length + s.size ≤ 140737488355328) (hBw : B ≤ w.heap.size) :
    Calls Tryz.prog 20 #[.pointer (some ⟨b, 0, none⟩), .string s] w fun e w' => e = .returned (.tuple #[.int .i64 s.size, .nilIface]) ∧ (Lib.BuilderAt 54 5 B b (.pointer (some ⟨b, 0, none⟩)) (bs ++ Lib.strCells s) w' ∧ Below B w w') := Any.Builder_WriteString Tryz.lays166 Tryz.Builder_Extra_166 B b bs s w h hlen hBw
end Go.Proofs
namespace Go.Proofs.YtjapnbghnnbamaaGreatDoor.Q
open Go.RowKit Go.Proofs.YtjapnbghnnbamaaGreatDoorW.PrintWords Go.Proofs.YtjapnbghnnbamaaGreatDoorW.PrintLast Go.Proofs.YtjapnbghnnbamaaGreatDoor.Fmt Go.Proofs.YtjapnbghnnbamaaGreatDoor.Ext
open Go.Proofs.YtjapnbghnnbamaaGreatDoor.Plain (tell quote tell_len of_lt)
set_option linter.unusedVariables false
set_option linter.unusedSimpArgs false
/-- The numbers of bytes. -/
def nb (bs : List UInt8) : List Int := bs.map fun c => (c.toNat : Int)
theorem nb_length (bs : List UInt8) : (nb bs).length = bs.length := by simp [nb]
theorem nb_get (bs : List UInt8) (k : Nat) (h : k < bs.length) : (nb bs).getD k 0 = ((bs[k]).toNat : Int) := by simp [nb, List.getD, h]
/-- What has been written behind k bytes. -/
def acc (bs : List UInt8) (k : Nat) : List UInt8 := 34 :: (bs.take k).flatMap tell
theorem acc_succ (bs : List UInt8) (k : Nat) (h : k < bs.length) : acc bs (k + 1) = acc bs k ++ tell bs[k] := by
  unfold acc
  rw [List.take_succ_eq_append_getElem h, List.flatMap_append]
  simp
theorem tell_short (c : UInt8) : (tell c).length ≤ 4 := of_lt (p := fun c => (tell c).length ≤ 4) (by decide +kernel) c
theorem flat_len (l : List UInt8) : (l.flatMap tell).length ≤ 4 * l.length := by
  induction l with
  | nil => simp
  | cons c l ih => have := tell_short c; simp only [List.flatMap_cons, List.length_append, List.length_cons]; omega
theorem acc_len (bs : List UInt8) (k : Nat) : (acc bs k).length ≤ 4 * bs.length + 1 := by
  unfold acc
  have h1 := flat_len (bs.take k)
  have h2 := List.length_take_le k bs
  have h3 := List.length_take_le' k bs
  simp only [List.length_cons]
  omega
theorem acc_end (bs : List UInt8) : acc bs bs.length ++ [34] = quote bs := by unfold acc quote; simp
theorem tell_hex0 (c : UInt8) : c = 10 ∨ c = 13 ∨ c = 34 ∨ c = 92 ∨ (32 ≤ c.toNat ∧ c.toNat ≤ 126) ∨ (tell c).map (fun b => (b.toNat : Int)) = [92, 120, Fmt.hexd ((c.toNat + 256) / 16 % 16), Fmt.hexd ((c.toNat + 256) % 16)] :=
  of_lt (p := fun c => c = 10 ∨ c = 13 ∨ c = 34 ∨ c = 92 ∨ (32 ≤ c.toNat ∧ c.toNat ≤ 126) ∨ (tell c).map (fun b => (b.toNat : Int)) = [92, 120, Fmt.hexd ((c.toNat + 256) / 16 % 16), Fmt.hexd ((c.toNat + 256) % 16)]) (by decide +kernel) c
theorem tell_plain0 (c : UInt8) : c = 34 ∨ c = 92 ∨ ¬ (32 ≤ c.toNat ∧ c.toNat ≤ 126) ∨ tell c = [c] :=
  of_lt (p := fun c => c = 34 ∨ c = 92 ∨ ¬ (32 ≤ c.toNat ∧ c.toNat ≤ 126) ∨ tell c = [c]) (by decide +kernel) c
theorem wrap64_next (k : Nat) (h : (k : Int) < 9223372036854775807) : wrap64 ((k : Int) + 1) = ((k + 1 : Nat) : Int) := by unfold wrap64; omega
abbrev BT (g : Nat) (l : List UInt8) (w : World) : Prop := Lib.IsBuilder 54 5 g g (Lib.byteCells l) w
theorem bt_of {g : Nat} {l m : List UInt8} {w : World} {vs : List Value} (h : Lib.BuilderAt 54 5 g g (.pointer (some ⟨g, 0, none⟩)) vs w) (e : vs = Lib.byteCells (l ++ m)) : BT g (l ++ m) w := .inr (e ▸ h)
theorem fmt_x (x : Int) (c : UInt8) (hx : x = (c.toNat : Int)) (w : World) (hT : w.cell? ⟨8, 15, none⟩ = some (.int .u8 4)) :
    Calls Tryz.prog 40 #[.int .i64 (x + 256), .int .i64 16] w fun e w' => e = .returned (.string (strOfNums [49, hexd ((c.toNat + 256) / 16 % 16), hexd ((c.toNat + 256) % 16)])) ∧ Below w.heap.size w w' := by
  have := c.toNat_lt
  rw [show x + 256 = ((c.toNat + 256 : Nat) : Int) by omega]
  exact fmt_16 (c.toNat + 256) (by omega) (by omega) w hT
theorem slice1 (W : World) (a b : Int) : (Instr.slice 9 (.string (strOfNums [49, a, b])) (some (.int .i64 1)) none none).run Tryz.prog W = .ok (.string (strOfNums [a, b])) W := by
  rw [run_slice_string_from_if W 9 (strOfNums [49, a, b]) .i64 1 Tryz.underlying9, if_pos ⟨by decide, by show (1 : Int) ≤ 3; decide⟩]
  rfl
theorem hex_cells (c : UInt8) (h1 h2 : Int) (h : (tell c).map (fun b => (b.toNat : Int)) = [92, 120, h1, h2]) : Lib.strCells ((⟨#[92, 120]⟩ : ByteArray) ++ strOfNums [h1, h2]) = Lib.byteCells (tell c) := by
  match ht : tell c with
  | [a, b, d, e] =>
    rw [ht] at h
    simp only [List.map_cons, List.map_nil, List.cons.injEq, and_true] at h
    obtain ⟨ha, hb, rfl, rfl⟩ := h
    have e1 : a = 92 := UInt8.toNat_inj.1 (by show a.toNat = 92; omega)
    have e2 : b = 120 := UInt8.toNat_inj.1 (by show b.toNat = 120; omega)
    subst e1 e2
    simp [strOfNums, Lib.strCells, Lib.byteCells]
  | [] => rw [ht] at h; simp at h
  | [a] => rw [ht] at h; simp at h
  | [a, b] => rw [ht] at h; simp at h
  | [a, b, d] => rw [ht] at h; simp at h
  | a :: b :: d :: e :: f :: r => rw [ht] at h; simp at h
theorem bt_keep {g : Nat} {l : List UInt8} {w w2 : World} (h : BT g l w) (hb : Below w.heap.size w w2) : BT g l w2 := by
  have hg : w.grownBy w2 none := ⟨hb.os, hb.tape, hb.output, hb.size, fun i hi _ => hb.block i hi⟩
  have key : ∀ p, Lib.BuilderAt 54 5 g g p (Lib.byteCells l) w → Lib.BuilderAt 54 5 g g p (Lib.byteCells l) w2 := by
    rintro p ⟨h1, v, h2, h3, h4⟩
    refine ⟨h1, v, (hb.block g (blk_lt h2)).trans h2, h3.kept hg ?_, h4⟩
    cases hv : v.ownBlock with
    | none => exact .inl rfl
    | some i => exact .inr (by simp)
  exact h.imp (key _) (key _)
set_option maxHeartbeats 8000000 in
set_option maxRecDepth 100000 in
theorem quote_some (b off cp : Nat) (bs : List UInt8) (w : World) (hr : ∀ j, j < bs.length → w.cell? ⟨b, off + j, none⟩ = some (.int .u8 ((nb bs).getD j 0))) (hc : bs.length ≤ cp) (hl : bs.length ≤ 1000000000) (hT : w.cell? ⟨8, 15, none⟩ = some (.int .u8 4)) :
    Calls Tryz.prog 42 #[.slice (some ⟨b, off, none⟩) bs.length cp] w fun e w' => e = .returned (.string ⟨(quote bs).toArray⟩) ∧ Below w.heap.size w w' := by
  have HR := Aside0.mk hr
  have HC := Aside0.mk hc
  have HT := Aside0.mk hT
  have HL := Aside0.mk hl
  have HX : bs.length ≤ 9223372036854775807 := by omega
  clear hr hc hT hl
  go_enter Tryz.func42, Tryz.ntmps42
  go_wp2_with (first | (go_at_call 57; (with_reducible refine (Tryz.Builder_WriteByte w.heap.size w.heap.size [] 34 _ (Lib.fresh_isBuilder 54 5 w) (by simp) (by simp)).mono ?_); rintro e w1 ⟨rfl, hB1, hb1⟩; have HB1 := Aside0.mk hB1; have HW1 := Aside0.mk hb1; clear hB1 hb1))
  have HB := Aside0.mk (show Below w.heap.size w w1 from (below_alloc (Below.refl _ _) _).trans HW1.out)
  have HBT := Aside0.mk (show BT w.heap.size (acc bs 0) w1 from .inr HB1.out)
  have HS := Aside0.mk (show w.heap.size ≤ w1.heap.size from HB.out.size)
  clear HB1 HW1
  obtain ⟨g, hg⟩ : ∃ g, g = w.heap.size := ⟨_, rfl⟩
  have HG := Aside0.mk hg
  rw [← hg] at HB HBT HS ⊢
  clear hg
  go_loopg [9] bs.length (fun kq v9 w' => ∃ k : Nat, v9 = .int .i64 (k : Int) ∧ Aside0 (kq + k = bs.length) ∧ Aside0 (BT g (acc bs k) w') ∧ Aside0 (Below g w w') ∧ Aside0 (g ≤ w'.heap.size))
  case atStart => exact ⟨0, rfl, ⟨rfl⟩, HBT, HB, HS⟩
  case round =>
    clear HBT HB HS
    obtain ⟨k, rfl, HI, HBT, HB, HS⟩ := hrel
    have HLA := Aside0.mk (acc_len bs k)
    by_cases hk : k < bs.length
    · have hc0 : ((k : Int) < (bs.length : Int)) = True := eq_true (Int.ofNat_lt.2 hk)
      have hc1 : decide ((k : Int) < (bs.length : Int)) = true := decide_eq_true (Int.ofNat_lt.2 hk)
      have hwi : wrap64 ((k : Int) + 1) = ((k + 1 : Nat) : Int) := wrap64_next k (by omega)
      obtain ⟨c, hcc⟩ : ∃ c, c = bs[k] := ⟨_, rfl⟩
      obtain ⟨x, hx⟩ : ∃ x : Int, x = (c.toNat : Int) := ⟨_, rfl⟩
      have hcell : wr.cell? ⟨b, off + k, none⟩ = some (.int .u8 x) := by
        rw [hx, hcc, ← nb_get bs k hk, ← HR.out k hk]
        exact HB.out.cell (p := ⟨b, off + k, none⟩) (by rw [HG.out]; exact World.block_lt_of_cell? w ⟨b, off + k, none⟩ (HR.out k hk))
      have HSUC := Aside0.mk (show acc bs (k + 1) = acc bs k ++ tell c by rw [hcc]; exact acc_succ bs k hk)
      have hlt := c.toNat_lt
      have x0 : 0 ≤ x := by omega
      have x1 : x < 256 := by omega
      have HK := Aside0.mk hk
      have HCX := Aside0.mk hx
      have HW := Aside0.mk hwi
      clear hwi hcc hk hlt
      by_cases h10 : x = 10
      · skip
        have ht : tell c = [92, 110] := by rw [show c = 10 from UInt8.toNat_inj.1 (by show c.toNat = 10; omega)]; rfl
        have HTL := Aside0.mk ht
        clear ht hx x0 x1
        subst h10
        have HBND := Aside0.mk (show (Lib.byteCells (acc bs k)).length + (⟨#[92, 110]⟩ : ByteArray).size ≤ 140737488355328 by rw [Lib.byteCells_length]; have := HLA.out; have := HL.out; show _ + 2 ≤ _; omega)
        go_wp2_with (first | (go_at_call 20; (with_reducible refine (Tryz.Builder_WriteString g g _ ⟨#[92, 110]⟩ _ HBT.out HBND.out HS.out).mono ?_); rintro e w2 ⟨rfl, hB2, hb2⟩; have HB2 := Aside0.mk hB2; have HW2 := Aside0.mk hb2; clear hB2 hb2))
        go_roundg (gk - 1)
        case measure => have := HI.out; have := HK.out; omega
        case rel => exact ⟨k + 1, by first | rfl | (rw [HW.out]; done) | (congr 1; done), ⟨by have := HI.out; have := HK.out; omega⟩, ⟨by rw [HSUC.out, HTL.out]; exact bt_of HB2.out (by rw [Lib.byteCells_append]; rfl)⟩, ⟨HB.out.trans (HW2.out)⟩, ⟨Nat.le_trans HS.out (HW2.out).size⟩⟩
      · by_cases h13 : x = 13
        · have n10 : (x == 10) = false := beq_eq_false_iff_ne.mpr h10
          clear h10
          have ht : tell c = [92, 114] := by rw [show c = 13 from UInt8.toNat_inj.1 (by show c.toNat = 13; omega)]; rfl
          have HTL := Aside0.mk ht
          clear ht hx x0 x1
          subst h13
          have HBND := Aside0.mk (show (Lib.byteCells (acc bs k)).length + (⟨#[92, 114]⟩ : ByteArray).size ≤ 140737488355328 by rw [Lib.byteCells_length]; have := HLA.out; have := HL.out; show _ + 2 ≤ _; omega)
          go_wp2_with (first | (go_at_call 20; (with_reducible refine (Tryz.Builder_WriteString g g _ ⟨#[92, 114]⟩ _ HBT.out HBND.out HS.out).mono ?_); rintro e w2 ⟨rfl, hB2, hb2⟩; have HB2 := Aside0.mk hB2; have HW2 := Aside0.mk hb2; clear hB2 hb2))
          go_roundg (gk - 1)
          case measure => have := HI.out; have := HK.out; omega
          case rel => exact ⟨k + 1, by first | rfl | (rw [HW.out]; done) | (congr 1; done), ⟨by have := HI.out; have := HK.out; omega⟩, ⟨by rw [HSUC.out, HTL.out]; exact bt_of HB2.out (by rw [Lib.byteCells_append]; rfl)⟩, ⟨HB.out.trans (HW2.out)⟩, ⟨Nat.le_trans HS.out (HW2.out).size⟩⟩
        · have n10 : (x == 10) = false := beq_eq_false_iff_ne.mpr h10
          have n13 : (x == 13) = false := beq_eq_false_iff_ne.mpr h13
          by_cases h34 : x = 34 ∨ x = 92
          · rcases h34 with h34 | h34
            · have ht : tell c = [92, 34] := by rw [show c = 34 from UInt8.toNat_inj.1 (by show c.toNat = 34; omega)]; rfl
              have HTL := Aside0.mk ht
              clear ht hx x0 x1 n10 n13 h10 h13
              subst h34
              have HBND := Aside0.mk (show (Lib.byteCells (acc bs k)).length + 1 ≤ 140737488355328 by rw [Lib.byteCells_length]; have := HLA.out; have := HL.out; omega)
              have HBN2 := Aside0.mk (show (Lib.byteCells (acc bs k ++ [92])).length + 1 ≤ 140737488355328 by rw [Lib.byteCells_length]; have := HLA.out; have := HL.out; simp only [List.length_append, List.length_cons, List.length_nil]; omega)
              have tok1 : True := trivial
              go_wp2_with (first | (go_at_call 57; have _t := tok1; (with_reducible refine (Tryz.Builder_WriteByte g g _ 92 _ HBT.out HBND.out HS.out).mono ?_); rintro e w2 ⟨rfl, hB2, hb2⟩; have HB2 := Aside0.mk hB2; have HW2 := Aside0.mk hb2; clear hB2 hb2; clear tok1; have HBT2 := Aside0.mk (show BT g (acc bs k ++ [92]) w2 from bt_of HB2.out (by rw [Lib.byteCells_append]; rfl)); have HS2 := Aside0.mk (show g ≤ w2.heap.size from Nat.le_trans HS.out HW2.out.size); have tok2 : True := trivial) | (go_at_call 57; have _t := tok2; (with_reducible refine (Tryz.Builder_WriteByte g g _ 34 _ HBT2.out HBN2.out HS2.out).mono ?_); rintro e w3 ⟨rfl, hB3, hb3⟩; have HB3 := Aside0.mk hB3; have HW3 := Aside0.mk hb3; clear hB3 hb3; clear tok2))
              go_roundg (gk - 1)
              case measure => have := HI.out; have := HK.out; omega
              case rel => exact ⟨k + 1, by first | rfl | (rw [HW.out]; done) | (congr 1; done), ⟨by have := HI.out; have := HK.out; omega⟩, ⟨by rw [HSUC.out, HTL.out]; exact (show acc bs k ++ [92, 34] = acc bs k ++ [92] ++ [34] by simp) ▸ bt_of HB3.out (by rw [Lib.byteCells_append (acc bs k ++ [92])]; rfl)⟩, ⟨HB.out.trans (HW2.out.trans HW3.out)⟩, ⟨Nat.le_trans HS.out (HW2.out.trans HW3.out).size⟩⟩
            · have ht : tell c = [92, 92] := by rw [show c = 92 from UInt8.toNat_inj.1 (by show c.toNat = 92; omega)]; rfl
              have HTL := Aside0.mk ht
              clear ht hx x0 x1 n10 n13 h10 h13
              subst h34
              have HBND := Aside0.mk (show (Lib.byteCells (acc bs k)).length + 1 ≤ 140737488355328 by rw [Lib.byteCells_length]; have := HLA.out; have := HL.out; omega)
              have HBN2 := Aside0.mk (show (Lib.byteCells (acc bs k ++ [92])).length + 1 ≤ 140737488355328 by rw [Lib.byteCells_length]; have := HLA.out; have := HL.out; simp only [List.length_append, List.length_cons, List.length_nil]; omega)
              have tok1 : True := trivial
              go_wp2_with (first | (go_at_call 57; have _t := tok1; (with_reducible refine (Tryz.Builder_WriteByte g g _ 92 _ HBT.out HBND.out HS.out).mono ?_); rintro e w2 ⟨rfl, hB2, hb2⟩; have HB2 := Aside0.mk hB2; have HW2 := Aside0.mk hb2; clear hB2 hb2; clear tok1; have HBT2 := Aside0.mk (show BT g (acc bs k ++ [92]) w2 from bt_of HB2.out (by rw [Lib.byteCells_append]; rfl)); have HS2 := Aside0.mk (show g ≤ w2.heap.size from Nat.le_trans HS.out HW2.out.size); have tok2 : True := trivial) | (go_at_call 57; have _t := tok2; (with_reducible refine (Tryz.Builder_WriteByte g g _ 92 _ HBT2.out HBN2.out HS2.out).mono ?_); rintro e w3 ⟨rfl, hB3, hb3⟩; have HB3 := Aside0.mk hB3; have HW3 := Aside0.mk hb3; clear hB3 hb3; clear tok2))
              go_roundg (gk - 1)
              case measure => have := HI.out; have := HK.out; omega
              case rel => exact ⟨k + 1, by first | rfl | (rw [HW.out]; done) | (congr 1; done), ⟨by have := HI.out; have := HK.out; omega⟩, ⟨by rw [HSUC.out, HTL.out]; exact (show acc bs k ++ [92, 92] = acc bs k ++ [92] ++ [92] by simp) ▸ bt_of HB3.out (by rw [Lib.byteCells_append (acc bs k ++ [92])]; rfl)⟩, ⟨HB.out.trans (HW2.out.trans HW3.out)⟩, ⟨Nat.le_trans HS.out (HW2.out.trans HW3.out).size⟩⟩
          · have n34 : (x == 34) = false := beq_eq_false_iff_ne.mpr (fun h => h34 (.inl h))
            have n92 : (x == 92) = false := beq_eq_false_iff_ne.mpr (fun h => h34 (.inr h))
            have hu : ∀ n : Nat, n < 256 → c = UInt8.ofNat n → x = n := fun n hn h => by rw [hx, h]; simp; omega
            by_cases hp : 32 ≤ x ∧ x ≤ 126
            · have ht : tell c = [c] := by
                rcases tell_plain0 c with h | h | h | h
                · exact absurd (.inl (hu 34 (by decide) h)) h34
                · exact absurd (.inr (hu 92 (by decide) h)) h34
                · exact absurd (by omega) h
                · exact h
              obtain ⟨p0, p1⟩ := hp
              have HTL := Aside0.mk ht
              clear ht hx x0 x1 h34 h10 h13 hu
              have HBND := Aside0.mk (show (Lib.byteCells (acc bs k)).length + 1 ≤ 140737488355328 by rw [Lib.byteCells_length]; have := HLA.out; have := HL.out; omega)
              go_wp2_with (first | (go_at_call 57; (with_reducible refine (Tryz.Builder_WriteByte g g _ x _ HBT.out HBND.out HS.out).mono ?_); rintro e w2 ⟨rfl, hB2, hb2⟩; have HB2 := Aside0.mk hB2; have HW2 := Aside0.mk hb2; clear hB2 hb2))
              go_roundg (gk - 1)
              case measure => have := HI.out; have := HK.out; omega
              case rel => exact ⟨k + 1, by first | rfl | (rw [HW.out]; done) | (congr 1; done), ⟨by have := HI.out; have := HK.out; omega⟩, ⟨by rw [HSUC.out, HTL.out]; exact bt_of HB2.out (by rw [Lib.byteCells_append, HCX.out]; rfl)⟩, ⟨HB.out.trans (HW2.out)⟩, ⟨Nat.le_trans HS.out (HW2.out).size⟩⟩
            · have ht : (tell c).map (fun b => (b.toNat : Int)) = [92, 120, Fmt.hexd ((c.toNat + 256) / 16 % 16), Fmt.hexd ((c.toNat + 256) % 16)] := by
                rcases tell_hex0 c with h | h | h | h | h | h
                · exact absurd (hu 10 (by decide) h) h10
                · exact absurd (hu 13 (by decide) h) h13
                · exact absurd (.inl (hu 34 (by decide) h)) h34
                · exact absurd (.inr (hu 92 (by decide) h)) h34
                · exact absurd (by omega) hp
                · exact h
              have HF := Aside0.mk (fmt_x x c hx wr (HB.out.cell (p := ⟨8, 15, none⟩) (by rw [HG.out]; exact World.block_lt_of_cell? w ⟨8, 15, none⟩ HT.out) ▸ HT.out))
              obtain ⟨S, hS⟩ : ∃ S, S = strOfNums [49, hexd ((c.toNat + 256) / 16 % 16), hexd ((c.toNat + 256) % 16)] := ⟨_, rfl⟩
              rw [← hS] at HF
              obtain ⟨h1, hh1⟩ : ∃ h1, h1 = hexd ((c.toNat + 256) / 16 % 16) := ⟨_, rfl⟩
              obtain ⟨h2, hh2⟩ : ∃ h2, h2 = hexd ((c.toNat + 256) % 16) := ⟨_, rfl⟩
              rw [← hh1, ← hh2] at ht hS
              obtain ⟨S2, hS2⟩ : ∃ S2, S2 = strOfNums [h1, h2] := ⟨_, rfl⟩
              have hz2 : S2.size = 2 := by rw [hS2]; rfl
              have hsl : ∀ W : World, (Instr.slice 9 (.string S) (some (.int .i64 1)) none none).run Tryz.prog W = .ok (.string S2) W := fun W => by rw [hS2, hS]; exact slice1 W h1 h2
              have hsum : (⟨#[92, 120]⟩ : ByteArray).size + S2.size ≤ 9223372036854775807 := by rw [hz2]; decide
              have hsum2 := size_norm hsum
              obtain ⟨S3, hS3⟩ : ∃ S3, S3 = (⟨#[92, 120]⟩ : ByteArray) ++ S2 := ⟨_, rfl⟩
              have HZ3 := Aside0.mk (show Lib.strCells S3 = Lib.byteCells (tell c) from by rw [hS3, hS2]; exact hex_cells c h1 h2 ht)
              have HS3 := Aside0.mk hS3
              have HZ4 := Aside0.mk (show S3.size ≤ 4 from by rw [← Lib.strCells_length, HZ3.out, Lib.byteCells_length]; exact tell_short c)
              have HBND := Aside0.mk (show (Lib.byteCells (acc bs k)).length + S3.size ≤ 140737488355328 by rw [Lib.byteCells_length]; have := HLA.out; have := HL.out; have := HZ4.out; omega)
              have HTL := Aside0.mk (rfl : tell c = tell c)
              have hq : x < 32 ∨ 126 < x := by omega
              clear ht hx h34 h10 h13 hu hp hS hh1 hh2 hS2 hz2 hS3
              rcases hq with hq | hq
              all_goals
                go_wp2_with (first | (go_at_call 40; (with_reducible refine HF.out.mono ?_); rintro e w2 ⟨rfl, hb2⟩; have HBT2 := Aside0.mk (show BT g (acc bs k) w2 from bt_keep HBT.out hb2); have HW2 := Aside0.mk (show Below g wr w2 from hb2.mono HS.out); clear hb2; have HS2 := Aside0.mk (show g ≤ w2.heap.size from Nat.le_trans HS.out HW2.out.size)) | (go_at_call 20; (with_reducible refine (Tryz.Builder_WriteString g g _ _ _ HBT2.out (by rw [← HS3.out]; exact HBND.out) HS2.out).mono ?_); rintro e w3 ⟨rfl, hB3, hb3⟩; have HB3 := Aside0.mk hB3; have HW3 := Aside0.mk hb3; clear hB3 hb3))
                go_roundg (gk - 1)
                case measure => have := HI.out; have := HK.out; omega
                case rel => exact ⟨k + 1, by first | rfl | (rw [HW.out]; done) | (congr 1; done), ⟨by have := HI.out; have := HK.out; omega⟩, ⟨by rw [HSUC.out]; exact bt_of HB3.out (by rw [← HS3.out, HZ3.out, Lib.byteCells_append])⟩, ⟨HB.out.trans (HW2.out.trans HW3.out)⟩, ⟨Nat.le_trans HS.out (HW2.out.trans HW3.out).size⟩⟩
    · have hkk : k = bs.length := by have := HI.out; omega
      subst hkk
      have hc0 : ((bs.length : Int) < (bs.length : Int)) = False := eq_false (Int.lt_irrefl _)
      have HBND := Aside0.mk (show (Lib.byteCells (acc bs bs.length)).length + 1 ≤ 140737488355328 by rw [Lib.byteCells_length]; have := HLA.out; have := HL.out; omega)
      go_wp2_with (first | (go_at_call 57; (with_reducible refine (Tryz.Builder_WriteByte g g _ 34 _ HBT.out HBND.out HS.out).mono ?_); rintro e w2 ⟨rfl, hB2, hb2⟩; have HB2 := Aside0.mk hB2; have HW2 := Aside0.mk hb2; clear hB2 hb2; have HBT2 := Aside0.mk (show BT g (quote bs) w2 from by rw [← acc_end]; exact bt_of HB2.out (by rw [Lib.byteCells_append]; rfl)); have HS2 := Aside0.mk (show g ≤ w2.heap.size from Nat.le_trans HS.out HW2.out.size)) | (go_at_call 22; (with_reducible refine (Tryz.Builder_String_any g g (quote bs) _ HBT2.out HS2.out).mono ?_); rintro e w3 ⟨rfl, hb3⟩; have HW3 := Aside0.mk hb3; clear hb3))
      go_ret
      exact ⟨rfl, HG.out ▸ (HB.out.trans (HW2.out.trans HW3.out))⟩
set_option maxHeartbeats 4000000 in
set_option maxRecDepth 100000 in
theorem quote_nil (A : Option Addr) (cp : Nat) (w : World) :
    Calls Tryz.prog 42 #[.slice A 0 cp] w fun e w' => e = .returned (.string ⟨(quote []).toArray⟩) ∧ Below w.heap.size w w' := by
  go_enter Tryz.func42, Tryz.ntmps42
  have tok1 : True := trivial
  go_wp2_with (first | (go_at_call 57; have _t := tok1; (with_reducible refine (Tryz.Builder_WriteByte w.heap.size w.heap.size [] 34 _ (Lib.fresh_isBuilder 54 5 w) (by simp) (by simp)).mono ?_); rintro e w1 ⟨rfl, hB1, hb1⟩; have HB1 := Aside0.mk hB1; have HW1 := Aside0.mk hb1; clear hB1 hb1; clear tok1))
  have HB := Aside0.mk (show Below w.heap.size w w1 from (below_alloc (Below.refl _ _) _).trans HW1.out)
  have HBT := Aside0.mk (show BT w.heap.size [34] w1 from .inr HB1.out)
  have HS := Aside0.mk (show w.heap.size ≤ w1.heap.size from HB.out.size)
  clear HB1 HW1
  refine wp_loop_rounds 1 ?_
  rw [rounds_succ]
  go_wp2_with (first | (go_at_call 57; (with_reducible refine (Tryz.Builder_WriteByte w.heap.size w.heap.size _ 34 _ HBT.out (by decide) HS.out).mono ?_); rintro e w2 ⟨rfl, hB2, hb2⟩; have HB2 := Aside0.mk hB2; have HW2 := Aside0.mk hb2; clear hB2 hb2; have HBT2 := Aside0.mk (show BT w.heap.size (quote []) w2 from bt_of (l := [34]) (m := [34]) HB2.out rfl); have HS2 := Aside0.mk (show w.heap.size ≤ w2.heap.size from Nat.le_trans HS.out HW2.out.size)) | (go_at_call 22; (with_reducible refine (Tryz.Builder_String_any w.heap.size w.heap.size (quote []) _ HBT2.out HS2.out).mono ?_); rintro e w3 ⟨rfl, hb3⟩; have HW3 := Aside0.mk hb3; clear hb3))
  go_ret
  exact ⟨rfl, HB.out.trans (HW2.out.trans HW3.out)⟩
/-- script.Quote, of any row of bytes that may be read. -/
theorem quote_calls (A : Option Addr) (cp : Nat) (bs : List UInt8) (w : World) (hr : ReadsInt w .u8 A bs.length (nb bs)) (hc : bs.length ≤ cp) (hl : bs.length ≤ 1000000000) (hT : w.cell? ⟨8, 15, none⟩ = some (.int .u8 4)) :
    Calls Tryz.prog 42 #[.slice A bs.length cp] w fun e w' => e = .returned (.string ⟨(quote bs).toArray⟩) ∧ Below w.heap.size w w' := by
  rcases Nat.eq_zero_or_pos bs.length with h0 | h0
  · obtain rfl := List.length_eq_zero_iff.1 h0
    exact quote_nil A cp w
  · obtain ⟨ad, rfl, hcell⟩ := hr.2.2 h0
    obtain ⟨b, o, s⟩ := ad
    cases s with
    | some x => exact absurd (hcell 0 h0) (by simp [World.cell?, Addr.add]; split <;> simp)
    | none => exact quote_some b o cp bs w (fun j hj => by have := hcell j hj; rwa [Go.WideShapes.add_plain] at this) hc hl hT
end Go.Proofs.YtjapnbghnnbamaaGreatDoor.Q
