/- The library's functions that this seat's laws come to, as plain Lean functions with their contracts in the form of the printed walks: off the shelf's contracts. -/
import Derived.Test.YtfpcoanlkfgagaaGreatDoorExtConv
import Derived.Test.YtfpcoanlkfgagaaGreatDoorShelf
import Derived.WalkKit
import Derived.Deep.LoopGhost
namespace Go.Proofs.YtfpcoanlkfgagaaGreatDoor.Ext
open Go.RowKit Go.Proofs.YtfpcoanlkfgagaaGreatDoorW.PrintWords

theorem isEmpty_bne {α : Type} [BEq α] (l : List α) : l.isEmpty = !(l != []) := by cases l <;> rfl
/-- What package variables hold that the library reads: internal/bytealg.MaxLen holds some whole number. -/
def Glob (w : World) : Prop := ∃ m, w.cell? ⟨0, 0, none⟩ = some (.int .i64 m)
theorem Glob.below {w W : World} (h : Glob w) (hb : Below w.heap.size w W) : Glob W := by
  obtain ⟨m, hm⟩ := h
  exact ⟨m, pw_cell_below hb hm⟩
theorem Glob.drewN {w : World} (h : Glob w) (n : Nat) : Glob (w.drewN n) := h.below (pw_below_drewN (Below.refl _ _) n)
theorem Glob.drew {w : World} (h : Glob w) : Glob w.drew := h.below (below_drew (Below.refl _ _))
theorem Glob.alloc {w : World} (h : Glob w) (o : Obj) : Glob (w.alloc o) := h.below (below_alloc (Below.refl _ _) o)

theorem glob_of {w : World} (h : w.ShapedOpen Tryz.prog) : Glob w := Tryz.laysM146.s1_3 w h

theorem plain_addr {w : World} {ad : Addr} {v : Value} (h : w.cell? ad = some v) : ad = ⟨ad.block, ad.off, none⟩ := by
  unfold World.cell? at h
  split at h
  · split at h
    · cases h
    · rename_i hs
      cases ad with
      | mk b o s =>
        cases s with
        | none => rfl
        | some x => simp at hs
  · cases h
theorem add_plain2 (g o j : Nat) : (⟨g, o, none⟩ : Addr).add j = ⟨g, o + j, none⟩ := by unfold Addr.add; split <;> simp_all

/-! ### strings.IndexByte -/
def strings_IndexByte.f (a0 : ByteArray) (a1 : Int) : Option (Int) := some (Lib.indexByte a0.data.toList a1.toNat.toUInt8)
theorem strings_IndexByte.calls (a0 : ByteArray) (a1 : Int) (r : Int) (w : World) (h : strings_IndexByte.f a0 a1 = some r) :
    Calls Tryz.prog 92 #[.string a0, .int .u8 a1] w fun e w' => e = .returned (.int .i64 r) ∧ Drawn0 w w' := by
  obtain rfl := Option.some.inj h
  refine (Tryz.strings_IndexByte a0 a1 w).mono ?_
  rintro e w' ⟨rfl, rfl⟩
  exact ⟨rfl, Drawn0.refl _⟩

/-! ### strings.Split, of a separator of one byte or more -/
def strings_Split.f (a0 : ByteArray) (a1 : ByteArray) : Option (List ByteArray) :=
  if a0.size < 4294967281 ∧ 1 ≤ a1.size ∧ Lib.countB a0 a1 + 1 ≤ 4294967281 ∧ (Lib.splitB a1 0 (Lib.countB a0 a1) a0).length = Lib.countB a0 a1 + 1 then some (Lib.splitB a1 0 (Lib.countB a0 a1) a0) else none
theorem strings_Split.calls (a0 : ByteArray) (a1 : ByteArray) (r : List ByteArray) (w : World) (hG : Glob w) (h : strings_Split.f a0 a1 = some r) :
    Calls Tryz.prog 44 #[.string a0, .string a1] w fun e w' => ∃ v0_ : Value, e = .returned (v0_) ∧ Kd.R Kd.string 9 w' w.heap.size (fun _ => True) v0_ r ∧ Below w.heap.size w w' := by
  unfold strings_Split.f at h
  split at h
  · rename_i hh
    obtain rfl := Option.some.inj h
    obtain ⟨m, hm⟩ := hG
    refine (Tryz.strings_Split a0 a1 m w hh.1 hm hh.2.1).mono ?_
    rintro e w' ⟨rfl, rfl⟩
    refine ⟨_, rfl, ?_, below_alloc (Below.refl _ _) _⟩
    refine Kd.R_of_own ⟨?_, .inr ⟨w.heap.size, Lib.countB a0 a1 + 1, _, ?_, Nat.le_refl _, heap_alloc_new _ _, ?_, ?_, ?_, ?_⟩⟩ (fun _ _ => trivial)
    · simp [encs]
    · rw [hh.2.2.2]
    · omega
    · simp only [maxLen]; omega
    · simp [hh.2.2.2]
    · simp only [Nat.mul_one, encs]
      exact List.take_of_length_le (by simp)
  · cases h

/-! ### bytes.Index, of a separator of two bytes or more -/
def bytes_Index.f (l0 : List Int) (l1 : List Int) : Option (Int) :=
  if l0.length < 4294967281 ∧ 2 ≤ l1.length ∧ l1.length ≤ 9223372036854775807 ∧ (∀ x ∈ l0, 0 ≤ x ∧ x < 256) ∧ (∀ x ∈ l1, 0 ≤ x ∧ x < 256) then some (Lib.index (Lib.bytesOf l0) (Lib.bytesOf l1)) else none
theorem bytes_Index.calls (A0 : Option Addr) (c0 : Nat) (l0 : List Int) (A1 : Option Addr) (c1 : Nat) (l1 : List Int) (r : Int) (w : World) (hr0 : Kd.C (Kd.int .u8) w A0 l0.length l0) (hc0 : l0.length ≤ c0) (hr1 : Kd.C (Kd.int .u8) w A1 l1.length l1) (_hc1 : l1.length ≤ c1) (hG : Glob w) (h : bytes_Index.f l0 l1 = some r) :
    Calls Tryz.prog 39 #[.slice A0 l0.length c0, .slice A1 l1.length c1] w fun e w' => e = .returned (.int .i64 r) ∧ Drawn0 w w' := by
  unfold bytes_Index.f at h
  split at h
  · rename_i hh
    obtain rfl := Option.some.inj h
    obtain ⟨m, hm⟩ := hG
    obtain ⟨_, _, hs1⟩ := Kd.reads_of_C (d := (0 : Int)) hr1
    obtain ⟨a2, rfl, hc2⟩ := hs1 (by omega)
    rcases Nat.eq_zero_or_pos l0.length with h0 | h0
    · obtain rfl := List.length_eq_zero_iff.1 h0
      refine (Tryz.bytes_Index_longer A0 (some a2) 0 c0 l1.length c1 w (by omega) (by omega) (by omega)).mono ?_
      rintro e w' ⟨rfl, rfl⟩
      refine ⟨?_, Drawn0.refl _⟩
      rw [Lib.index_long (by simp [Lib.bytesOf]) (fun he => by have := congrArg List.length he; simp [Lib.bytesOf] at this; simp [this] at hh)]
    · obtain ⟨_, _, hs0⟩ := Kd.reads_of_C (d := (0 : Int)) hr0
      obtain ⟨a1, rfl, hc1'⟩ := hs0 h0
      refine (Tryz.bytes_Index_at a1 a2 l0.length c0 l1.length c1 l0 l1 m w rfl rfl hh.2.2.2.1 hh.2.2.2.2 hc1' hc2 hc0 hh.1 hh.2.2.1 hm).mono ?_
      rintro e w' ⟨rfl, q, rfl⟩
      exact ⟨rfl, ⟨⟨q, rfl⟩⟩⟩
  · cases h

/-! ### strings.Trim, at a cutset of ASCII bytes -/
def strings_Trim.f (a0 : ByteArray) (a1 : ByteArray) : Option (ByteArray) :=
  if a0.size ≤ 9223372036854775807 ∧ a1.size < 4294967281 ∧ a1.data.toList.all (fun b => decide (b.toNat < 128)) = true then some ⟨(Lib.trimS a0.data.toList a1.data.toList).toArray⟩ else none
theorem strings_Trim.calls (a0 : ByteArray) (a1 : ByteArray) (r : ByteArray) (w : World) (h : strings_Trim.f a0 a1 = some r) :
    Calls Tryz.prog 42 #[.string a0, .string a1] w fun e w' => e = .returned (.string r) ∧ Below w.heap.size w w' := by
  unfold strings_Trim.f at h
  split at h
  · rename_i hh
    obtain rfl := Option.some.inj h
    refine (Tryz.strings_Trim a0 a1 w hh.1 hh.2.1 (fun _ b hb => of_decide_eq_true (List.all_eq_true.1 hh.2.2 b (List.mem_of_getElem? hb)))).mono ?_
    rintro e w' ⟨rfl, hb⟩
    exact ⟨rfl, hb⟩
  · cases h

/-! ### strings.Cut -/
def strings_Cut.f (a0 : ByteArray) (a1 : ByteArray) : Option (ByteArray × ByteArray × Bool) :=
  if a0.size < 4294967281 then some (⟨(Lib.cut a0.data.toList a1.data.toList).1.toArray⟩, ⟨(Lib.cut a0.data.toList a1.data.toList).2.1.toArray⟩, (Lib.cut a0.data.toList a1.data.toList).2.2) else none
theorem strings_Cut.calls (a0 : ByteArray) (a1 : ByteArray) (r1 : ByteArray) (r2 : ByteArray) (r3 : Bool) (w : World) (hG : Glob w) (h : strings_Cut.f a0 a1 = some (r1, r2, r3)) :
    Calls Tryz.prog 57 #[.string a0, .string a1] w fun e w' => e = .returned (.tuple #[.string r1, .string r2, .bool r3]) ∧ Drawn0 w w' := by
  unfold strings_Cut.f at h
  split at h
  · rename_i hh
    obtain ⟨m, hm⟩ := hG
    simp only [Option.some.injEq, Prod.mk.injEq] at h
    obtain ⟨rfl, rfl, rfl⟩ := h
    refine (Tryz.strings_Cut a0 a1 m w hh hm).mono ?_
    rintro e w' ⟨rfl, q, rfl⟩
    exact ⟨rfl, ⟨⟨q, rfl⟩⟩⟩
  · cases h

/-! ### strconv.ParseInt, of a decimal number that an int64 holds -/
def errE : Option Int → Value
  | none => .nilIface
  | some c => .iface 0 (.int .i64 c)
def strconv_ParseInt.f (a0 : ByteArray) (a1 : Int) (a2 : Int) : Option (Int × Option Int) :=
  if a0.size ≤ 9223372036854775806 ∧ a1 = 10 ∧ a2 = 64 then (match Lib.parseIntB 64 a0.data.toList with | .ok v => some (v, none) | _ => none) else none
theorem strconv_ParseInt.calls (a0 : ByteArray) (a1 : Int) (a2 : Int) (r1 : Int) (r2 : Option Int) (w : World) (h : strconv_ParseInt.f a0 a1 a2 = some (r1, r2)) :
    Calls Tryz.prog 43 #[.string a0, .int .i64 a1, .int .i64 a2] w fun e w' => e = .returned (.tuple #[.int .i64 r1, errE r2]) ∧ Below w.heap.size w w' := by
  unfold strconv_ParseInt.f at h
  split at h
  · rename_i hh
    obtain ⟨hs, rfl, rfl⟩ := hh
    split at h
    · rename_i v hv
      simp only [Option.some.injEq, Prod.mk.injEq] at h
      obtain ⟨rfl, rfl⟩ := h
      refine (Tryz.strconv_ParseInt_10_at64_ok a0 hs v hv w).mono ?_
      rintro e w' ⟨rfl, hw⟩
      refine ⟨rfl, ?_⟩
      rcases hw with rfl | ⟨t, rfl⟩
      · exact Below.refl _ _
      · exact bytesConv_below _ _ _
    · cases h
  · cases h

/-! ### 'small' of the program, 'Small' of the reference -/
/-- A row of bytes that []byte(s) has made: the whole block, and what stands in it. -/
def SRow (W : World) (g : Nat) (xs : List Int) : Prop :=
  ∃ cs : Array Value, W.heap[g]? = some (.cells cs 5 (cs.size, cs.size + 1)) ∧ xs.length ≤ cs.size ∧ ∀ j, j < xs.length → cs[j]? = some (.int .u8 (xs.getD j 0))
theorem SRow.cell {W : World} {g : Nat} {xs : List Int} (h : SRow W g xs) (j : Nat) (hj : j < xs.length) : W.cell? ⟨g, j, none⟩ = some (.int .u8 (xs.getD j 0)) := by
  obtain ⟨cs, hb, hl, hc⟩ := h
  simp only [World.cell?, hb]
  exact hc j hj
theorem SRow.frozen {W : World} {g : Nat} {xs : List Int} (h : SRow W g xs) (j : Nat) (hj : j < xs.length) : W.frozen? ⟨g, j, none⟩ = false := by
  obtain ⟨cs, hb, hl, hc⟩ := h
  simp [World.frozen?, hb]
  omega
theorem SRow.C {W : World} {g : Nat} {xs : List Int} (h : SRow W g xs) (hm : xs.length ≤ 9223372036854775807) : Kd.C (Kd.int .u8) W (some ⟨g, 0, none⟩) xs.length xs := by
  refine Kd.C_of_reads (d := (0 : Int)) (h1 := fun _ => rfl) ⟨rfl, hm, fun _ => ⟨_, rfl, fun j hj => ?_⟩⟩
  rw [add_plain]
  exact h.cell j hj
theorem SRow.set {W : World} {g : Nat} {xs : List Int} (h : SRow W g xs) (j : Nat) (hj : j < xs.length) (x : Int) : SRow (W.setCell ⟨g, j, none⟩ (.int .u8 x)) g (xs.set j x) := by
  obtain ⟨cs, hb, hl, hc⟩ := h
  have hj' : j < cs.size := by omega
  refine ⟨cs.set j (.int .u8 x) hj', ?_, by simpa using hl, ?_⟩
  · simp [World.setCell, Array.getElem?_modify, hb, Array.setIfInBounds, hj']
  · intro i hi
    rw [Array.getElem?_set]
    by_cases e : j = i
    · subst e
      simp [List.getD_eq_getElem?_getD, hj]
    · rw [if_neg e, hc i (by simpa using hi)]
      simp [List.getD_eq_getElem?_getD, e]
theorem srow_conv (W : World) (s : ByteArray) : SRow (Lib.bytesWorld W 5 s) W.heap.size (bytesOf s) := by
  refine ⟨_, Lib.bytesWorld_at_new W 5 s, ?_, ?_⟩
  · rw [bytesOf_length]
    simp [Lib.bytesCells]
  · intro j hj
    rw [bytesOf_length] at hj
    have h := Lib.bytesWorld_cell W 5 s j hj
    simp only [World.cell?, Lib.bytesWorld_at_new] at h
    rw [if_neg (by simp)] at h
    rw [h]
    have h' : j < s.data.toList.length := by rw [data_length]; exact hj
    simp [bytesOf, List.getD_eq_getElem?_getD, List.getElem?_eq_getElem h']

theorem conv_raw {P : Program} {o : Oper} {a : Act} {K : Act → World → Prop} {Q : Exit → Act → World → Prop} {W : World} {src dst : TypeId} {u : TypeDesc}
    (hs : P.underlying src = some u) (hd : P.underlying dst = some (.slice 5)) (he : P.underlying 5 = some (.int .u8)) (s : ByteArray)
    (h : ∀ c W1, SRow W1 W.heap.size (bytesOf s) → s.size ≤ c → Below W.heap.size W W1 → Oper.upon P o a K Q (.ok (Next.value (.slice (some ⟨W.heap.size, 0, none⟩) s.size c)) W1)) :
    Oper.upon P o a K Q ((Sem.run P (convert src dst (.string s)) W).andThen fun a w' => Result.ok (Next.value a) w') := by
  rw [show Sem.run P (convert src dst (.string s)) W = _ from print_bytes src dst 5 hs hd he s W]
  exact h _ _ (srow_conv W s) (grownCap_ge W s.size 0 5) (bytesConv_below W 5 s)

theorem getD_mid (s : ByteArray) (f : Int → Int) (i : Nat) (hi : i < s.size) : (((bytesOf s).take i).map f ++ (bytesOf s).drop i).getD i 0 = (bytesOf s).getD i 0 := by
  have h := bytesOf_length s
  simp [List.getD_eq_getElem?_getD, List.getElem?_append, h, Nat.min_eq_left (Nat.le_of_lt hi)]
theorem bytesOf_range (s : ByteArray) (i : Nat) (hi : i < s.size) : 0 ≤ (bytesOf s).getD i 0 ∧ (bytesOf s).getD i 0 < 256 := by
  have h' : i < s.data.toList.length := by rw [data_length]; exact hi
  have hlt := (s.data[i]).toNat_lt
  simp [bytesOf, List.getD_eq_getElem?_getD, List.getElem?_eq_getElem h']
  omega
theorem wrap_u8 (n : Int) (h0 : 0 ≤ n) (h1 : n < 256) : IntKind.u8.wrap n = n := by
  simp only [IntKind.wrap, IntKind.bits, IntKind.signed, Bool.false_and, Bool.false_eq_true, if_false]
  omega
theorem wrap64_next (i : Nat) (h : i < 9223372036854775807) : wrap64 ((i : Int) + 1) = ((i + 1 : Nat) : Int) := by unfold wrap64; omega
def smallB (x : Int) : Int := if 65 ≤ x ∧ x ≤ 90 then x + 32 else x
theorem small_val (x : Int) (h0 : 65 ≤ x) (h1 : x ≤ 90) : smallB x = (x - 65 + 97) % 256 := by
  unfold smallB
  rw [if_pos ⟨h0, h1⟩]
  omega
theorem small_val2 (x : Int) (h0 : 65 ≤ x) (h1 : x ≤ 90) : smallB x = (x + 97 - 65) % 256 := by
  unfold smallB
  rw [if_pos ⟨h0, h1⟩]
  omega
theorem small_step (s : ByteArray) (i : Nat) (x : Int) (hi : i < s.size) (hx : x = (bytesOf s).getD i 0) :
    ((bytesOf s).take (i + 1)).map smallB ++ (bytesOf s).drop (i + 1) = (((bytesOf s).take i).map smallB ++ (bytesOf s).drop i).set i (smallB x) := by
  have hl := bytesOf_length s
  have hi' : i < (bytesOf s).length := by omega
  subst hx
  have h0 : (((bytesOf s).take i).map smallB).length = i := by simp; omega
  have he : (bytesOf s).getD i 0 = (bytesOf s)[i] := by simp [List.getD_eq_getElem?_getD, List.getElem?_eq_getElem hi']
  rw [List.set_append_right _ _ (by omega), h0, Nat.sub_self, List.drop_eq_getElem_cons hi', List.take_succ_eq_append_getElem hi', List.map_append, List.append_assoc, he]
  rfl
theorem small_same (s : ByteArray) (i : Nat) (x : Int) (hi : i < s.size) (hx : x = (bytesOf s).getD i 0) (hs : smallB x = x) :
    ((bytesOf s).take (i + 1)).map smallB ++ (bytesOf s).drop (i + 1) = ((bytesOf s).take i).map smallB ++ (bytesOf s).drop i := by
  have hl := bytesOf_length s
  have hi' : i < (bytesOf s).length := by omega
  have he : (bytesOf s).getD i 0 = (bytesOf s)[i] := by simp [List.getD_eq_getElem?_getD, List.getElem?_eq_getElem hi']
  rw [List.drop_eq_getElem_cons hi', List.take_succ_eq_append_getElem hi', List.map_append, List.append_assoc]
  simp only [List.map_cons, List.map_nil, List.cons_append, List.nil_append]
  rw [← he, ← hx, hs]
def head_small.f (a0 : ByteArray) : Option (ByteArray) := if a0.size ≤ 9223372036854775806 then some (strOfNums ((bytesOf a0).map smallB)) else none
set_option maxHeartbeats 8000000 in
set_option maxRecDepth 100000 in
theorem head_small.calls (a0 : ByteArray) (r : ByteArray) (w : World) (h : head_small.f a0 = some r) :
    Calls Tryz.prog 30 #[.string a0] w fun e w' => e = .returned (.string r) ∧ Below w.heap.size w w' := by
  unfold head_small.f at h
  split at h
  · rename_i hsz
    obtain rfl := Option.some.inj h
    clear h
    go_enter Tryz.func30, Tryz.ntmps30
    go_wp2_with (refine conv_raw Tryz.underlying9 Tryz.underlying22 Tryz.underlying5 _ ?_; intro c W1 hS hc hB)
    have HS := Aside0.mk hS
    have HC := Aside0.mk hc
    have HB := Aside0.mk hB
    clear hS hc hB
    go_wp2
    go_loopg [10] a0.size (fun kq v10 w' => ∃ (i : Nat), v10 = .int .i64 (i : Int) ∧ Aside0 (kq + i = a0.size) ∧ Aside0 (SRow w' w.heap.size (((bytesOf a0).take i).map smallB ++ (bytesOf a0).drop i)) ∧ Aside0 (Below w.heap.size w w'))
    case atStart => exact ⟨0, rfl, ⟨rfl⟩, ⟨by simpa using HS.out⟩, HB⟩
    case round =>
      obtain ⟨i, rfl, HK, HS, HB⟩ := hrel
      have hlen : (((bytesOf a0).take i).map smallB ++ (bytesOf a0).drop i).length = a0.size := by
        have := bytesOf_length a0
        simp
        omega
      by_cases hi : i < a0.size
      · have hcell := HS.out.cell i (by omega)
        have hfz := HS.out.frozen i (by omega)
        obtain ⟨x, hx⟩ : ∃ x, x = (bytesOf a0).getD i 0 := ⟨_, rfl⟩
        rw [getD_mid a0 smallB i hi, ← hx] at hcell
        have hc0 : ((i : Int) < (a0.size : Int)) = True := eq_true (Int.ofNat_lt.2 hi)
        have hc1 : decide ((i : Int) < (a0.size : Int)) = true := decide_eq_true (Int.ofNat_lt.2 hi)
        have hc2 : (0 ≤ (i : Int)) = True := eq_true (Int.natCast_nonneg i)
        have HX := Aside0.mk hx
        have HI := Aside0.mk hi
        have HL := Aside0.mk hlen
        have h0x : 0 ≤ x ∧ x < 256 := by rw [hx]; exact bytesOf_range a0 i hi
        have H0 := Aside0.mk h0x
        clear hx hi hlen h0x
        by_cases h65 : 65 ≤ x
        · have d65 : decide (x ≥ 65) = true := decide_eq_true h65
          have H65 := Aside0.mk h65
          clear h65
          by_cases h90 : x ≤ 90
          · have d90 : decide (x ≤ 90) = true := decide_eq_true h90
            have H90 := Aside0.mk h90
            clear h90
            have HW := Aside0.mk (small_val x H65.out H90.out)
            go_wp2
            go_roundg (gk - 1)
            case measure => have := HK.out; have := HI.out; omega
            case rel => exact ⟨i + 1, by rw [wrap64_next i (by have := HI.out; omega)], ⟨by have := HK.out; have := HI.out; omega⟩, ⟨by rw [small_step a0 i x HI.out HX.out, HW.out]; exact HS.out.set i (by rw [HL.out]; exact HI.out) _⟩, ⟨HB.out.setCell (Nat.le_refl _) _⟩⟩
          · have d90 : decide (x ≤ 90) = false := decide_eq_false h90
            have hs : smallB x = x := by unfold smallB; rw [if_neg (fun h => h90 h.2)]
            have H90 := Aside0.mk hs
            clear h90 hs
            go_wp2
            go_roundg (gk - 1)
            case measure => have := HK.out; have := HI.out; omega
            case rel => exact ⟨i + 1, by rw [wrap64_next i (by have := HI.out; omega)], ⟨by have := HK.out; have := HI.out; omega⟩, ⟨by rw [small_same a0 i x HI.out HX.out H90.out]; exact HS.out⟩, HB⟩
        · have d65 : decide (x ≥ 65) = false := decide_eq_false h65
          have hs : smallB x = x := by unfold smallB; rw [if_neg (fun h => h65 h.1)]
          have H90 := Aside0.mk hs
          clear h65 hs
          go_wp2
          go_roundg (gk - 1)
          case measure => have := HK.out; have := HI.out; omega
          case rel => exact ⟨i + 1, by rw [wrap64_next i (by have := HI.out; omega)], ⟨by have := HK.out; have := HI.out; omega⟩, ⟨by rw [small_same a0 i x HI.out HX.out H90.out]; exact HS.out⟩, HB⟩
      · have hc1 : decide ((i : Int) < (a0.size : Int)) = false := decide_eq_false (fun h => hi (Int.ofNat_lt.1 h))
        have hC := HS.out.C (by rw [hlen]; omega)
        rw [hlen] at hC
        have he : ((bytesOf a0).take i).map smallB ++ (bytesOf a0).drop i = (bytesOf a0).map smallB := by
          have := bytesOf_length a0
          rw [List.take_of_length_le (by omega), List.drop_of_length_le (by omega), List.append_nil]
        rw [he] at hC
        have hc0 : (i < a0.size) = False := eq_false hi
        have hc2 : decide (i < a0.size) = false := decide_eq_false hi
        have hcv := C_string0 (P := Tryz.prog) (c := c) Tryz.underlying22 Tryz.underlying5 Tryz.underlying9 hC
        clear hi hC he
        go_wp2
        go_ret
        exact ⟨rfl, HB.out⟩
  · cases h
end Go.Proofs.YtfpcoanlkfgagaaGreatDoor.Ext
