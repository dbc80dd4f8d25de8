/- Plain laws of the head seat: lines, fields, the status line, of the program and of the reference. -/
import Derived.Test.YtfpcoanlkfgagaaDoorRf
import Derived.Test.YtfpcoanlkfgagaaDoorPlainB
namespace Go.Proofs.YtfpcoanlkfgagaaDoor.Plain
open Go.RowKit Go.Proofs.YtfpcoanlkfgagaaDoor.PA Go.Proofs.YtfpcoanlkfgagaaDoor.Ext Go.Proofs.YtfpcoanlkfgagaaDoorW.PrintWords

def numsL (l : List UInt8) : List Int := l.map fun b => (b.toNat : Int)
theorem lib_bytesOf (l : List UInt8) : Lib.bytesOf (numsL l) = l := by
  simp [Lib.bytesOf, numsL, Function.comp_def]
theorem strOf_L (l : List UInt8) : strOfNums (numsL l) = ⟨l.toArray⟩ := by
  simp [strOfNums, numsL, Function.comp_def]
theorem numsL_length (l : List UInt8) : (numsL l).length = l.length := by simp [numsL]
theorem numsL_take (l : List UInt8) (n : Nat) : (numsL l).take n = numsL (l.take n) := by simp [numsL, List.map_take]
theorem numsL_drop (l : List UInt8) (n : Nat) : (numsL l).drop n = numsL (l.drop n) := by simp [numsL, List.map_drop]
theorem numsL_append (a b : List UInt8) : numsL (a ++ b) = numsL a ++ numsL b := by simp [numsL]
theorem numsL_range (l : List UInt8) : ∀ x ∈ numsL l, 0 ≤ x ∧ x < 256 := by
  intro x hx
  obtain ⟨b, _, rfl⟩ := List.mem_map.1 hx
  have := b.toNat_lt
  omega
theorem rd_numsL (l : List UInt8) (i : Nat) (h : i < l.length) : rd (numsL l) (i : Int) = ((l[i]'h).toNat : Int) := by
  simp [rd, numsL, List.getD_eq_getElem?_getD, List.getElem?_eq_getElem h]
theorem byte_eq (c : UInt8) (n : Nat) (hn : n < 256) : (c.toNat : Int) = (n : Int) ↔ c = UInt8.ofNat n := by
  constructor
  · intro h
    apply UInt8.toNat_inj.1
    rw [UInt8.toNat_ofNat']
    omega
  · rintro rfl
    rw [UInt8.toNat_ofNat']
    omega

theorem index_prog (b : List UInt8) (hn : b.length ≤ 100000000) : bytes_Index.f (numsL b) [13, 10] = some (Lib.index b crlf) := by
  unfold bytes_Index.f
  rw [if_pos ⟨by rw [numsL_length]; omega, by decide, by decide, numsL_range b, by decide⟩, lib_bytesOf]
  rfl

/-- The field of a line, if it is one. -/
def fieldOf (s : ByteArray) : Option S75 :=
  if Lib.index (L s) [58] = -1 then none else if mayName ((L s).take (Lib.index (L s) [58]).toNat) && mayText ((L s).drop ((Lib.index (L s) [58]).toNat + 1)) then
    some ⟨smallS (s.extract 0 (Lib.index (L s) [58]).toNat), trimB (s.extract ((Lib.index (L s) [58]).toNat + 1) s.size)⟩ else none
theorem size_extract_le (s : ByteArray) (a b : Nat) : (s.extract a b).size ≤ s.size := by
  rw [← L_length, L_extract, List.length_take, List.length_drop, L_length]
  omega
theorem mk_take (s : ByteArray) (i : Nat) : (⟨((L s).take i).toArray⟩ : ByteArray) = s.extract 0 i := L_inj (by rw [L_mk, L_extract_zero])
theorem mk_drop (s : ByteArray) (i : Nat) : (⟨((L s).drop i).toArray⟩ : ByteArray) = s.extract i s.size := L_inj (by rw [L_mk, L_extract_end])

/-- What the program's field answers. -/
def fieldP (n : Nat) (s : ByteArray) : Int × ByteArray × ByteArray :=
  match fieldOf s with
  | some f => if n < 64 then (0, f.f0, f.f1) else (10, ⟨#[]⟩, ⟨#[]⟩)
  | none => (10, ⟨#[]⟩, ⟨#[]⟩)
theorem field_prog (n : Nat) (s : ByteArray) (hs : s.size ≤ 100000000) : Ev (fun k => head_head_field.f k n s) (fieldP n s) := by
  have hcut : strings_Cut.f s colon = some (⟨(Lib.cut (L s) [58]).1.toArray⟩, ⟨(Lib.cut (L s) [58]).2.1.toArray⟩, (Lib.cut (L s) [58]).2.2) := by
    unfold strings_Cut.f
    rw [if_pos (by omega)]
  have hge := Lib.index_ge (L s) [58]
  by_cases hx : Lib.index (L s) [58] = -1
  · have e : Lib.cut (L s) [58] = (L s, [], false) := by unfold Lib.cut; rw [if_neg (by omega)]
    refine Ev.congr (f := fun _ => some (fieldP n s)) (fun k => ?_) (Ev.now _)
    unfold head_head_field.f
    rw [hcut, e]
    simp only [Option.bind_some]
    unfold fieldP fieldOf
    rw [if_pos hx]
    rfl
  · obtain ⟨i, hi⟩ : ∃ i : Nat, Lib.index (L s) [58] = i := ⟨(Lib.index (L s) [58]).toNat, by omega⟩
    have e : Lib.cut (L s) [58] = ((L s).take i, (L s).drop (i + 1), true) := by unfold Lib.cut; rw [if_pos (by omega), hi]; rfl
    have hsz0 : (s.extract 0 i).size ≤ s.size := size_extract_le _ _ _
    have hsz1 : (s.extract (i + 1) s.size).size ≤ s.size := size_extract_le _ _ _
    have hn0 := name_prog (s.extract 0 i) (by omega)
    have ht0 := text_prog (s.extract (i + 1) s.size) (by omega)
    rw [L_extract_zero] at hn0
    rw [L_extract_end] at ht0
    have ef : fieldOf s = if mayName ((L s).take i) && mayText ((L s).drop (i + 1)) then some ⟨smallS (s.extract 0 i), trimB (s.extract (i + 1) s.size)⟩ else none := by
      unfold fieldOf
      rw [if_neg hx, hi, Int.toNat_natCast]
    refine Ev.congr (f := fun k => (head_MayName.f k (s.extract 0 i)).bind fun m => (if m = true then (head_MayText.f k (s.extract (i + 1) s.size)).bind fun m2 => (if m2 = true then (if n < 64 then some (0, smallS (s.extract 0 i), trimB (s.extract (i + 1) s.size)) else some (10, ⟨#[]⟩, ⟨#[]⟩)) else some (10, ⟨#[]⟩, ⟨#[]⟩)) else some (10, ⟨#[]⟩, ⟨#[]⟩))) (fun k => ?_) ?_
    · unfold head_head_field.f
      rw [hcut, e]
      simp only [Option.bind_some, if_true, mk_take, mk_drop]
      rw [small_prog _ (by omega), trim_prog _ (by omega)]
      rfl
    · refine Ev.bind hn0 ?_
      unfold fieldP
      rw [ef]
      cases h1 : mayName ((L s).take i) with
      | false => simp only [Bool.false_and, Bool.false_eq_true, if_false]; exact Ev.now _
      | true =>
        simp only [Bool.true_and, if_true]
        refine Ev.bind ht0 ?_
        cases h2 : mayText ((L s).drop (i + 1)) with
        | false => simp only [Bool.false_eq_true, if_false]; exact Ev.now _
        | true =>
          simp only [if_true]
          by_cases hn : n < 64
          · simp only [if_pos hn]; exact Ev.now _
          · simp only [if_neg hn]; exact Ev.now _
end Go.Proofs.YtfpcoanlkfgagaaDoor.Plain
