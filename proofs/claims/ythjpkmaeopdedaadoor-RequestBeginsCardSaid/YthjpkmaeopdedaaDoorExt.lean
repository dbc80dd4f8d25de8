/- The library's functions that this seat's laws come to, as plain Lean functions with their contracts in the form of the printed walks: off the shelf's contracts. -/
import Derived.Test.YthjpkmaeopdedaaDoorExtConv
import Derived.Test.YthjpkmaeopdedaaDoorShelf
import Derived.WalkKit
namespace Go.Proofs.YthjpkmaeopdedaaDoor.Ext
open Go.RowKit Go.Proofs.YthjpkmaeopdedaaDoorW.PrintWords

/-- What package variables hold that the library reads: internal/bytealg.MaxLen holds some whole number. -/
def Glob (w : World) : Prop := ∃ m, w.cell? ⟨0, 0, none⟩ = some (.int .i64 m)
theorem Glob.below {w W : World} (h : Glob w) (hb : Below w.heap.size w W) : Glob W := by
  obtain ⟨m, hm⟩ := h
  exact ⟨m, pw_cell_below hb hm⟩
theorem Glob.drewN {w : World} (h : Glob w) (n : Nat) : Glob (w.drewN n) := h.below (pw_below_drewN (Below.refl _ _) n)
theorem Glob.drew {w : World} (h : Glob w) : Glob w.drew := h.below (below_drew (Below.refl _ _))
theorem Glob.alloc {w : World} (h : Glob w) (o : Obj) : Glob (w.alloc o) := h.below (below_alloc (Below.refl _ _) o)

theorem glob_of {w : World} (h : w.ShapedOpen Tryd.prog) : Glob w := Tryd.laysM146.s1_3 w h

theorem plain_addr {w : World} {ad : Addr} {v : Value} (h : w.cell? ad = some v) : ad = ⟨ad.block, ad.off, none⟩ := by
  unfold World.cell? at h
  split at h
  · split at h
    · cases h
    · rename_i hs
      cases ad with
      | mk b o s =>
        cases s with
        | none => rfl
        | some x => simp at hs
  · cases h
theorem add_plain2 (g o j : Nat) : (⟨g, o, none⟩ : Addr).add j = ⟨g, o + j, none⟩ := by unfold Addr.add; split <;> simp_all

/-! ### odometerref05.Text: long constants; lengths of at most a million bytes -/
def reqHead : ByteArray := ⟨#[71, 69, 84, 32]⟩
def reqMid : ByteArray := ⟨#[32, 72, 84, 84, 80, 47, 49, 46, 49, 13, 10, 72, 111, 115, 116, 58, 32]⟩
def reqTail : ByteArray := ⟨#[13, 10, 85, 115, 101, 114, 45, 65, 103, 101, 110, 116, 58, 32, 111, 100, 111, 109, 101, 116, 101, 114, 13, 10, 65, 99, 99, 101, 112, 116, 58, 32, 116, 101, 120, 116, 47, 112, 108, 97, 105, 110, 59, 118, 101, 114, 115, 105, 111, 110, 61, 48, 46, 48, 46, 52, 13, 10, 67, 111, 110, 110, 101, 99, 116, 105, 111, 110, 58, 32, 107, 101, 101, 112, 45, 97, 108, 105, 118, 101, 13, 10, 13, 10]⟩
def odometerref05_Text.f (a0 : ByteArray) (a1 : ByteArray) : Option (ByteArray) := if a0.size ≤ 1000000 ∧ a1.size ≤ 1000000 then some (reqHead ++ a1 ++ reqMid ++ a0 ++ reqTail) else none
theorem odometerref05_Text.calls (a0 : ByteArray) (a1 : ByteArray) (r : ByteArray) (w : World) (h : odometerref05_Text.f a0 a1 = some r) :
    Calls Tryd.prog 13 #[.string a0, .string a1] w fun e w' => e = .returned (.string r) ∧ Drawn0 w w' := by
  unfold odometerref05_Text.f at h
  split at h
  · rename_i hh
    obtain ⟨h0, h1⟩ := hh
    obtain rfl := Option.some.inj h
    clear h
    go_enter Tryd.func13, Tryd.ntmps13
    go_wp2
    go_ret
    exact ⟨rfl, Drawn0.refl _⟩
  · cases h

/-! ### strings.IndexByte -/
def strings_IndexByte.f (a0 : ByteArray) (a1 : Int) : Option (Int) := some (Lib.indexByte a0.data.toList a1.toNat.toUInt8)
theorem strings_IndexByte.calls (a0 : ByteArray) (a1 : Int) (r : Int) (w : World) (h : strings_IndexByte.f a0 a1 = some r) :
    Calls Tryd.prog 21 #[.string a0, .int .u8 a1] w fun e w' => e = .returned (.int .i64 r) ∧ Drawn0 w w' := by
  obtain rfl := Option.some.inj h
  refine (Tryd.strings_IndexByte a0 a1 w).mono ?_
  rintro e w' ⟨rfl, rfl⟩
  exact ⟨rfl, Drawn0.refl _⟩

/-! ### strings.Join -/
def strings_Join.f (l0 : List ByteArray) (a1 : ByteArray) : Option (ByteArray) :=
  if l0.length ≤ 140737488355328 ∧ (Lib.join (l0.map (·.data.toList)) a1.data.toList).length ≤ 140737488355328 then some ⟨(Lib.join (l0.map (·.data.toList)) a1.data.toList).toArray⟩ else none
theorem strings_Join.calls (A0 : Option Addr) (c0 : Nat) (l0 : List ByteArray) (a1 : ByteArray) (r : ByteArray) (w : World) (hr0 : Kd.C Kd.string w A0 l0.length l0) (hc0 : l0.length ≤ c0) (h : strings_Join.f l0 a1 = some r) :
    Calls Tryd.prog 20 #[.slice A0 l0.length c0, .string a1] w fun e w' => e = .returned (.string r) ∧ Below w.heap.size w w' := by
  unfold strings_Join.f at h
  split at h
  · rename_i hh
    obtain rfl := Option.some.inj h
    rcases Nat.eq_zero_or_pos l0.length with h0 | h0
    · obtain rfl := List.length_eq_zero_iff.1 h0
      refine (Tryd.strings_Join_none A0 c0 a1 w).mono ?_
      rintro e w' ⟨rfl, rfl⟩
      exact ⟨rfl, Below.refl _ _⟩
    · obtain ⟨_, _, hr⟩ := Kd.reads_of_C (d := ByteArray.empty) hr0
      obtain ⟨ad, rfl, hc⟩ := hr h0
      have h1 := hc 0 h0
      rw [show ad.add 0 = ad from rfl] at h1
      have hp := plain_addr h1
      have hb := World.block_lt_of_cell? w ad h1
      rw [hp] at hc ⊢
      refine (Tryd.strings_Join ad.block ad.off c0 l0 a1 w ?_ hb hh.1 hc0 hh.2).mono ?_
      · intro j x hj
        have hlt : j < l0.length := by
          rcases Nat.lt_or_ge j l0.length with h | h
          · exact h
          · rw [List.getElem?_eq_none h] at hj; cases hj
        have := hc j hlt
        rw [add_plain2] at this
        rw [this, List.getD_eq_getElem?_getD, hj]
        rfl
      · rintro e w' ⟨rfl, hb⟩
        exact ⟨rfl, hb⟩
  · cases h

/-! ### strings.Split, of a separator of one byte or more -/
def strings_Split.f (a0 : ByteArray) (a1 : ByteArray) : Option (List ByteArray) :=
  if a0.size < 4294967281 ∧ 1 ≤ a1.size ∧ Lib.countB a0 a1 + 1 ≤ 4294967281 ∧ (Lib.splitB a1 0 (Lib.countB a0 a1) a0).length = Lib.countB a0 a1 + 1 then some (Lib.splitB a1 0 (Lib.countB a0 a1) a0) else none
theorem strings_Split.calls (a0 : ByteArray) (a1 : ByteArray) (r : List ByteArray) (w : World) (hG : Glob w) (h : strings_Split.f a0 a1 = some r) :
    Calls Tryd.prog 24 #[.string a0, .string a1] w fun e w' => ∃ v0_ : Value, e = .returned (v0_) ∧ Kd.R Kd.string 9 w' w.heap.size (fun _ => True) v0_ r ∧ Below w.heap.size w w' := by
  unfold strings_Split.f at h
  split at h
  · rename_i hh
    obtain rfl := Option.some.inj h
    obtain ⟨m, hm⟩ := hG
    refine (Tryd.strings_Split a0 a1 m w hh.1 hm hh.2.1).mono ?_
    rintro e w' ⟨rfl, rfl⟩
    refine ⟨_, rfl, ?_, below_alloc (Below.refl _ _) _⟩
    refine Kd.R_of_own ⟨?_, .inr ⟨w.heap.size, Lib.countB a0 a1 + 1, _, ?_, Nat.le_refl _, heap_alloc_new _ _, ?_, ?_, ?_, ?_⟩⟩ (fun _ _ => trivial)
    · simp [encs]
    · rw [hh.2.2.2]
    · omega
    · simp only [maxLen]; omega
    · simp [hh.2.2.2]
    · simp only [Nat.mul_one, encs]
      exact List.take_of_length_le (by simp)
  · cases h

/-! ### bytes.Index, of a separator of two bytes or more -/
def bytes_Index.f (l0 : List Int) (l1 : List Int) : Option (Int) :=
  if l0.length < 4294967281 ∧ 2 ≤ l1.length ∧ l1.length ≤ 9223372036854775807 ∧ (∀ x ∈ l0, 0 ≤ x ∧ x < 256) ∧ (∀ x ∈ l1, 0 ≤ x ∧ x < 256) then some (Lib.index (Lib.bytesOf l0) (Lib.bytesOf l1)) else none
theorem bytes_Index.calls (A0 : Option Addr) (c0 : Nat) (l0 : List Int) (A1 : Option Addr) (c1 : Nat) (l1 : List Int) (r : Int) (w : World) (hr0 : Kd.C (Kd.int .u8) w A0 l0.length l0) (hc0 : l0.length ≤ c0) (hr1 : Kd.C (Kd.int .u8) w A1 l1.length l1) (hc1 : l1.length ≤ c1) (hG : Glob w) (h : bytes_Index.f l0 l1 = some r) :
    Calls Tryd.prog 23 #[.slice A0 l0.length c0, .slice A1 l1.length c1] w fun e w' => e = .returned (.int .i64 r) ∧ Drawn0 w w' := by
  unfold bytes_Index.f at h
  split at h
  · rename_i hh
    obtain rfl := Option.some.inj h
    obtain ⟨m, hm⟩ := hG
    obtain ⟨_, _, hs1⟩ := Kd.reads_of_C (d := (0 : Int)) hr1
    obtain ⟨a2, rfl, hc2⟩ := hs1 (by omega)
    rcases Nat.eq_zero_or_pos l0.length with h0 | h0
    · obtain rfl := List.length_eq_zero_iff.1 h0
      refine (Tryd.bytes_Index_longer A0 (some a2) 0 c0 l1.length c1 w (by omega) (by omega) (by omega)).mono ?_
      rintro e w' ⟨rfl, rfl⟩
      refine ⟨?_, Drawn0.refl _⟩
      rw [Lib.index_long (by simp [Lib.bytesOf]) (fun he => by have := congrArg List.length he; simp [Lib.bytesOf] at this; simp [this] at hh)]
    · obtain ⟨_, _, hs0⟩ := Kd.reads_of_C (d := (0 : Int)) hr0
      obtain ⟨a1, rfl, hc1'⟩ := hs0 h0
      refine (Tryd.bytes_Index_at a1 a2 l0.length c0 l1.length c1 l0 l1 m w rfl rfl hh.2.2.2.1 hh.2.2.2.2 hc1' hc2 hc0 hh.1 hh.2.2.1 hm).mono ?_
      rintro e w' ⟨rfl, q, rfl⟩
      exact ⟨rfl, ⟨⟨q, rfl⟩⟩⟩
  · cases h
end Go.Proofs.YthjpkmaeopdedaaDoor.Ext
