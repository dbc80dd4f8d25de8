/- few, in plain words. -/
import Derived.Test.YtpihpkphhkcdlaaGreatDoorPRb
import Derived.Test.YtpihpkphhkcdlaaGreatDoorKn
import Derived.Test.YtpihpkphhkcdlaaGreatDoorWSized
import Derived.Deep.Slices
import Derived.Lib.SmallJoins
import Derived.ChangeSlices
import Derived.ChangeArms
import Derived.SizedLaws
namespace Go.Proofs.YtpihpkphhkcdlaaGreatDoor.Fw
open Go.RowKit Go.Proofs.YtpihpkphhkcdlaaGreatDoorW.PrintWords Go.Proofs.YtpihpkphhkcdlaaGreatDoorW.PrintLast Go.Proofs.YtpihpkphhkcdlaaGreatDoor.PR
set_option linter.unusedVariables false
set_option linter.unusedSimpArgs false
abbrev len0 (l0 : List (List Int)) (i : Nat) : Nat := ((l0.take i).map List.length).sum
theorem len0_succ (l0 : List (List Int)) (i : Nat) (h : i < l0.length) : len0 l0 (i + 1) = len0 l0 i + (l0[i]).length := by
  unfold len0
  rw [List.take_succ_eq_append_getElem h, List.map_append, List.sum_append_nat]
  simp
theorem len0_le (l0 : List (List Int)) (hB : ∀ x ∈ l0, x.length ≤ 140737488351232) : ∀ i, len0 l0 i ≤ i * 140737488351232
  | 0 => by simp [len0]
  | i + 1 => by
    by_cases h : i < l0.length
    · rw [len0_succ l0 i h]
      have := len0_le l0 hB i
      have := hB _ (List.getElem_mem h)
      omega
    · have e : len0 l0 (i + 1) = len0 l0 i := by unfold len0; rw [List.take_of_length_le (by omega), List.take_of_length_le (by omega)]
      have := len0_le l0 hB i
      omega
theorem mem_le {l : List Nat} {a : Nat} (h : a ∈ l) : a ≤ l.sum := by
  induction l with
  | nil => cases h
  | cons x t ih =>
    rw [List.sum_cons]
    rcases List.mem_cons.1 h with rfl | h
    · omega
    · have := ih h; omega
theorem few_from (l0 : List (List Int)) (hB : ∀ x ∈ l0, x.length ≤ 140737488351232) : ∀ (d i : Nat), i + d = 21 → i ≤ l0.length → ∃ b, odometerlaw31_few.l0 (d + 1) l0 20 (len0 l0 i : Int) (i : Int) = some b ∧ (b = true → l0.length ≤ 20 ∧ len0 l0 l0.length ≤ 9000) := by
  intro d
  induction d with
  | zero =>
    intro i hi hl
    unfold odometerlaw31_few.l0
    by_cases h1 : i < l0.length
    · rw [if_pos (by omega), if_neg (by omega), if_neg (by omega)]
      exact ⟨false, rfl, by simp⟩
    · rw [if_neg (by omega), if_neg (by omega)]
      exact ⟨false, rfl, by simp⟩
  | succ d ih =>
    intro i hi hl
    unfold odometerlaw31_few.l0
    by_cases h1 : i < l0.length
    · rw [if_pos (by omega), if_pos (by omega), if_pos (by omega)]
      have e1 : (rd_L1 l0 (i : Int)).length = (l0[i]).length := by unfold rd_L1; simp [List.getD, h1]
      have e2 := len0_succ l0 i h1
      have e3 := len0_le l0 hB (i + 1)
      have e4 : (i + 1) * 140737488351232 ≤ 21 * 140737488351232 := Nat.mul_le_mul_right _ (by omega)
      have e5 : wrap64 ((len0 l0 i : Int) + ((rd_L1 l0 (i : Int)).length : Int)) = (len0 l0 (i + 1) : Int) := by rw [e1, e2]; unfold wrap64; omega
      have e6 : wrap64 ((i : Int) + 1) = ((i + 1 : Nat) : Int) := by unfold wrap64; omega
      rw [e5, e6]
      exact ih (i + 1) (by omega) (by omega)
    · rw [if_neg (by omega)]
      by_cases h2 : l0.length ≤ 20
      · rw [if_pos (by omega)]
        refine ⟨_, rfl, fun h => ⟨h2, ?_⟩⟩
        have h3 := of_decide_eq_true h
        rw [show l0.length = i by omega]
        omega
      · rw [if_neg (by omega)]
        exact ⟨false, rfl, by simp⟩
theorem few_ex (l0 : List (List Int)) (hB : ∀ x ∈ l0, x.length ≤ 140737488351232) : ∃ b, odometerlaw31_few.f 22 l0 20 = some b ∧ (b = true → l0.length ≤ 20 ∧ ∀ x ∈ l0, x.length ≤ 9000) := by
  obtain ⟨b, h1, h2⟩ := few_from l0 hB 21 0 rfl (Nat.zero_le _)
  refine ⟨b, h1, fun hb => ⟨(h2 hb).1, fun x hx => ?_⟩⟩
  have h3 := (h2 hb).2
  unfold len0 at h3
  rw [List.take_length] at h3
  exact Nat.le_trans (mem_le (List.mem_map_of_mem hx)) h3
end Go.Proofs.YtpihpkphhkcdlaaGreatDoor.Fw
namespace Go.Proofs.YtpihpkphhkcdlaaGreatDoor.Tx
open Go.RowKit Go.Joins Go.ChangeShapes Go.WideShapes Go.Deep Go.Proofs.YtpihpkphhkcdlaaGreatDoorW.PrintWords Go.Proofs.YtpihpkphhkcdlaaGreatDoorW.PrintLast Go.Proofs.YtpihpkphhkcdlaaGreatDoor.Tab
set_option linter.unusedVariables false
set_option linter.unusedSimpArgs false
theorem nb_of (l : List Int) (h : ∀ x ∈ l, (Lit.int .u8 x).wf = true) : ∃ bs : List UInt8, l = nb bs := by
  refine ⟨l.map fun x => UInt8.ofNat x.toNat, ?_⟩
  unfold nb
  rw [List.map_map]
  conv => lhs; rw [← List.map_id l]
  refine List.map_congr_left fun x hx => ?_
  have := h x hx
  simp [Lit.wf, IntKind.min, IntKind.max, IntKind.bits, IntKind.signed] at this
  simp
  omega
theorem weightsAll_mem {H : Type} {P : Program} {e : TypeId} {d : DataW H} : ∀ {l : List (DataW H)}, d ∈ l → ∀ n ∈ d.weights P e, n ∈ DataW.weightsAll P e l
  | x :: r, hd, n, hn => by
    simp only [DataW.weightsAll, List.mem_append]
    rcases List.mem_cons.1 hd with rfl | h
    · exact Or.inl hn
    · exact Or.inr (weightsAll_mem h n hn)
/-- A row of texts that the law is handed. -/
def Txt (W : World) (A : Option Addr) (n : Nat) (l0 : List (List Int)) : Prop := Kd.C (Kd.slice 5 (Kd.int .u8)) W A n l0 ∧ ∀ t ∈ l0, t.length ≤ 140737488351232 ∧ ∀ z ∈ t, (Lit.int .u8 z).wf = true
section
variable {H : Type} {enc : TypeId × Value → H} {W : World} {base : Nat} {held : Bool}
theorem text_of {fuel : Nat} {v : Value} {x : DataW H × List MemPlace} (h : DataW.trod enc Tryz.prog W base (fun _ => true) held fuel 29 [v] = some x) (hsz : ∀ n ∈ x.1.weights Tryz.prog 29, n ≤ reachBytes) : ∃ (A : Option Addr) (c : Nat) (l : List Int), v = .slice A l.length c ∧ l.length ≤ c ∧ (Kd.int .u8).C W A l.length l ∧ l.length ≤ 140737488351232 ∧ ∀ z ∈ l, (Lit.int .u8 z).wf = true := by
  rcases open_ints Tryz.underlying29 Tryz.underlying5 (by kernel_rfl) h with ⟨hcs, _⟩ | ⟨a, l, c, zs, hcs, _, hl, hm, hz, hx, hcell, hwz⟩
  · obtain rfl := List.singleton_inj.1 hcs
    exact ⟨none, 0, [], rfl, Nat.le_refl _, Kd.C_of_reads (h1 := fun _ => rfl) (ReadsInt.nil _ _), by simp, by simp⟩
  · obtain rfl := List.singleton_inj.1 hcs
    obtain ⟨l0, e0, hr0, hm0, hw0, hc0⟩ := ReadsInt.ofRowC (k := .u8) (w := W) (a := some a) (len := l) (cap := c) (zs := zs) (.inr ⟨a, rfl, hl, hm, by simpa using hz, hcell, hwz⟩)
    subst e0
    refine ⟨some a, c, l0, rfl, hc0, Kd.C_of_reads (h1 := fun _ => rfl) hr0, ?_, hw0⟩
    subst hx
    have z := hsz ((lits (H := H) .u8 (zs.take l0.length)).length * 1 + (lits (H := H) .u8 (zs.drop l0.length)).length * 1) (by
      simp only [DataW.weights, Tryz.underlying29, List.mem_cons]
      refine .inl ?_
      rw [show Tryz.prog.bytesOf 5 = 1 by kernel_rfl, Nat.mul_one, Nat.mul_one, Nat.mul_one])
    simp [lits] at z hz
    unfold reachBytes at z
    omega
theorem texts_of {fuel : Nat} {cs : List Value} {x : DataW H × List MemPlace} (h : DataW.trod enc Tryz.prog W base (fun _ => true) held fuel 22 cs = some x) (hsz : ∀ n ∈ x.1.weights Tryz.prog 22, n ≤ reachBytes) :
    cs = [.slice none 0 0] ∨ ∃ (ad : Addr) (len cap : Nat) (l0 : List (List Int)), cs = [.slice (some ad) len cap] ∧ len ≤ cap ∧ l0.length = len ∧ Txt W (some ad) len l0 := by
  rcases open_slice1 Tryz.underlying22 (by kernel_rfl) h with ⟨hcs, _⟩ | ⟨a, len, cap, m, n, V, D, Pl, hcs, hb, hl, hm, hmm, hx, hi⟩
  · exact .inl hcs
  · subst hx
    simp only [if_true] at hmm
    have hin : ∀ i, i < len → ∀ k ∈ (D i).weights Tryz.prog 29, k ≤ reachBytes := fun i hil k hk => by
      refine hsz k ?_
      simp only [DataW.weights, Tryz.underlying22, List.mem_cons, List.mem_append]
      exact .inr (.inl (weightsAll_mem (List.mem_map.2 ⟨i, by simpa using hil, rfl⟩) k hk))
    have each : ∀ i, i < len → ∃ l : List Int, (∃ (A : Option Addr) (c : Nat), V i = .slice A l.length c ∧ l.length ≤ c ∧ (Kd.int .u8).C W A l.length l) ∧ l.length ≤ 140737488351232 ∧ ∀ z ∈ l, (Lit.int .u8 z).wf = true := fun i hil => by
      obtain ⟨A, c, l, h1, h2, h3, h4, h5⟩ := text_of (hi i (by omega)).2 (hin i hil)
      exact ⟨l, ⟨A, c, h1, h2, h3⟩, h4, h5⟩
    obtain ⟨f, hf⟩ := choose_lt each
    refine .inr ⟨a, len, cap, (List.range len).map f, hcs, hl, by simp, ⟨by simp, by unfold maxLen at hm; omega, fun _ => ⟨a, rfl, fun j p hp => ?_⟩⟩, fun t ht => ?_⟩
    · rw [List.getElem?_map] at hp
      obtain ⟨i, hi2, rfl⟩ := Option.map_eq_some_iff.1 hp
      obtain ⟨hlt, rfl⟩ := List.getElem?_eq_some_iff.1 hi2
      rw [List.length_range] at hlt
      rw [List.getElem_range]
      obtain ⟨⟨A, c, h1, h2, h3⟩, _⟩ := hf j hlt
      refine ⟨[.slice A (f j).length c], rfl, ⟨A, c, rfl, h2, h3⟩, fun i u hu => ?_⟩
      have h9 := (hi j (by omega)).1
      match i, hu with
      | 0, hu => 
        have hu' : Value.slice A (f j).length c = u := Option.some.inj hu
        have e1 : j * (Kd.slice 5 (Kd.int .u8)).sz + 0 = j := by show j * 1 + 0 = j; omega
        rw [e1, ← hu', ← h1]
        exact h9
    · obtain ⟨i, hi2, rfl⟩ := List.mem_map.1 ht
      exact (hf i (by simpa using hi2)).2
end
end Go.Proofs.YtpihpkphhkcdlaaGreatDoor.Tx
