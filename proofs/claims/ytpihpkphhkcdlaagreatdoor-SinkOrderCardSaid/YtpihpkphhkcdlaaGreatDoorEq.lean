/- bytes.Equal, bytes.HasPrefix, in lists of bytes. -/
import Derived.Test.YtpihpkphhkcdlaaGreatDoorMay
import Derived.Test.YtpihpkphhkcdlaaGreatDoorIe
import Derived.Test.YtpihpkphhkcdlaaGreatDoorPRb
namespace Go.Proofs.YtpihpkphhkcdlaaGreatDoor.Eq
open Go.RowKit Go.Proofs.YtpihpkphhkcdlaaGreatDoorW.PrintWords Go.Proofs.YtpihpkphhkcdlaaGreatDoorW.PrintLast Go.Proofs.YtpihpkphhkcdlaaGreatDoor.Tab Go.Proofs.YtpihpkphhkcdlaaGreatDoor.PR
theorem strOf_nb (a : List UInt8) : strOfNums (nb a) = ⟨a.toArray⟩ := by
  unfold strOfNums nb
  rw [List.map_map]
  have : (fun n : Int => UInt8.ofNat n.toNat) ∘ (fun c : UInt8 => (c.toNat : Int)) = id := by funext c; simp
  rw [this, List.map_id]
theorem nb_len (a : List UInt8) : (nb a).length = a.length := by simp [nb]
theorem ba_toList (s : ByteArray) : s.toList = s.data.toList := by
  have key : ∀ (d i : Nat) (r : List UInt8), s.size - i = d → ByteArray.toList.loop s i r = r.reverse ++ s.data.toList.drop i := by
    intro d
    induction d with
    | zero =>
      intro i r h
      rw [ByteArray.toList.loop, if_neg (by omega), List.drop_eq_nil_of_le (by simpa using (by have : s.size = s.data.size := rfl; omega : s.data.size ≤ i)), List.append_nil]
    | succ d ih =>
      intro i r h
      have hlt : i < s.data.toList.length := by have : s.size = s.data.size := rfl; simp; omega
      rw [ByteArray.toList.loop, if_pos (by omega), ih (i + 1) _ (by omega), List.drop_eq_getElem_cons hlt, List.reverse_cons, List.append_assoc]
      congr 2
      have hlt2 : i < s.data.size := by simpa using hlt
      show s.get! i :: _ = _
      rw [show s.get! i = s.data[i]'hlt2 from by unfold ByteArray.get!; exact getElem!_pos s.data i hlt2]
      simp
  have := key s.size 0 [] rfl
  simpa [ByteArray.toList] using this
theorem heq_f (a b : List UInt8) : bytes_Equal.f (nb a) (nb b) = some (decide (a = b)) := by
  unfold bytes_Equal.f
  rw [strOf_nb, strOf_nb, ba_toList, ba_toList]
  congr 1
  by_cases h : a = b
  · subst h; simp
  · rw [decide_eq_false h]; exact beq_eq_false_iff_ne.2 h
theorem equal_calls {w : World} {A0 A1 : Option Addr} {c0 c1 : Nat} (a b : List UInt8) (h0 : ReadsInt w .u8 A0 a.length (nb a)) (hc0 : a.length ≤ c0) (h1 : ReadsInt w .u8 A1 b.length (nb b)) (hc1 : b.length ≤ c1) :
    Calls Tryz.prog 40 #[.slice A0 a.length c0, .slice A1 b.length c1] w fun e w' => e = .returned (.bool (decide (a = b))) ∧ Below w.heap.size w w' := by
  have := bytes_Equal.calls A0 c0 (nb a) A1 c1 (nb b) _ w (Kd.C_of_reads (d := (0 : Int)) (by rw [nb_len]; exact h0)) (by rw [nb_len]; exact hc0) (Kd.C_of_reads (d := (0 : Int)) (by rw [nb_len]; exact h1)) (by rw [nb_len]; exact hc1) (heq_f a b)
  rw [nb_len, nb_len] at this
  exact this.mono fun e w' h => ⟨h.1, h.2.below⟩
theorem hpre_f (a b : List UInt8) : bytes_HasPrefix.f (nb a) (nb b) = some (decide (a.take b.length = b)) := by
  unfold bytes_HasPrefix.f
  rw [nb_len, nb_len]
  by_cases h : b.length ≤ a.length
  · rw [if_pos (by omega), if_pos (by omega), if_pos (by omega)]
    have : (nb a).take ((b.length : Int)).toNat = nb (a.take b.length) := by unfold nb; rw [List.map_take]; simp
    rw [this, heq_f]
    rfl
  · rw [if_neg (by omega), decide_eq_false]
    intro he
    have := congrArg List.length he
    simp at this
    omega
theorem prefix_calls {w : World} {A0 A1 : Option Addr} {c0 c1 : Nat} (a b : List UInt8) (h0 : ReadsInt w .u8 A0 a.length (nb a)) (hc0 : a.length ≤ c0) (h1 : ReadsInt w .u8 A1 b.length (nb b)) (hc1 : b.length ≤ c1) :
    Calls Tryz.prog 58 #[.slice A0 a.length c0, .slice A1 b.length c1] w fun e w' => e = .returned (.bool (decide (a.take b.length = b))) ∧ Below w.heap.size w w' := by
  have := bytes_HasPrefix.calls A0 c0 (nb a) A1 c1 (nb b) _ w (Kd.C_of_reads (d := (0 : Int)) (by rw [nb_len]; exact h0)) (by rw [nb_len]; exact hc0) (Kd.C_of_reads (d := (0 : Int)) (by rw [nb_len]; exact h1)) (by rw [nb_len]; exact hc1) (hpre_f a b)
  rw [nb_len, nb_len] at this
  exact this.mono fun e w' h => ⟨h.1, h.2.below⟩
end Go.Proofs.YtpihpkphhkcdlaaGreatDoor.Eq
