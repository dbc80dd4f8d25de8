/- The plain law of HeadFields: of any bytes, the fields that the program reads, or its error, are the reference's. -/
import Derived.Test.YtfpcoanlkfgagaaDoorPBF
import Derived.Test.YtfpcoanlkfgagaaDoorPlainD2
import Derived.Test.YtfpcoanlkfgagaaDoorPureA
namespace Go.Proofs.YtfpcoanlkfgagaaDoor.Pure
open Go.RowKit Go.Proofs.YtfpcoanlkfgagaaDoor.Ext Go.Proofs.YtfpcoanlkfgagaaDoorW.PrintWords Go.Proofs.YtfpcoanlkfgagaaDoor.Plain
theorem same_from (l : List PA.S75) (hl : l.length ≤ 100000000) (d : Nat) : ∀ i : Nat, i ≤ l.length → l.length - i = d → Ev (fun k => PA.odometerref06_SameFields.l0 k l l (i : Int)) true := by
  induction d with
  | zero =>
    intro i hi hd
    refine Ev.step (f := fun _ => some true) (fun k => ?_) (Ev.now _)
    simp only [PA.odometerref06_SameFields.l0]
    rw [if_neg (by omega)]
  | succ d ih =>
    intro i hi hd
    refine Ev.step (f := fun k => PA.odometerref06_SameFields.l0 k l l ((i + 1 : Nat) : Int)) (fun k => ?_) (ih (i + 1) (by omega) (by omega))
    simp only [PA.odometerref06_SameFields.l0]
    rw [if_pos (by omega), if_pos (by omega), if_pos (by omega), if_neg (by simp), wrap_up (n := l.length) (by omega) (by omega)]
theorem same_ev (l : List PA.S75) (hl : l.length ≤ 100000000) : Ev (fun k => PA.odometerref06_SameFields.f k l l) true := by
  refine Ev.congr (f := fun k => PA.odometerref06_SameFields.l0 k l l 0) (fun k => ?_) (same_from l hl _ 0 (by omega) rfl)
  unfold PA.odometerref06_SameFields.f
  rw [if_pos rfl]
theorem fields_ev (b : List UInt8) (hb : b.length ≤ 100000000) : Ev (fun k => PA.head_Fields.f k (numsL b)) ((readP (readS b)).2.2.1, if (readP (readS b)).2.2.2.2.2 = 0 then (if (readP (readS b)).2.2.2.2.1 = true then 0 else 15) else (readP (readS b)).2.2.2.2.2) := by
  unfold PA.head_Fields.f
  exact Ev.bind (read_prog b hb) (Ev.now _)
theorem HeadFields : PB.odometerlaw06_HeadFields.Pure := by
  refine ⟨known_eq, fun l0 hw hlen => ?_⟩
  have hl := numsL_of l0 hw
  obtain ⟨b, hbb⟩ : ∃ b, b = Lib.bytesOf l0 := ⟨_, rfl⟩
  rw [← hbb] at hl
  have hbl : b.length ≤ 20000 := by rw [hl, numsL_length] at hlen; exact hlen
  rw [hl]
  obtain ⟨K1, g1⟩ := fields_ev b (by omega)
  obtain ⟨K2, g2⟩ := read_ref b (by omega)
  cases hr : readS b with
  | mk e o =>
    rw [hr] at g1 g2
    cases o with
    | none =>
      obtain ⟨K3, g3⟩ := same_ev [] (by simp)
      refine ⟨max K1 (max K2 K3), [], _, _, _, _, g1 _ (by omega), g2 _ (by omega), g3 _ (by omega), ?_⟩
      simp [readP]
    | some p =>
      obtain ⟨s, l, m⟩ := p
      have hwh := readS_whole b e s l m hr
      have h64 := hwh.few
      have hpos := hwh.pos
      obtain ⟨K3, g3⟩ := same_ev l (by omega)
      refine ⟨max K1 (max K2 K3), l, _, _, _, _, g1 _ (by omega), g2 _ (by omega), g3 _ (by omega), ?_⟩
      have hm : ¬ ((m : Int) = 0) := by omega
      have hm2 : m ≠ 0 := by omega
      simp [readP, hm2]
end Go.Proofs.YtfpcoanlkfgagaaDoor.Pure
