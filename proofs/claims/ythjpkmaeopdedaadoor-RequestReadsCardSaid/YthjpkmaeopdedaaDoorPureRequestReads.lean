/- The plain law of RequestReads: of any bytes the program reads the request that the reference reads, and as many whole requests ahead. -/
import Derived.Test.YthjpkmaeopdedaaDoorPRx6
import Derived.Test.YthjpkmaeopdedaaDoorPlainG
namespace Go.Proofs.YthjpkmaeopdedaaDoor.Pure
open Go.RowKit Go.Proofs.YthjpkmaeopdedaaDoor.PR Go.Proofs.YthjpkmaeopdedaaDoor.Ext Go.Proofs.YthjpkmaeopdedaaDoorW.PrintWords Go.Proofs.YthjpkmaeopdedaaDoor.Plain

theorem ref_R_nums (b : List UInt8) (hb : b.length ≤ 100000000) : ∃ r, Ev (fun k => odometerref05_First.f k (strOfNums (numsL b))) r ∧ R b r := by
  rw [strOf_L]
  have h := ref_R ⟨b.toArray⟩ (by rw [size_mk]; exact hb)
  rwa [L_mk] at h

theorem rr_loop (b : List UInt8) (hb : b.length ≤ 4000) (m0 : Nat) (h0 : UpTo b 0 m0) (i m : Nat) (h : UpTo b i m) (hi : i ≤ b.length) (hm : m = m0) : ∀ r, R (b.drop i) r →
    Ev (fun k => odometerlaw05_RequestReads.l0 k (numsL b) (numsL b) r.2.2 (i : Int)) true := by
  have hdone : ∀ j : Nat, j = m0 → ∀ r, R (b.drop j) r → r = noReq → Ev (fun k => odometerlaw05_RequestReads.l0 k (numsL b) (numsL b) r.2.2 (j : Int)) true := by
    intro j hj r _ e
    subst e; subst hj
    refine Ev.step (f := fun k => (request_Ahead.f k (numsL b)).bind fun t189 => if t189 = (j : Int) then (if (strOfNums (numsL b)).toList = (strOfNums (numsL b)).toList then ((odometerlaw05_known.f k).bind fun t190 => (some t190)) else (some false)) else (some false)) (fun k => ?_) (Ev.bind (ahead_prog b (by omega) j h0) ?_)
    · simp only [odometerlaw05_RequestReads.l0]
      rw [if_neg (by simp [noReq])]
    · simp only [if_true]
      exact Ev.bind known_ev (Ev.now _)
  induction h with
  | stop i hr =>
    intro r hr'
    exact hdone i hm r hr' (R_unique hr' hr)
  | step i n m x y hr h1 h2 _ ih =>
    intro r hr'
    obtain rfl := R_unique hr' hr
    obtain ⟨r', he, hr2⟩ := ref_R_nums (b.drop (i + n)) (by rw [List.length_drop]; omega)
    refine Ev.step (f := fun k => (odometerref05_First.f k (strOfNums (numsL (b.drop (i + n))))).bind fun bt186 => odometerlaw05_RequestReads.l0 k (numsL b) (numsL b) bt186.2.2 ((i + n : Nat) : Int)) (fun k => ?_) (Ev.bind he (ih h2 hm r' hr2))
    simp only [odometerlaw05_RequestReads.l0]
    have hw : wrap64 ((i : Int) + (n : Int)) = (i : Int) + (n : Int) := by unfold wrap64; omega
    rw [if_pos (by omega), hw]
    rw [if_pos (by omega), if_pos (by rw [numsL_length]; omega)]
    rw [show (i : Int) + (n : Int) = ((i + n : Nat) : Int) from by omega, Int.toNat_natCast, numsL_drop]

theorem rr_j1 (b : List UInt8) (hb : b.length ≤ 4000) (r : ByteArray × ByteArray × Int) (hr : R b r) : Ev (fun k => odometerlaw05_RequestReads.j1 k (numsL b) (numsL b) r.2.2) true := by
  obtain ⟨m, hm, _⟩ := upTo_exists b (by omega) b.length 0 (Nat.zero_le _) (by omega)
  exact Ev.step (f := fun k => odometerlaw05_RequestReads.l0 k (numsL b) (numsL b) r.2.2 ((0 : Nat) : Int)) (fun k => by simp [odometerlaw05_RequestReads.j1]) (rr_loop b hb m hm 0 m hm (Nat.zero_le _) rfl r (by rw [List.drop_zero]; exact hr))

theorem RequestReads : odometerlaw05_RequestReads.Pure := by
  intro l0 _ _ hw
  rw [numsL_of l0 hw]
  generalize Lib.bytesOf l0 = b
  refine Ev.rounds (r := true) ?_
  unfold odometerlaw05_RequestReads.f
  by_cases h0 : ((numsL b).length : Int) > 4000
  · simp only [if_pos h0]
    exact Ev.bind known_ev (Ev.now _)
  · have hb : b.length ≤ 4000 := by rw [numsL_length] at h0; omega
    have e1 : ([] : List Int).length + (numsL b).length < 140737488355328 := by rw [numsL_length]; simp; omega
    simp only [if_neg h0, if_pos e1, Option.bind_some, List.nil_append]
    obtain ⟨r, he, hr⟩ := ref_R_nums b (by omega)
    have hof := of_prog b (by omega) r hr
    refine Ev.bind hof (Ev.bind he ?_)
    have hj1 := rr_j1 b hb r hr
    rw [numsL_length]
    by_cases h1 : r.2.2 = (b.length : Int)
    · simp only [if_pos h1]
      by_cases h2 : 0 < b.length
      · have e2 : decide (r.2.2 > 0) = true := by rw [decide_eq_true_eq]; omega
        rw [if_pos ⟨h1, h2⟩, e2]
        exact Ev.step (f := fun k => odometerlaw05_RequestReads.j1 k (numsL b) (numsL b) r.2.2) (fun k => by simp [odometerlaw05_RequestReads.j0]) hj1
      · have e2 : decide (r.2.2 > 0) = false := by rw [decide_eq_false_iff_not]; omega
        rw [if_neg (fun h => h2 h.2), e2]
        exact Ev.step (f := fun k => odometerlaw05_RequestReads.j1 k (numsL b) (numsL b) r.2.2) (fun k => by simp [odometerlaw05_RequestReads.j0, ByteArray.toList_eq]) hj1
    · simp only [if_neg h1]
      rw [if_neg (fun h => h1 h.1)]
      exact Ev.step (f := fun k => odometerlaw05_RequestReads.j1 k (numsL b) (numsL b) r.2.2) (fun k => by simp [odometerlaw05_RequestReads.j0, ByteArray.toList_eq]) hj1
end Go.Proofs.YthjpkmaeopdedaaDoor.Pure
