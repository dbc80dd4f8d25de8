/- The plain law of RequestBytes: of every host and every path the program's answers are the reference's, and a request is read as it was made. -/
import Derived.Test.YthjpkmaeopdedaaDoorPRx4
import Derived.Test.YthjpkmaeopdedaaDoorPlainG
namespace Go.Proofs.YthjpkmaeopdedaaDoor.Pure
open Go.RowKit Go.Proofs.YthjpkmaeopdedaaDoor.PR Go.Proofs.YthjpkmaeopdedaaDoor.Ext Go.Proofs.YthjpkmaeopdedaaDoorW.PrintWords Go.Proofs.YthjpkmaeopdedaaDoor.Plain

theorem rb_known (x0 x1 : ByteArray) : Ev (fun k => odometerlaw05_RequestBytes.j0 k x0 x1 true) true :=
  Ev.step (f := fun k => (odometerlaw05_known.f k).bind fun t => some t) (fun k => by simp [odometerlaw05_RequestBytes.j0]) (Ev.bind known_ev (Ev.now _))

theorem rb_j2 (x0 x1 : ByteArray) (h0 : x0.size ≤ 2000) (h1 : x1.size ≤ 2000) :
    Ev (fun k => odometerlaw05_RequestBytes.j2 k x0 x1 (mayHost (L x0) && mayPath (L x1)) (if mayHost (L x0) = true ∧ mayPath (L x1) = true then (numsL (text (L x0) (L x1)), (0 : Int)) else ([], 2)).1 (if mayHost (L x0) = true ∧ mayPath (L x1) = true then (numsL (text (L x0) (L x1)), (0 : Int)) else ([], 2)).2 false) true := by
  by_cases hm : mayHost (L x0) = true ∧ mayPath (L x1) = true
  · have hb : (mayHost (L x0) && mayPath (L x1)) = true := by simp [hm]
    rw [if_pos hm, hb]
    have hlen : (text (L x0) (L x1)).length ≤ 100000000 := by rw [text_length, L_length, L_length]; omega
    have hr : R (text (L x0) (L x1)) (x0, x1, ((text (L x0) (L x1)).length : Int)) := .inl ⟨x0, x1, ⟨hm.1, hm.2, List.prefix_refl _⟩, rfl⟩
    have hof := of_prog _ hlen _ hr
    rw [if_pos ⟨rfl, text_pos _ _⟩] at hof
    have hah := ahead_prog _ (by rw [List.append_nil]; exact hlen) _ (upTo_text x0 x1 hm.1 hm.2 [] nil_none)
    rw [List.append_nil] at hah
    refine Ev.step (f := fun k => (request_Of.f k (numsL (text (L x0) (L x1)))).bind fun bt166 => (odometerref05_Text.f x0 x1).bind fun t169 => if (strOfNums (numsL (text (L x0) (L x1)))).toList = t169.toList then (if bt166.2.2 = 0 then (if bt166.1.toList = x0.toList then (if bt166.2.1.toList = x1.toList then ((request_Ahead.f k (numsL (text (L x0) (L x1)))).bind fun t170 => (if t170 = ((numsL (text (L x0) (L x1))).length : Int) then ((odometerlaw05_known.f k).bind fun t171 => (some t171)) else (some false))) else (some false)) else (some false)) else (some false)) else (some false)) (fun k => by simp [odometerlaw05_RequestBytes.j2]) (Ev.bind hof ?_)
    have et : odometerref05_Text.f x0 x1 = some (reqHead ++ x1 ++ reqMid ++ x0 ++ reqTail) := by
      unfold odometerref05_Text.f
      rw [if_pos ⟨by omega, by omega⟩]
    simp only [et, Option.bind_some, strOf_L, ByteArray.toList_eq]
    rw [show (reqHead ++ x1 ++ reqMid ++ x0 ++ reqTail).data.toList = _ from text_ref x0 x1]
    simp only [if_true]
    refine Ev.bind hah ?_
    rw [numsL_length]
    simp only [if_true]
    exact Ev.bind known_ev (Ev.now _)
  · have hb : (mayHost (L x0) && mayPath (L x1)) = false := by
      rw [Bool.eq_false_iff]
      intro h
      rw [Bool.and_eq_true] at h
      exact hm h
    rw [if_neg hm, hb]
    exact Ev.step (f := fun k => (odometerlaw05_known.f k).bind fun t => some t) (fun k => by simp [odometerlaw05_RequestBytes.j2]) (Ev.bind known_ev (Ev.now _))

theorem rb_j1 (x0 x1 : ByteArray) (h0 : x0.size ≤ 2000) (h1 : x1.size ≤ 2000) : Ev (fun k => odometerlaw05_RequestBytes.j1 k x0 x1 (mayHost (L x0) && mayPath (L x1))) true := by
  refine Ev.step (f := fun k => (request_Bytes.f k x0 x1).bind fun bt157 => (request_MayHost.f k x0).bind fun t161 => (odometerref05_MayHost.f k x0).bind fun t162 => if (t161 != t162) = true then odometerlaw05_RequestBytes.j2 k x0 x1 (mayHost (L x0) && mayPath (L x1)) bt157.1 bt157.2 true else (request_MayPath.f k x1).bind fun t163 => (odometerref05_MayPath.f k x1).bind fun t164 => odometerlaw05_RequestBytes.j2 k x0 x1 (mayHost (L x0) && mayPath (L x1)) bt157.1 bt157.2 (t163 != t164)) (fun k => rfl) ?_
  refine Ev.bind (bytes_prog x0 x1 (by omega) (by omega)) (Ev.bind (mayHost_prog x0 (by omega)) (Ev.bind (mayHost_ref x0 (by omega)) ?_))
  simp only [bne_self_eq_false, Bool.false_eq_true, if_false]
  refine Ev.bind (mayPath_prog x1 (by omega)) (Ev.bind (mayPath_ref x1 (by omega)) ?_)
  simp only [bne_self_eq_false]
  exact rb_j2 x0 x1 h0 h1

theorem RequestBytes : odometerlaw05_RequestBytes.Pure := by
  intro a0 a1 _ _
  refine Ev.rounds (r := true) ?_
  unfold odometerlaw05_RequestBytes.f
  by_cases h0 : (a0.size : Int) > 2000
  · simp only [if_pos h0]
    exact rb_known a0 a1
  · simp only [if_neg h0]
    by_cases h1 : (a1.size : Int) > 2000
    · simp only [h1, decide_true]
      exact rb_known a0 a1
    · simp only [h1, decide_false]
      refine Ev.step (f := fun k => (odometerref05_MayHost.f k a0).bind fun t155 => if t155 = true then (odometerref05_MayPath.f k a1).bind fun t156 => odometerlaw05_RequestBytes.j1 k a0 a1 t156 else odometerlaw05_RequestBytes.j1 k a0 a1 false) (fun k => by simp [odometerlaw05_RequestBytes.j0]) (Ev.bind (mayHost_ref a0 (by omega)) ?_)
      have h := rb_j1 a0 a1 (by omega) (by omega)
      by_cases hm : mayHost (L a0) = true
      · simp only [hm, if_true]
        simp only [hm, Bool.true_and] at h
        exact Ev.bind (mayPath_ref a1 (by omega)) h
      · have hm' : mayHost (L a0) = false := by simpa using hm
        simp only [hm', Bool.false_and] at h ⊢
        simpa using h
end Go.Proofs.YthjpkmaeopdedaaDoor.Pure
