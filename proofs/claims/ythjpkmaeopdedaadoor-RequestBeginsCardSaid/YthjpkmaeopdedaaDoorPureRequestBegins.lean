/- The plain law of RequestBegins: a beginning of a request, shorter than it, is none; and behind a request it does not count. -/
import Derived.Test.YthjpkmaeopdedaaDoorPRx7
import Derived.Test.YthjpkmaeopdedaaDoorPlainG
namespace Go.Proofs.YthjpkmaeopdedaaDoor.Pure
open Go.RowKit Go.Proofs.YthjpkmaeopdedaaDoor.PR Go.Proofs.YthjpkmaeopdedaaDoor.Ext Go.Proofs.YthjpkmaeopdedaaDoorW.PrintWords Go.Proofs.YthjpkmaeopdedaaDoor.Plain

theorem rg_known (x0 x1 : ByteArray) (x2 : Int) : Ev (fun k => odometerlaw05_RequestBegins.j0 k x0 x1 x2 true) true :=
  Ev.step (f := fun k => (odometerlaw05_known.f k).bind fun t => some t) (fun k => by simp [odometerlaw05_RequestBegins.j0]) (Ev.bind known_ev (Ev.now _))
theorem rg_known1 (x2 : Int) (t : ByteArray) : Ev (fun k => odometerlaw05_RequestBegins.j1 k x2 t true) true :=
  Ev.step (f := fun k => (odometerlaw05_known.f k).bind fun t => some t) (fun k => by simp [odometerlaw05_RequestBegins.j1]) (Ev.bind known_ev (Ev.now _))

theorem rg_j1 (x0 x1 s : ByteArray) (n : Nat) (h0 : x0.size ≤ 1500) (h1 : x1.size ≤ 1500) (hs : L s = text (L x0) (L x1)) (hh : mayHost (L x0) = true) (hp : mayPath (L x1) = true) (hn : n < s.size) :
    Ev (fun k => odometerlaw05_RequestBegins.j1 k (n : Int) s false) true := by
  have hsz : s.size = x0.size + x1.size + 105 := by rw [← L_length, hs, text_length, L_length, L_length]
  have ht : L (s.extract 0 n) = (text (L x0) (L x1)).take n := by rw [L_extract, List.drop_zero, Nat.sub_zero, hs]
  have hlt : n < (text (L x0) (L x1)).length := by rw [← hs, L_length]; exact hn
  have hnone := begins_none (L x0) (L x1) hh hp n hlt
  have hxs : (s.extract 0 n).size ≤ s.size := size_extract_le _ _ _
  have e1 : bytesConv.f (s.extract 0 n) = some (numsL ((text (L x0) (L x1)).take n)) := by
    unfold bytesConv.f
    rw [if_pos (by omega), bytesOf_L, ht]
  have e2 : bytesConv.f (s ++ s.extract 0 n) = some (numsL (text (L x0) (L x1) ++ (text (L x0) (L x1)).take n)) := by
    unfold bytesConv.f
    rw [if_pos (by rw [ByteArray.size_append]; omega), bytesOf_L, L_append, ht, hs]
  have hl1 : ((text (L x0) (L x1)).take n).length ≤ 100000000 := by rw [List.length_take, ← hs, L_length]; omega
  have hl2 : (text (L x0) (L x1) ++ (text (L x0) (L x1)).take n).length ≤ 100000000 := by rw [List.length_append, List.length_take, ← hs, L_length]; omega
  have hof := of_prog _ hl1 _ hnone
  rw [if_neg (by rintro ⟨h, h'⟩; simp only [noReq] at h; omega)] at hof
  have ha1 := ahead_prog _ hl1 0 (.stop 0 (by rw [List.drop_zero]; exact hnone))
  have ha2 := ahead_prog _ hl2 _ (upTo_text x0 x1 hh hp _ hnone)
  refine Ev.step (f := fun k => (request_Of.f k (numsL ((text (L x0) (L x1)).take n))).bind fun bt199 => if bt199.2.2 = 2 then (request_Ahead.f k (numsL ((text (L x0) (L x1)).take n))).bind fun t205 => (if t205 = 0 then (request_Ahead.f k (numsL (text (L x0) (L x1) ++ (text (L x0) (L x1)).take n))).bind fun t209 => (if t209 = (s.size : Int) then ((odometerlaw05_known.f k).bind fun t210 => (some t210)) else (some false)) else (some false)) else some false) (fun k => ?_) ?_
  · simp only [odometerlaw05_RequestBegins.j1]
    rw [if_neg (by simp), if_pos (by omega), if_pos (by omega)]
    simp only [Int.toNat_natCast, e1, e2, Option.bind_some]
    rw [if_pos (by omega)]
  · refine Ev.bind hof ?_
    simp only [if_true]
    refine Ev.bind ha1 ?_
    simp only [Int.ofNat_zero, Int.natCast_zero, if_true]
    refine Ev.bind ha2 ?_
    rw [← hs, L_length]
    simp only [if_true]
    exact Ev.bind known_ev (Ev.now _)

theorem RequestBegins : odometerlaw05_RequestBegins.Pure := by
  intro a0 a1 a2 _ _ _
  refine Ev.rounds (r := true) ?_
  unfold odometerlaw05_RequestBegins.f
  by_cases h0 : (a0.size : Int) > 1500
  · simp only [if_pos h0]
    exact rg_known a0 a1 a2
  · simp only [if_neg h0]
    by_cases h1 : (a1.size : Int) > 1500
    · simp only [if_pos h1]
      exact rg_known a0 a1 a2
    · simp only [if_neg h1]
      refine Ev.bind (mayHost_ref a0 (by omega)) ?_
      by_cases hh : mayHost (L a0) = true
      · simp only [hh, if_true]
        refine Ev.bind (mayPath_ref a1 (by omega)) ?_
        by_cases hp : mayPath (L a1) = true
        · simp only [hp, Bool.not_true]
          have et : odometerref05_Text.f a0 a1 = some (reqHead ++ a1 ++ reqMid ++ a0 ++ reqTail) := by
            unfold odometerref05_Text.f
            rw [if_pos ⟨by omega, by omega⟩]
          have hs : L (reqHead ++ a1 ++ reqMid ++ a0 ++ reqTail) = text (L a0) (L a1) := text_ref a0 a1
          generalize reqHead ++ a1 ++ reqMid ++ a0 ++ reqTail = s at et hs
          refine Ev.step (f := fun k => if a2 < 0 then (odometerlaw05_RequestBegins.j1 k a2 s true) else (odometerlaw05_RequestBegins.j1 k a2 s (decide (a2 ≥ (s.size : Int))))) (fun k => by simp [odometerlaw05_RequestBegins.j0, et]) ?_
          by_cases h2 : a2 < 0
          · simp only [if_pos h2]
            exact rg_known1 a2 s
          · simp only [if_neg h2]
            by_cases h3 : a2 ≥ (s.size : Int)
            · simp only [h3, decide_true]
              exact rg_known1 a2 s
            · simp only [h3, decide_false]
              obtain ⟨n, rfl⟩ : ∃ n : Nat, a2 = n := ⟨a2.toNat, by omega⟩
              exact rg_j1 a0 a1 s n (by omega) (by omega) hs hh hp (by omega)
        · have hp' : mayPath (L a1) = false := by simpa using hp
          simp only [hp', Bool.not_false]
          exact rg_known a0 a1 a2
      · have hh' : mayHost (L a0) = false := by simpa using hh
        simp only [hh']
        simpa using rg_known a0 a1 a2
end Go.Proofs.YthjpkmaeopdedaaDoor.Pure
