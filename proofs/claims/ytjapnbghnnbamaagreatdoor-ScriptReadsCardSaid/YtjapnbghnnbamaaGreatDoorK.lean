/- script.kinds: the map of first words. -/
import Derived.Test.YtjapnbghnnbamaaGreatDoorS
import Derived.Maps.RangeWalk
import Derived.Maps.OwnOps
import Derived.Maps.Ext
import Derived.StringKeys
namespace Go.Proofs.YtjapnbghnnbamaaGreatDoor.K
open Go.RowKit Go.Proofs.YtjapnbghnnbamaaGreatDoorW.PrintWords Go.Proofs.YtjapnbghnnbamaaGreatDoorW.PrintLast Go.Proofs.YtjapnbghnnbamaaGreatDoor.Ext Go.Proofs.YtjapnbghnnbamaaGreatDoor.Q Go.Proofs.YtjapnbghnnbamaaGreatDoor.S Go.Maps
set_option linter.unusedVariables false
set_option linter.unusedSimpArgs false
/-- A composite literal's entry. -/
theorem wpList_insert_own {H : Type} {P : Program} (w : World) {ops : Array Oper} {rest : List Oper} {o : Oper} {a : Act} {Q : Exit → Act → World → Prop}
    (hg : o.guard = none) (m x v : Operand) (t : TypeId) (hop : o.op = Op.insert t m x v)
    (k e : TypeId) (K : Keyed P k) (ht : P.underlying t = some (.map k e)) (R : Value → Option (DataW H × List MemPlace)) (b n : Nat) (D : DataW H)
    (hm : a.eval m = .map (some b)) (hown : w.ownsMap P k R b n D) (hn : n < maxLen) (key val : Value) (kl : Lit) (hx : a.eval x = key) (hv : a.eval v = val) (hkey : keyOf P k key = some kl)
    (d : DataW H) (ps : List MemPlace) (hval : R val = some (d, ps))
    (hK : ∀ w', w'.ownsMap P k R b (n + 1) (D.put kl d) → w.grownBy w' (some b) → wpList P ops Q rest (a.put o.dst undef) w') :
    wpList P ops Q (o :: rest) a w := by
  refine wpList_plain hg fun K' hK' => ?_
  obtain ⟨w', hrun, r1, r2⟩ := hown.update K ht hn hkey hval
  unfold Oper.wp
  simp [execOp, hop, hm, hx, hv, hrun, Result.andThen]
  exact hK' _ _ (hK w' r1 r2)
theorem law : Keyed Tryz.prog 9 := string_keyed Tryz.underlying9
noncomputable abbrev RK : Value → Option (DataW Unit × List MemPlace) := plainElem Tryz.prog 32
/-- The kinds' words. -/
def kn (k : Int) : ByteArray := if k = 1 then ⟨#[116, 105, 99, 107]⟩ else if k = 2 then ⟨#[97, 99, 99, 101, 112, 116]⟩ else if k = 3 then ⟨#[114, 101, 102, 117, 115, 101]⟩ else if k = 4 then ⟨#[114, 101, 115, 101, 116]⟩ else if k = 5 then ⟨#[101, 110, 100]⟩ else if k = 6 then ⟨#[98, 121, 116, 101, 115]⟩ else if k = 7 then ⟨#[115, 105, 110, 107]⟩ else ⟨#[]⟩
def kl (k : Int) : Lit := .string (kn k).data.toList
def putK (D : DataW Unit) (k : Int) : DataW Unit := D.put (kl k) (.lit (.int .i64 k))
def kindsD : DataW Unit := putK (putK (putK (putK (putK (putK (putK (.map []) 1) 2) 3) 4) 5) 6) 7
set_option maxHeartbeats 4000000 in
set_option maxRecDepth 100000 in
theorem kinds_calls (w : World) : Calls Tryz.prog 28 #[] w fun e w' => e = .returned (.map (some w.heap.size)) ∧ w'.ownsMap Tryz.prog 9 RK w.heap.size 7 kindsD ∧ Below w.heap.size w w' := by
  have hmm := @run_makeMap Tryz.prog
  have HO := Aside0.mk (World.ownsMap_made w Tryz.prog 9 RK)
  have HB := Aside0.mk (show Below w.heap.size w (w.alloc (.map #[] 0)) from below_alloc (Below.refl _ _) _)
  go_enter Tryz.func28, Tryz.ntmps28
  go_wp2_with (first | (refine wpList_insert_own _ rfl _ _ _ 64 rfl 9 32 law Tryz.underlying64 RK w.heap.size _ _ rfl HO.out (by unfold maxLen; omega) _ _ _ rfl rfl (WideMaps.keyOf_string_mk Tryz.underlying9 (by decide)) _ [] (plainElem_int Tryz.underlying32 (by decide)) ?_; intro w1 ho hg; have HO2 := Aside0.mk ho; have HB2 := Aside0.mk (HB.out.grown hg HB.out.size (fun j hj => by cases hj; exact Nat.le_refl _)); clear HO HB ho hg; have HO := HO2; have HB := HB2; clear HO2 HB2))
  go_ret
  exact ⟨rfl, HO.out, HB.out⟩
theorem kindsD_eq : kindsD = .map [(kl 2, .lit (.int .i64 2)), (kl 6, .lit (.int .i64 6)), (kl 5, .lit (.int .i64 5)), (kl 3, .lit (.int .i64 3)), (kl 4, .lit (.int .i64 4)), (kl 7, .lit (.int .i64 7)), (kl 1, .lit (.int .i64 1))] := by rfl
theorem same_key {a b : Lit} (h : a.sameKey b = true) : a = b := by
  by_cases he : a = b
  · exact he
  · rw [sameKey_ne he] at h; cases h
theorem kinds_key {z : Lit} {c : Int} (h : ∀ zd, kindsD.atKey z zd = .lit (.int .i64 c)) : z = kl c ∧ 1 ≤ c ∧ c ≤ 7 := by
  have hh := has_true_of_atKey h
  rw [kindsD_eq, has_eq] at hh
  simp only [List.any_cons, List.any_nil, Bool.or_false, Bool.or_eq_true] at hh
  have key : ∀ k : Int, (k = 1 ∨ k = 2 ∨ k = 3 ∨ k = 4 ∨ k = 5 ∨ k = 6 ∨ k = 7) → kindsD.atKey (kl k) .nil = .lit (.int .i64 k) := by
    rintro k (rfl | rfl | rfl | rfl | rfl | rfl | rfl) <;> rfl
  have fin : ∀ k : Int, (k = 1 ∨ k = 2 ∨ k = 3 ∨ k = 4 ∨ k = 5 ∨ k = 6 ∨ k = 7) → (kl k).sameKey z = true → z = kl c ∧ 1 ≤ c ∧ c ≤ 7 := fun k hk he => by
    have e := same_key he
    have h1 := h .nil
    rw [← e, key k hk] at h1
    simp only [DataW.lit.injEq, Lit.int.injEq, true_and] at h1
    subst h1
    exact ⟨e.symm, by omega, by omega⟩
  rcases hh with hh | hh | hh | hh | hh | hh | hh
  · exact fin 2 (by omega) hh
  · exact fin 6 (by omega) hh
  · exact fin 5 (by omega) hh
  · exact fin 3 (by omega) hh
  · exact fin 4 (by omega) hh
  · exact fin 7 (by omega) hh
  · exact fin 1 (by omega) hh
theorem kn_inj {j k : Int} (hj : 1 ≤ j ∧ j ≤ 7) (hk : 1 ≤ k ∧ k ≤ 7) (h : kl j = kl k) : j = k := by
  have ej : j = 1 ∨ j = 2 ∨ j = 3 ∨ j = 4 ∨ j = 5 ∨ j = 6 ∨ j = 7 := by omega
  have ek : k = 1 ∨ k = 2 ∨ k = 3 ∨ k = 4 ∨ k = 5 ∨ k = 6 ∨ k = 7 := by omega
  unfold kl at h
  injection h with h
  rcases ej with rfl | rfl | rfl | rfl | rfl | rfl | rfl <;> rcases ek with rfl | rfl | rfl | rfl | rfl | rfl | rfl <;> first | rfl | (exact absurd h (by decide))
theorem has_kn {k : Int} (hk : 1 ≤ k ∧ k ≤ 7) : Maps.has kindsD (kl k) = true := by
  have ek : k = 1 ∨ k = 2 ∨ k = 3 ∨ k = 4 ∨ k = 5 ∨ k = 6 ∨ k = 7 := by omega
  rcases ek with rfl | rfl | rfl | rfl | rfl | rfl | rfl <;> rfl
/-- The word that has been found: while the kind's entry is still to come, none. -/
def wordV (k : Int) (left : Lit → Bool) : Value := .string (if left (kl k) = true then ⟨#[]⟩ else kn k)
set_option maxRecDepth 100000 in
theorem word_hit (k : Int) (left : Lit → Bool) (x : ByteArray) (z : Lit) (hz : keyOf Tryz.prog 9 (.string x) = some z) (e : z = kl k) : wordV k (fun y => left y && !y.sameKey z) = .string x := by
  have hx : z = .string x.data.toList := by
    simp [keyOf, Tryz.underlying9, mapKey] at hz
    exact hz.2.symm
  unfold wordV
  subst e
  have hs : (kl k).sameKey (kl k) = true := by simp [kl, Lit.sameKey]
  simp only [hs]
  have : kn k = x := by
    unfold kl at hx
    injection hx with hx
    exact ByteArray.ext (Array.toList_inj.1 hx)
  simp [this]
theorem word_miss (k : Int) (left : Lit → Bool) (z : Lit) (e : kl k ≠ z) : wordV k (fun y => left y && !y.sameKey z) = wordV k left := by
  unfold wordV
  simp only [sameKey_ne e]
  simp
end Go.Proofs.YtjapnbghnnbamaaGreatDoor.K
