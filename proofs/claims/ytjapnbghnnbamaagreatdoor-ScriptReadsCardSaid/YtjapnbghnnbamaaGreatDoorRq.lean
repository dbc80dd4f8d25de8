/- script.read: what its calls answer. -/
import Derived.Test.YtjapnbghnnbamaaGreatDoorW
import Derived.Test.YtjapnbghnnbamaaGreatDoorU
import Derived.Test.YtjapnbghnnbamaaGreatDoorT
import Derived.Maps.OwnOps
import Derived.Lib.IfaceNeq
namespace Go.Proofs.YtjapnbghnnbamaaGreatDoor.Rq
open Go.Proofs.YtjapnbghnnbamaaGreatDoor.Plain (quote)
open Go.RowKit Go.Proofs.YtjapnbghnnbamaaGreatDoorW.PrintWords Go.Proofs.YtjapnbghnnbamaaGreatDoorW.PrintLast Go.Proofs.YtjapnbghnnbamaaGreatDoor.Ext Go.Proofs.YtjapnbghnnbamaaGreatDoor.Q Go.Proofs.YtjapnbghnnbamaaGreatDoor.S Go.Proofs.YtjapnbghnnbamaaGreatDoor.K Go.Proofs.YtjapnbghnnbamaaGreatDoor.L Go.Proofs.YtjapnbghnnbamaaGreatDoor.T Go.Proofs.YtjapnbghnnbamaaGreatDoor.W Go.Maps
set_option linter.unusedVariables false
set_option linter.unusedSimpArgs false
theorem below_drewN (w : World) (n : Nat) : Below w.heap.size w (w.drewN n) := pw_below_drewN (Below.refl _ _) n
/-- strings.Cut at a byte 32. -/
theorem cut_calls (s : ByteArray) (hm : s.size ≤ 20000000) (w : World) (hG : Glob w) : Calls Tryz.prog 27 #[.string s, .string ⟨#[32]⟩] w fun e w' => (∃ z, e = .returned (.tuple #[.string (ba (wordOf s.data.toList)), .string (ba (restOf s.data.toList)), .bool z])) ∧ Below w.heap.size w w' := by
  obtain ⟨m, h⟩ := hG.mxl
  exact (Tryz.strings_Cut s ⟨#[32]⟩ m w (by omega) h).mono fun e w' ⟨h1, n, h2⟩ => ⟨⟨_, h1⟩, h2 ▸ below_drewN w n⟩
theorem below_world (w : World) (t : TypeId) (x : ByteArray) : Below w.heap.size w (Lib.bytesWorld w t x) := Lib.bytesWorld_below w t x
/-- strconv.ParseInt. -/
theorem int_calls (s : ByteArray) (hm : s.size ≤ 20000000) (w : World) (hG : Glob w) : Calls Tryz.prog 29 #[.string s, .int .i64 10, .int .i64 64] w fun e w' => (∃ ev, e = .returned (.tuple #[.int .i64 (piV s.data.toList).1, ev]) ∧ ((piV s.data.toList).2 = true → ev = .nilIface) ∧ ((piV s.data.toList).2 = false → ∃ N, ev = .iface 121 (.pointer (some ⟨N, 0, none⟩)))) ∧ Below w.heap.size w w' := by
  unfold piV
  cases h : Lib.parseIntB 64 s.data.toList with
  | ok v => exact (Tryz.strconv_ParseInt_10_at64_ok s (by omega) v h w).mono fun e w' ⟨h1, h2⟩ => ⟨⟨_, h1, fun _ => rfl, fun h => (nomatch h)⟩, h2.elim (fun e => e ▸ Below.refl _ _) (fun ⟨t, e⟩ => e ▸ below_world w _ t)⟩
  | range =>
    obtain ⟨ev, h1, h2⟩ := hG.rng
    exact (Tryz.strconv_ParseInt_10_at64_range s (by omega) h ev w h1 h2).mono fun e w' ⟨N, h3, _, _, h4⟩ => ⟨⟨_, h3, fun h => (nomatch h), fun _ => ⟨N, rfl⟩⟩, h4⟩
  | _ =>
    obtain ⟨ev, h1, h2⟩ := hG.err
    exact (Any.strconv_ParseInt_10_at64_syntax Tryz.laysC174 s (by omega) h ev w h1 h2).mono fun e w' ⟨N, h3, _, _, h4⟩ => ⟨⟨_, h3, fun h => (nomatch h), fun _ => ⟨N, rfl⟩⟩, h4⟩
/-- A word's kind: 0 of another word. -/
def kindOf (l : List UInt8) : Int := if l = (kn 1).data.toList then 1 else if l = (kn 2).data.toList then 2 else if l = (kn 3).data.toList then 3 else if l = (kn 4).data.toList then 4 else if l = (kn 5).data.toList then 5 else if l = (kn 6).data.toList then 6 else if l = (kn 7).data.toList then 7 else 0
theorem kind_hit {k c : Int} (hk : 1 ≤ k ∧ k ≤ 7) (h : kindsD.atKey (.string (kn k).data.toList) (.lit (.int .i64 0)) = .lit (.int .i64 c)) : c = k := by
  have ek : k = 1 ∨ k = 2 ∨ k = 3 ∨ k = 4 ∨ k = 5 ∨ k = 6 ∨ k = 7 := by omega
  have h2 : kindsD.atKey (.string (kn k).data.toList) (.lit (.int .i64 0)) = .lit (.int .i64 k) := by rcases ek with rfl | rfl | rfl | rfl | rfl | rfl | rfl <;> rfl
  rw [h2] at h
  injection h with h
  injection h with _ h
  exact h.symm
theorem kind_at {l : List UInt8} {c : Int} (h : kindsD.atKey (.string l) (.lit (.int .i64 0)) = .lit (.int .i64 c)) : c = kindOf l := by
  unfold kindOf
  by_cases e1 : l = (kn 1).data.toList
  · rw [if_pos e1]; rw [e1] at h; exact kind_hit (by omega) h
  rw [if_neg e1]
  by_cases e2 : l = (kn 2).data.toList
  · rw [if_pos e2]; rw [e2] at h; exact kind_hit (by omega) h
  rw [if_neg e2]
  by_cases e3 : l = (kn 3).data.toList
  · rw [if_pos e3]; rw [e3] at h; exact kind_hit (by omega) h
  rw [if_neg e3]
  by_cases e4 : l = (kn 4).data.toList
  · rw [if_pos e4]; rw [e4] at h; exact kind_hit (by omega) h
  rw [if_neg e4]
  by_cases e5 : l = (kn 5).data.toList
  · rw [if_pos e5]; rw [e5] at h; exact kind_hit (by omega) h
  rw [if_neg e5]
  by_cases e6 : l = (kn 6).data.toList
  · rw [if_pos e6]; rw [e6] at h; exact kind_hit (by omega) h
  rw [if_neg e6]
  by_cases e7 : l = (kn 7).data.toList
  · rw [if_pos e7]; rw [e7] at h; exact kind_hit (by omega) h
  rw [if_neg e7]
  have hh : Maps.has kindsD (.string l) = false := by
    rw [kindsD_eq, has_eq]
    have key : ∀ k, l ≠ (kn k).data.toList → (kl k).sameKey (.string l) = false := fun k hk => by
      cases hs : (kl k).sameKey (.string l) with
      | false => rfl
      | true => exact absurd (by have := same_key hs; unfold kl at this; injection this with this; exact this.symm) hk
    simp [key 1 e1, key 2 e2, key 3 e3, key 4 e4, key 5 e5, key 6 e6, key 7 e7]
  rw [atKey_of_not_has hh] at h
  injection h with h
  injection h with _ h
  exact h.symm
theorem kindOf_le (l : List UInt8) : 0 ≤ kindOf l ∧ kindOf l ≤ 7 := by
  unfold kindOf; repeat' split
  all_goals decide
theorem kindOf_eq {l : List UInt8} {k : Int} (h : kindOf l = k) (h1 : k ≠ 0) : l = (kn k).data.toList := by
  unfold kindOf at h
  repeat' split at h
  all_goals first | (subst h; assumption) | (exact absurd h.symm h1)
theorem kindOf_kn {k : Int} (h1 : 1 ≤ k ∧ k ≤ 7) : kindOf (kn k).data.toList = k := by
  have ek : k = 1 ∨ k = 2 ∨ k = 3 ∨ k = 4 ∨ k = 5 ∨ k = 6 ∨ k = 7 := by omega
  rcases ek with rfl | rfl | rfl | rfl | rfl | rfl | rfl <;> decide
theorem zero_kind (W : World) : (zeroValue 32).run Tryz.prog W = .ok (.int .i64 0) W := by go_simp
abbrev RV (w : World) (base : Nat) (v : Value) (b : List UInt8) : Prop := Kd.R (Kd.int .u8) 5 w base (fun _ => True) v (nb b)
theorem unq_any (q : ByteArray) (hm : q.size ≤ 100000000) (W : World) (hG : Glob W) : Calls Tryz.prog 30 #[.string q] W fun e w' => (∃ A m c is, e = .returned (.tuple #[.slice A m c, .bool is]) ∧ ((is = true ∧ ∃ os, quote os = q.data.toList ∧ RV w' W.heap.size (.slice A m c) os) ∨ (is = false ∧ ∀ b, quote b ≠ q.data.toList))) ∧ Below W.heap.size W w' := by
  refine (U.unq_calls q hm W hG).mono fun e w' ⟨hb, h⟩ => ⟨?_, hb⟩
  rcases h with ⟨v, os, rfl, hq, hv⟩ | ⟨rfl, hq⟩
  · obtain ⟨A, c, rfl⟩ := Kd.R_slice hv
    exact ⟨A, _, c, true, rfl, .inl ⟨rfl, os, hq, hv⟩⟩
  · exact ⟨none, 0, 0, false, rfl, .inr ⟨rfl, hq⟩⟩
/-- What read's calls answer of a line s: word X, rest Y, number's text Z, quoted q, number n, kind K. -/
structure Rd (s X Y Z q : ByteArray) (n K : Int) (ok : Bool) : Prop where
  cut1 : ∀ W, Glob W → Calls Tryz.prog 27 #[.string s, .string ⟨#[32]⟩] W fun e w' => (∃ z, e = .returned (.tuple #[.string X, .string Y, .bool z])) ∧ Below W.heap.size W w'
  cut2 : ∀ W, Glob W → Calls Tryz.prog 27 #[.string Y, .string ⟨#[32]⟩] W fun e w' => (∃ z, e = .returned (.tuple #[.string Z, .string q, .bool z])) ∧ Below W.heap.size W w'
  key : keyOf Tryz.prog 9 (.string X) = some (.string X.data.toList)
  kind : ∀ c : Int, kindsD.atKey (.string X.data.toList) (.lit (.int .i64 0)) = .lit (.int .i64 c) → c = K
  num : ∀ W, Glob W → Calls Tryz.prog 29 #[.string Z, .int .i64 10, .int .i64 64] W fun e w' => (∃ ev, e = .returned (.tuple #[.int .i64 n, ev]) ∧ (ok = true → ev = .nilIface) ∧ (ok = false → ∃ N, ev = .iface 121 (.pointer (some ⟨N, 0, none⟩)))) ∧ Below W.heap.size W w'
  unq : ∀ W, Glob W → Calls Tryz.prog 30 #[.string q] W fun e w' => (∃ A m c is, e = .returned (.tuple #[.slice A m c, .bool is]) ∧ ((is = true ∧ ∃ os, quote os = q.data.toList ∧ RV w' W.heap.size (.slice A m c) os) ∨ (is = false ∧ ∀ b, quote b ≠ q.data.toList))) ∧ Below W.heap.size W w'
theorem word_len (l : List UInt8) : (wordOf l).length ≤ l.length ∧ (restOf l).length ≤ l.length := by
  unfold wordOf restOf
  rcases index_at 32 l with ⟨h1, h2⟩ | ⟨i, h1, h2, h3, h4⟩
  · rw [cut_none h2]; exact ⟨Nat.le_refl _, Nat.zero_le _⟩
  · rw [h3, cut_at h4]
    simp
    omega
theorem rd_of (s : ByteArray) (hm : s.size ≤ 20000000) : Rd s (ba (wordOf s.data.toList)) (ba (restOf s.data.toList)) (ba (atOf s.data.toList)) (ba (quotedOf s.data.toList)) (piV (atOf s.data.toList)).1 (kindOf (wordOf s.data.toList)) (piV (atOf s.data.toList)).2 := by
  have hs : s.data.toList.length ≤ 20000000 := by rw [← Lib.size_eq]; exact hm
  have h1 := word_len s.data.toList
  have h2 := word_len (restOf s.data.toList)
  have e1 : atOf s.data.toList = wordOf (restOf s.data.toList) := rfl
  have e2 : quotedOf s.data.toList = restOf (restOf s.data.toList) := rfl
  have z1 : (ba (restOf s.data.toList)).size ≤ 20000000 := by rw [ba_size]; omega
  have z2 : (ba (atOf s.data.toList)).size ≤ 20000000 := by rw [ba_size, e1]; omega
  have z3 : (ba (quotedOf s.data.toList)).size ≤ 100000000 := by rw [ba_size, e2]; omega
  exact ⟨fun W hW => cut_calls s hm W hW, fun W hW => cut_calls _ z1 W hW, Go.WideMaps.keyOf_string_mk Tryz.underlying9 (by rw [ba_size]; unfold maxLen; omega), fun c h => kind_at h, fun W hW => int_calls _ z2 W hW, fun W hW => unq_any _ z3 W hW⟩
theorem RV.byt {w : World} {base : Nat} {v : Value} {b : List UInt8} (h : RV w base v b) : Byt w v b := by
  obtain ⟨A, c, e, hc, hr⟩ := Kd.R_reads h
  rw [nb_length] at e hc
  exact ⟨A, c, e, hc, by have := Kd.reads_of_C (d := (0 : Int)) hr; rwa [nb_length] at this⟩
theorem RV.set {w : World} {base g : Nat} {v : Value} {b : List UInt8} {cs : Array Value} (h : RV w base v b) (hg : w.heap[g]? = some (.cells cs 35 (0, 0))) (j : Nat) (u : Value) : RV (w.setCell ⟨g, j, none⟩ u) base v b :=
  Kd.R_set h hg (by intro q hq; simp [Kd.int, Kd.scalar] at hq; subst hq; decide) j u
/-- A line that is no entry's: what comes is not looked at. -/
def Bad (e : Ending) : Prop := ∃ (k a n : Int) (A : Option Addr) (m c b : Nat), e = .returned (.tuple #[.agg #[.int .i64 k, .int .i64 a, .int .i64 n, .slice A m c], .iface 45 (.pointer (some ⟨b, 0, none⟩))])
/-- What read leaves: the entry, or nothing (and then there is none among those of P). -/
def Post (s : ByteArray) (w : World) (P : En → Prop) (e : Ending) (w' : World) : Prop :=
  Below w.heap.size w w' ∧ ((∃ en v, e = .returned (.tuple #[en.val v, .nilIface]) ∧ RV w' w.heap.size v en.b ∧ MayE en ∧ lineL en = s.data.toList) ∨ (Bad e ∧ ∀ en, P en → MayE en → lineL en ≠ s.data.toList))
/-- read's own two blocks: the result's at g (still zero), the entry's at p. -/
structure St (w0 w : World) (g p : Nat) (k a n : Int) (v : Value) (b : List UInt8) (base : Nat) : Prop where
  lt : g < p
  hg : g = w0.heap.size
  P : w.heap[p]? = some (.cells #[.int .i64 k, .int .i64 a, .int .i64 n, v] 35 (0, 0))
  Q : w.heap[g]? = some (.cells #[.int .i64 0, .int .i64 0, .int .i64 0, .slice none 0 0] 35 (0, 0))
  B : Below g w0 w
  V : RV w base v b
variable {w0 w w1 : World} {g p : Nat} {k a n : Int} {v : Value} {b : List UInt8} {base : Nat}
theorem St.below (h : St w0 w g p k a n v b base) (hb : Below w.heap.size w w1) : St w0 w1 g p k a n v b base :=
  ⟨h.lt, h.hg, blk_below h.P hb, blk_below h.Q hb, h.B.trans (hb.mono (Nat.le_of_lt (blk_lt h.Q))), Kd.R_below h.V hb⟩
theorem St.far (h : St w0 w g p k a n v b base) : g ≠ p := Nat.ne_of_lt h.lt
theorem St.set1 (h : St w0 w g p k a n v b base) (x : Int) : St w0 (w.setCell ⟨p, 1, none⟩ (.int .i64 x)) g p k x n v b base :=
  ⟨h.lt, h.hg, blk_put h.P 1 _ rfl, blk_far h.Q (p := ⟨p, 1, none⟩) h.far _, h.B.setCell (p := ⟨p, 1, none⟩) (Nat.le_of_lt h.lt) _, h.V.set h.P 1 _⟩
theorem St.set2 (h : St w0 w g p k a n v b base) (x : Int) : St w0 (w.setCell ⟨p, 2, none⟩ (.int .i64 x)) g p k a x v b base :=
  ⟨h.lt, h.hg, blk_put h.P 2 _ rfl, blk_far h.Q (p := ⟨p, 2, none⟩) h.far _, h.B.setCell (p := ⟨p, 2, none⟩) (Nat.le_of_lt h.lt) _, h.V.set h.P 2 _⟩
theorem St.set3 (h : St w0 w g p k a n v b base) {v' : Value} {b' : List UInt8} {base' : Nat} (hv : RV w base' v' b') : St w0 (w.setCell ⟨p, 3, none⟩ v') g p k a n v' b' base' :=
  ⟨h.lt, h.hg, blk_put h.P 3 _ rfl, blk_far h.Q (p := ⟨p, 3, none⟩) h.far _, h.B.setCell (p := ⟨p, 3, none⟩) (Nat.le_of_lt h.lt) _, hv.set h.P 3 _⟩
theorem St.c0 (h : St w0 w g p k a n v b base) : w.cell? ⟨p, 0, none⟩ = some (.int .i64 k) := (blk_cell h.P 0).trans rfl
theorem St.c1 (h : St w0 w g p k a n v b base) : w.cell? ⟨p, 1, none⟩ = some (.int .i64 a) := (blk_cell h.P 1).trans rfl
theorem St.c2 (h : St w0 w g p k a n v b base) : w.cell? ⟨p, 2, none⟩ = some (.int .i64 n) := (blk_cell h.P 2).trans rfl
theorem St.c3 (h : St w0 w g p k a n v b base) : w.cell? ⟨p, 3, none⟩ = some v := (blk_cell h.P 3).trans rfl
theorem St.d0 (h : St w0 w g p k a n v b base) : w.cell? ⟨g, 0, none⟩ = some (.int .i64 0) := (blk_cell h.Q 0).trans rfl
theorem St.d1 (h : St w0 w g p k a n v b base) : w.cell? ⟨g, 1, none⟩ = some (.int .i64 0) := (blk_cell h.Q 1).trans rfl
theorem St.d2 (h : St w0 w g p k a n v b base) : w.cell? ⟨g, 2, none⟩ = some (.int .i64 0) := (blk_cell h.Q 2).trans rfl
theorem St.d3 (h : St w0 w g p k a n v b base) : w.cell? ⟨g, 3, none⟩ = some (.slice none 0 0) := (blk_cell h.Q 3).trans rfl
theorem St.fp (h : St w0 w g p k a n v b base) (i : Nat) : w.frozen? ⟨p, i, none⟩ = false := blk_frozen h.P i
theorem St.fg (h : St w0 w g p k a n v b base) (i : Nat) : w.frozen? ⟨g, i, none⟩ = false := blk_frozen h.Q i
theorem St.glob (h : St w0 w g p k a n v b base) (hG : Glob w0) : Glob w := hG.low h.hg h.B
theorem St.may_t (h : St w0 w g p k a n v b base) (hm : MayE ⟨k, a, n, b⟩) : Calls Tryz.prog 10 #[.agg #[.int .i64 k, .int .i64 a, .int .i64 n, v]] w fun x w' => x = .returned (.bool true) ∧ Below w.heap.size w w' := T.may_t ⟨k, a, n, b⟩ v w h.V.byt hm
theorem St.may_f (h : St w0 w g p k a n v b base) (hm : ¬ MayE ⟨k, a, n, b⟩) : Calls Tryz.prog 10 #[.agg #[.int .i64 k, .int .i64 a, .int .i64 n, v]] w fun x w' => x = .returned (.bool false) ∧ Below w.heap.size w w' := T.may_f ⟨k, a, n, b⟩ v w h.V.byt hm
theorem St.line (h : St w0 w g p k a n v b base) (hG : Glob w0) (hm : MayE ⟨k, a, n, b⟩) (D : ByteArray) (hD : D = ba (lineL ⟨k, a, n, b⟩)) : Calls Tryz.prog 21 #[.agg #[.int .i64 k, .int .i64 a, .int .i64 n, v]] w fun x w' => x = .returned (.string D) ∧ Below w.heap.size w w' := hD ▸ line_calls ⟨k, a, n, b⟩ v w (h.glob hG) hm h.V.byt
theorem results_ct9 {P : Program} {fn : Func} {p t : Tmp} {ty : TypeId} (h : fn.results = #[.cell p ty, .tmp t]) (tmps : Array Value) (w : World) (g : Nat) (tt : TypeId) (cs : Array Value) (fr : Nat × Nat) (d : TypeDesc)
    (hp : tmps.getD p undef = .pointer (some ⟨g, 0, none⟩)) (hg : w.heap[g]? = some (.cells cs tt fr))
    (hu : P.underlying ty = some d) (hd : (match d with | .struct _ | .array _ _ => true | _ => false) = true) (hi : (P.info? ty).map (·.size) = some cs.size) :
    (results fn tmps).run P w = .ok (.tuple #[.agg cs, tmps.getD t undef]) w := by
  have hp' : tmps[p]?.getD undef = .pointer (some ⟨g, 0, none⟩) := by simpa using hp
  simp [results, h, hp', asAddr, run_loadVar_row w g tt ty cs fr d hg hu hd hi]
/-- The result's block, filled. -/
theorem St.full (h : St w0 w g p k a n v b base) : ((((w.setCell ⟨g, 0, none⟩ (.int .i64 k)).setCell ⟨g, 1, none⟩ (.int .i64 a)).setCell ⟨g, 2, none⟩ (.int .i64 n)).setCell ⟨g, 3, none⟩ v).heap[g]? = some (.cells #[.int .i64 k, .int .i64 a, .int .i64 n, v] 35 (0, 0)) :=
  blk_put (blk_put (blk_put (blk_put h.Q 0 _ rfl) 1 _ rfl) 2 _ rfl) 3 _ rfl
theorem St.ret (h : St w0 w g p k a n v b base) : Below w0.heap.size w0 ((((w.setCell ⟨g, 0, none⟩ (.int .i64 k)).setCell ⟨g, 1, none⟩ (.int .i64 a)).setCell ⟨g, 2, none⟩ (.int .i64 n)).setCell ⟨g, 3, none⟩ v) ∧ RV ((((w.setCell ⟨g, 0, none⟩ (.int .i64 k)).setCell ⟨g, 1, none⟩ (.int .i64 a)).setCell ⟨g, 2, none⟩ (.int .i64 n)).setCell ⟨g, 3, none⟩ v) base v b := by
  have h1 := blk_put h.Q 0 (.int .i64 k) rfl
  have h2 := blk_put h1 1 (.int .i64 a) rfl
  have h3 := blk_put h2 2 (.int .i64 n) rfl
  refine ⟨?_, (((h.V.set h.Q 0 _).set h1 1 _).set h2 2 _).set h3 3 _⟩
  rw [← h.hg]
  exact (((h.B.setCell (p := ⟨g, 0, none⟩) (Nat.le_refl _) _).setCell (p := ⟨g, 1, none⟩) (Nat.le_refl _) _).setCell (p := ⟨g, 2, none⟩) (Nat.le_refl _) _).setCell (p := ⟨g, 3, none⟩) (Nat.le_refl _) _
end Go.Proofs.YtjapnbghnnbamaaGreatDoor.Rq
