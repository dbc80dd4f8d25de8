/- The reference's sink in memory. -/
import Derived.Test.YtpihpkphhkcdlaaGreatDoorKn
import Derived.Test.YtpihpkphhkcdlaaGreatDoorRi
namespace Go.Proofs.YtpihpkphhkcdlaaGreatDoor.Wk
open Go.RowKit Go.Maps Go.Proofs.YtpihpkphhkcdlaaGreatDoorW.PrintWords Go.Proofs.YtpihpkphhkcdlaaGreatDoorW.PrintLast Go.Proofs.YtpihpkphhkcdlaaGreatDoor.Tab Go.Proofs.YtpihpkphhkcdlaaGreatDoor.Kp Go.Proofs.YtpihpkphhkcdlaaGreatDoor.Pd Go.Proofs.YtpihpkphhkcdlaaGreatDoor.Fr Go.Proofs.YtpihpkphhkcdlaaGreatDoor.May Go.Proofs.YtpihpkphhkcdlaaGreatDoor.De Go.Proofs.YtpihpkphhkcdlaaGreatDoor.Sk Go.Proofs.YtpihpkphhkcdlaaGreatDoor.Eq Go.Proofs.YtpihpkphhkcdlaaGreatDoor.Lk Go.Proofs.YtpihpkphhkcdlaaGreatDoor.Bf
set_option linter.unusedVariables false
set_option linter.unusedSimpArgs false
/-- A kept frame, its bytes, and where its records lie. -/
abbrev KP := (Frm × List UInt8) × Option Addr × Nat
abbrev strB (b : List UInt8) : ByteArray := ⟨b.toArray⟩
def keptC (p : KP) : List Value := [.int .u64 (p.1.1.seq : Nat), .int .i64 p.1.1.win, .slice p.2.1 p.1.1.recs.length p.2.2, .string (strB p.1.2)]
def cellsK (P : List KP) : List Value := P.flatMap keptC
theorem cellsK_cons (p : KP) (P : List KP) : cellsK (p :: P) = keptC p ++ cellsK P := rfl
theorem cellsK_app (P Q : List KP) : cellsK (P ++ Q) = cellsK P ++ cellsK Q := by unfold cellsK; rw [List.flatMap_append]
theorem cellsK_len : ∀ P : List KP, (cellsK P).length = P.length * 4
  | [] => rfl
  | p :: P => by rw [cellsK_cons, List.length_append, cellsK_len P, List.length_cons]; simp [keptC]; omega
theorem cellsK_at : ∀ (P : List KP) (i k : Nat) (hi : i < P.length), k < 4 → (cellsK P)[i * 4 + k]? = (keptC P[i])[k]?
  | p :: P, 0, k, _, hk => by
    rw [cellsK_cons, Nat.zero_mul, Nat.zero_add, List.getElem?_append_left (by simp [keptC]; omega)]
    rfl
  | p :: P, i + 1, k, hi, hk => by
    rw [cellsK_cons, List.getElem?_append_right (by simp [keptC]; omega)]
    have : (i + 1) * 4 + k - (keptC p).length = i * 4 + k := by simp [keptC]; omega
    rw [this, cellsK_at P i k (by simpa using hi) hk]
    rfl
theorem cellsK_one (P : List KP) : ∀ u ∈ cellsK P, u.oneCell' = true := by
  intro u hu
  unfold cellsK at hu
  obtain ⟨p, _, hp⟩ := List.mem_flatMap.1 hu
  simp [keptC] at hp
  rcases hp with rfl | rfl | rfl | rfl <;> rfl
theorem cellsK_take (P : List KP) (m : Nat) (hm : m ≤ P.length) (j : Nat) (u : Value) (h : (cellsK (P.take m))[j]? = some u) : (cellsK P)[j]? = some u := by
  have e : cellsK P = cellsK (P.take m) ++ cellsK (P.drop m) := by rw [← cellsK_app, List.take_append_drop]
  have hj := (List.getElem?_eq_some_iff.1 h).1
  rw [e, List.getElem?_append_left hj, h]
theorem cellsK_drop (P : List KP) (m : Nat) (hm : m ≤ P.length) (j : Nat) (u : Value) (h : (cellsK (P.drop m))[j]? = some u) : (cellsK P)[m * 4 + j]? = some u := by
  have e : cellsK P = cellsK (P.take m) ++ cellsK (P.drop m) := by rw [← cellsK_app, List.take_append_drop]
  have hl : (cellsK (P.take m)).length = m * 4 := by rw [cellsK_len, List.length_take]; congr 1; omega
  rw [e, List.getElem?_append_right (by omega), hl, show m * 4 + j - m * 4 = j by omega, h]
def RowK (w : World) (lo : Nat) (A : Option Addr) (c : Nat) (P : List KP) : Prop :=
  (A = none ∧ c = 0 ∧ P = []) ∨ ∃ gr, A = some ⟨gr, 0, none⟩ ∧ lo ≤ gr ∧ gr < w.heap.size ∧ P.length ≤ c ∧ ∀ j u, (cellsK P)[j]? = some u → w.cell? ⟨gr, j, none⟩ = some u
def AllR (w : World) (lo : Nat) (P : List KP) : Prop := ∀ p ∈ P, p.1.1.recs.length ≤ p.2.2 ∧ RecsAt w p.2.1 p.1.1.win p.1.1.recs ∧ (∀ ad, p.2.1 = some ad → 0 < p.1.1.recs.length → lo ≤ ad.block)
def wC (A : Option Addr) (n c : Nat) (N : List Int) : Array Value := #[.slice A n c, .int .i64 (N.getD 0 0), .int .i64 (N.getD 1 0), .int .i64 (N.getD 2 0), .int .i64 (N.getD 3 0), .int .i64 (N.getD 4 0), .int .i64 (N.getD 5 0)]
structure IsW (w : World) (g lo : Nat) (A : Option Addr) (c : Nat) (N : List Int) (P : List KP) : Prop where
  blk : w.heap[g]? = some (.cells (wC A P.length c N) 38 (0, 0))
  row : RowK w lo A c P
  all : AllR w lo P
  low : g < lo
theorem cell_keep {F : Nat → Prop} {w W : World} {ad : Addr} {v : Value} (h : w.cell? ad = some v) (k : Keep F w W) (hF : ¬ F ad.block) : W.cell? ad = some v := by
  have hl := World.block_lt_of_cell? w _ h
  unfold World.cell? at *
  rw [k.block _ hl hF]
  exact h
theorem RowK.keep {F : Nat → Prop} {w W : World} {lo : Nat} {A : Option Addr} {c : Nat} {P : List KP} (h : RowK w lo A c P) (k : Keep F w W) (hF : ∀ j, lo ≤ j → ¬ F j) : RowK W lo A c P := by
  rcases h with h | ⟨gr, e, h1, h2, h3, h4⟩
  · exact .inl h
  · exact .inr ⟨gr, e, h1, Nat.lt_of_lt_of_le h2 k.size, h3, fun j u hu => cell_keep (h4 j u hu) k (hF gr h1)⟩
theorem AllR.keep {F : Nat → Prop} {w W : World} {lo : Nat} {P : List KP} (h : AllR w lo P) (k : Keep F w W) (hF : ∀ j, lo ≤ j → ¬ F j) : AllR W lo P := fun p hp => by
  obtain ⟨h1, h2, h3⟩ := h p hp
  exact ⟨h1, RecsAt.keep h2 k fun ad e hn => hF _ (h3 ad e hn), h3⟩
theorem IsW.keep {F : Nat → Prop} {w W : World} {g lo : Nat} {A : Option Addr} {c : Nat} {N : List Int} {P : List KP} (h : IsW w g lo A c N P) (k : Keep F w W) (hg : ¬ F g) (hF : ∀ j, lo ≤ j → ¬ F j) : IsW W g lo A c N P :=
  ⟨k.blk h.blk hg, h.row.keep k hF, h.all.keep k hF, h.low⟩
theorem IsW.below {w W : World} {g lo : Nat} {A : Option Addr} {c : Nat} {N : List Int} {P : List KP} (h : IsW w g lo A c N P) (k : Below w.heap.size w W) : IsW W g lo A c N P := h.keep (Keep.of_below (F := fun _ => False) k) id fun _ _ => id
theorem info48 : (Tryz.prog.info? 48).map (fun i => (i.zero, i.size, i.bytes)) = some (some (.agg #[.int .u64 0, .int .i64 0, .slice none 0 0, .string ⟨#[]⟩]), 4, 56) := by kernel_rfl
theorem elem35 : Tryz.prog.elem 35 = 48 := by kernel_rfl
theorem slice_to (A : Option Addr) (n c m : Nat) (hm : m ≤ c) (W : World) : (Instr.slice 35 (.slice A n c) none (some (.int .i64 (m : Int))) none).run Tryz.prog W = .ok (.slice A m c) W := by
  obtain ⟨i, hi, hs⟩ := Option.map_eq_some_iff.1 info48
  simp only [Prod.mk.injEq] at hs
  have hu : Tryz.prog.underlying 35 = some (.slice (Tryz.prog.elem 35)) := by rw [elem35]; exact Tryz.underlying35
  have ha : (A.map fun x => x.add 0) = A := by cases A <;> simp [Addr.add]
  rw [run_slice_h W 35 A n c hu .i64 (m : Int) (Int.natCast_nonneg _) (by omega), elem35]
  simp [sizeOf, typeInfo, hi, hs.2.1, sliced, Result.andThen, ha]
theorem slice_from (A : Option Addr) (n c m : Nat) (hm : m ≤ n) (W : World) : (Instr.slice 35 (.slice A n c) (some (.int .i64 (m : Int))) none none).run Tryz.prog W = .ok (.slice (if c = m then A else A.map (·.add (m * 4))) (n - m) (c - m)) W := by
  obtain ⟨i, hi, hs⟩ := Option.map_eq_some_iff.1 info48
  simp only [Prod.mk.injEq] at hs
  have hu : Tryz.prog.underlying 35 = some (.slice (Tryz.prog.elem 35)) := by rw [elem35]; exact Tryz.underlying35
  rw [run_slice_l W 35 A n c hu .i64 (m : Int) (Int.natCast_nonneg _) (by omega), elem35]
  simp [sizeOf, typeInfo, hi, hs.2.1, sliced, Result.andThen]
/-- An append of a row of kept frames. -/
theorem app_row {w : World} (base : Nat) (v : Value) (n : Nat) (xs : List Value) (hown : w.ownsRow base 48 4 v n xs) (hb : base ≤ w.heap.size) (A : Option Addr) (m c : Nat) (news : List Value) (hl : news.length = m * 4) (hA : A = none → m = 0 ∧ c = 0)
    (hc : ∀ ad, A = some ad → ∀ j u, news[j]? = some u → w.cell? (ad.add j) = some u) (h1 : ∀ u ∈ news, u.oneCell' = true) (hs : n + m ≤ 1000000) (ty : TypeId) :
    ∃ v' w', (Builtin.append_ #[35, 35] ty #[v, .slice A m c]).run Tryz.prog w = .ok v' w' ∧ w'.ownsRow base 48 4 v' (n + m) (xs ++ news) ∧ w.grownBy w' v.ownBlock := by
  obtain ⟨i0, hi, hzz⟩ := Option.map_eq_some_iff.1 info48
  simp only [Prod.mk.injEq] at hzz
  obtain ⟨hz0, hz1, hz2⟩ := hzz
  cases A with
  | none =>
    obtain ⟨rfl, rfl⟩ := hA rfl
    have : news = [] := List.eq_nil_of_length_eq_zero (by omega)
    subst this
    refine ⟨v, w, run_append_owned_none w base _ _ _ i0 4 Tryz.underlying35 hi v n xs hown, by simpa using hown, ⟨rfl, rfl, rfl, Nat.le_refl _, fun _ _ _ => rfl⟩⟩
  | some ad =>
    obtain ⟨v1, w1, h2, h3, h4, _⟩ := run_append_own (P := Tryz.prog) (w := w) base 35 ty 48 i0 _ 4 56 Tryz.underlying35 hi hz0 hz1 hz2 rfl (by decide) v n xs hown ad m c news hl (hc ad rfl) h1 (by unfold maxLen; omega) (by omega) hb
    exact ⟨v1, w1, h2, h3, h4⟩
end Go.Proofs.YtpihpkphhkcdlaaGreatDoor.Wk
