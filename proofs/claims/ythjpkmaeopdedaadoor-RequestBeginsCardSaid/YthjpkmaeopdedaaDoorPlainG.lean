/- Plain laws of the request seat: how many bytes stand ahead that are whole requests. -/
import Derived.Test.YthjpkmaeopdedaaDoorPlainF
namespace Go.Proofs.YthjpkmaeopdedaaDoor.Plain
open Go.RowKit Go.Proofs.YthjpkmaeopdedaaDoor.PR Go.Proofs.YthjpkmaeopdedaaDoor.Ext Go.Proofs.YthjpkmaeopdedaaDoorW.PrintWords

/-- From a place on, whole requests stand up to another one. -/
inductive UpTo (b : List UInt8) : Nat → Nat → Prop where
  | stop (i : Nat) : R (b.drop i) noReq → UpTo b i i
  | step (i n m : Nat) (h p : ByteArray) : R (b.drop i) (h, p, (n : Int)) → 0 < n → i + n ≤ b.length → UpTo b (i + n) m → UpTo b i m

theorem R_cases {b : List UInt8} {r : ByteArray × ByteArray × Int} (h : R b r) : r = noReq ∨ ∃ h p n, r = (h, p, ((n : Nat) : Int)) ∧ 0 < n ∧ n ≤ b.length := by
  rcases h with ⟨x, y, hx, rfl⟩ | ⟨_, rfl⟩
  · right
    exact ⟨x, y, _, rfl, text_pos _ _, ((prefix_iff _ _).1 hx.pre).1⟩
  · exact .inl rfl

theorem upTo_exists (b : List UInt8) (hb : b.length ≤ 100000000) : ∀ d i, i ≤ b.length → b.length - i ≤ d → ∃ m, UpTo b i m ∧ m ≤ b.length := by
  intro d
  induction d with
  | zero =>
    intro i hi hd
    obtain ⟨r, _, hr⟩ := prog_R (b.drop i) (by rw [List.length_drop]; omega)
    rcases R_cases hr with rfl | ⟨h, p, n, rfl, h1, h2⟩
    · exact ⟨i, .stop i hr, hi⟩
    · rw [List.length_drop] at h2; omega
  | succ d ih =>
    intro i hi hd
    obtain ⟨r, _, hr⟩ := prog_R (b.drop i) (by rw [List.length_drop]; omega)
    rcases R_cases hr with rfl | ⟨h, p, n, rfl, h1, h2⟩
    · exact ⟨i, .stop i hr, hi⟩
    · rw [List.length_drop] at h2
      obtain ⟨m, h3, h4⟩ := ih (i + n) (by omega) (by omega)
      exact ⟨m, .step i n m h p hr h1 (by omega) h3, h4⟩

theorem ahead_from (b : List UInt8) (hb : b.length ≤ 100000000) (i m : Nat) (h : UpTo b i m) (hi : i ≤ b.length) : Ev (fun k => request_Ahead.l0 k (numsL b) (i : Int)) (m : Int) := by
  induction h with
  | stop i hr =>
    obtain ⟨r, he, hr'⟩ := prog_R (b.drop i) (by rw [List.length_drop]; omega)
    obtain rfl := R_unique hr' hr
    refine Ev.step (f := fun k => (request_first.f k (numsL (b.drop i))).bind fun t => if t.2.2 = 0 then some (i : Int) else request_Ahead.l0 k (numsL b) (wrap64 ((i : Int) + t.2.2))) (fun k => ?_) (Ev.bind he ?_)
    · simp only [request_Ahead.l0]
      rw [if_pos (by omega), if_pos (by rw [numsL_length]; omega), Int.toNat_natCast, numsL_drop]
    · simp only [noReq, if_true]
      exact Ev.now _
  | step i n m x y hr h1 h2 _ ih =>
    obtain ⟨r, he, hr'⟩ := prog_R (b.drop i) (by rw [List.length_drop]; omega)
    obtain rfl := R_unique hr' hr
    refine Ev.step (f := fun k => (request_first.f k (numsL (b.drop i))).bind fun t => if t.2.2 = 0 then some (i : Int) else request_Ahead.l0 k (numsL b) (wrap64 ((i : Int) + t.2.2))) (fun k => ?_) (Ev.bind he ?_)
    · simp only [request_Ahead.l0]
      rw [if_pos (by omega), if_pos (by rw [numsL_length]; omega), Int.toNat_natCast, numsL_drop]
    · have e : ¬ (n : Int) = 0 := by omega
      simp only [if_neg e]
      rw [wrap_small _ (by omega) (by omega)]
      have := ih h2
      rwa [Int.natCast_add] at this

theorem ahead_prog (b : List UInt8) (hb : b.length ≤ 100000000) (m : Nat) (h : UpTo b 0 m) : Ev (fun k => request_Ahead.f k (numsL b)) (m : Int) :=
  ahead_from b hb 0 m h (Nat.zero_le _)

theorem upTo_text (h p : ByteArray) (hh : mayHost (L h) = true) (hp : mayPath (L p) = true) (t : List UInt8) (ht : R t noReq) : UpTo (text (L h) (L p) ++ t) 0 (text (L h) (L p)).length := by
  have hr : R (text (L h) (L p) ++ t) (h, p, ((text (L h) (L p)).length : Int)) := .inl ⟨h, p, ⟨hh, hp, ⟨t, rfl⟩⟩, rfl⟩
  refine .step 0 _ _ h p (by rw [List.drop_zero]; exact hr) (text_pos _ _) (by rw [List.length_append]; omega) ?_
  rw [Nat.zero_add]
  refine .stop _ ?_
  rw [List.drop_left' rfl]
  exact ht

/-- What is shorter than a request that it begins is none. -/
theorem begins_none (h p : List UInt8) (hh : mayHost h = true) (hp : mayPath p = true) (n : Nat) (hn : n < (text h p).length) : R ((text h p).take n) noReq := by
  refine .inr ⟨fun h' p' hr => ?_, rfl⟩
  have hr1 : IsReq (text h p) h' p' := ⟨hr.host, hr.path, hr.pre.trans (List.take_prefix _ _)⟩
  have hr2 : IsReq (text h p) h p := ⟨hh, hp, List.prefix_refl _⟩
  obtain ⟨rfl, rfl⟩ := req_unique _ _ _ _ _ hr1 hr2
  have := ((prefix_iff _ _).1 hr.pre).1
  rw [List.length_take] at this
  omega
theorem nil_none : R [] noReq := by
  refine .inr ⟨fun h p hr => ?_, rfl⟩
  have h1 := ((prefix_iff _ _).1 hr.pre).1
  have h2 := text_pos h p
  rw [List.length_nil] at h1
  omega
end Go.Proofs.YthjpkmaeopdedaaDoor.Plain
