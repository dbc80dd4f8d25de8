/- A size line made by the law's hex is read as its number: no program in sight but body.number's plain form. -/
import Derived.Test.YtfpcoanlkfgagaaDoorDecS
import Derived.Test.YtfpcoanlkfgagaaDoorDecX
import Derived.Lib.IndexBytes
namespace Go.Proofs.YtfpcoanlkfgagaaDoor.DecH
open Go.RowKit Go.Proofs.YtfpcoanlkfgagaaDoorW.PrintWords Go.Proofs.YtfpcoanlkfgagaaDoor.Ext Go.Proofs.YtfpcoanlkfgagaaDoor.Dec Go.Proofs.YtfpcoanlkfgagaaDoor.DecN Go.Proofs.YtfpcoanlkfgagaaDoor.DecS
abbrev U (x : Int) : UInt8 := UInt8.ofNat x.toNat
theorem dig_hexv : ∀ d : Fin 16, hexv (U (hexdig d.val)) = some d.val := by decide +kernel
theorem dig_set : ∀ d : Fin 16, hexset.contains (U (hexdig d.val)) = true := by decide +kernel
theorem set_ne : ∀ c : Fin 256, hexset.contains (UInt8.ofNat c.val) = true → UInt8.ofNat c.val ≠ 59 ∧ List.contains [32, 9] (UInt8.ofNat c.val) = false := by decide +kernel
theorem set_ne' (c : UInt8) (h : hexset.contains c = true) : c ≠ 59 ∧ List.contains [32, 9] c = false := by
  have := set_ne ⟨c.toNat, c.toNat_lt⟩
  simp only [UInt8.ofNat_toNat] at this
  exact this h
theorem hexF_set (f n : Nat) : ∀ c ∈ (hexF f n).map U, hexset.contains c = true := by
  induction f generalizing n with
  | zero => simp [hexF]
  | succ f ih =>
    intro c hc
    unfold hexF at hc
    rw [List.map_append] at hc
    rcases List.mem_append.1 hc with hc | hc
    · by_cases h : n < 16
      · simp [h] at hc
      · rw [if_neg h] at hc; exact ih _ c hc
    · rw [List.map_cons, List.map_nil, List.mem_singleton] at hc
      rw [hc]
      exact dig_set ⟨n % 16, Nat.mod_lt _ (by decide)⟩
theorem hexval_snoc : ∀ (l : List UInt8) (acc a d : Nat) (c : UInt8), hexval acc l = some a → hexv c = some d → hexval acc (l ++ [c]) = some (a * 16 + d)
  | [], acc, a, d, c, h, hc => by
    obtain rfl := Option.some.inj h
    simp [hexval, hc]
  | x :: l, acc, a, d, c, h, hc => by
    cases hx : hexv x with
    | none => simp [hexval, hx] at h
    | some y =>
      simp only [hexval, hx] at h
      simp only [List.cons_append, hexval, hx]
      exact hexval_snoc l _ a d c h hc
theorem hexval_F : ∀ (f n : Nat), n < 16 ^ (f + 1) → hexval 0 ((hexF (f + 1) n).map U) = some n
  | f, n, hn => by
    have hd := dig_hexv ⟨n % 16, Nat.mod_lt _ (by decide)⟩
    simp only at hd
    rw [DecX.hexF_succ, List.map_append, List.map_cons, List.map_nil]
    by_cases h : n < 16
    · rw [if_pos h, List.map_nil, hexval_snoc [] 0 0 _ _ rfl hd]
      congr 1
      omega
    · rw [if_neg h]
      cases f with
      | zero => simp at hn; omega
      | succ f =>
        have hi := hexval_F f (n / 16) (by rw [Nat.pow_succ] at hn; omega)
        rw [hexval_snoc _ 0 _ _ _ hi hd]
        congr 1
        omega
theorem hexF_pos (f n : Nat) : 1 ≤ (hexF (f + 1) n).length := by rw [DecX.hexF_succ]; simp
theorem drop_all (p : UInt8 → Bool) : ∀ (l : List UInt8), (∀ c ∈ l, p c = true) → l.dropWhile p = []
  | [], _ => rfl
  | x :: l, h => by
    rw [List.dropWhile_cons, if_pos (h x (List.mem_cons_self ..))]
    exact drop_all p l fun c hc => h c (List.mem_cons_of_mem _ hc)
theorem drop_no (p : UInt8 → Bool) (l : List UInt8) (h : ∀ c ∈ l, p c = false) : l.dropWhile p = l := by
  cases l with
  | nil => rfl
  | cons x l => rw [List.dropWhile_cons, if_neg (by rw [h x (List.mem_cons_self ..)]; decide)]
theorem num_hex (n : Nat) (_h1 : 1 ≤ n) (h2 : n ≤ 5000) : num (hexL n ++ [13, 10]) = some ((n : Int), true) := by
  obtain ⟨H, hH⟩ : ∃ H, H = (hexL n).map U := ⟨_, rfl⟩
  have hset : ∀ c ∈ H, hexset.contains c = true := by rw [hH]; exact hexF_set 4 n
  have hlen : 1 ≤ H.length ∧ H.length ≤ 4 := by
    rw [hH, List.length_map]
    exact ⟨hexF_pos 3 n, hexF_len 4 n⟩
  have hval : hexval 0 H = some n := by rw [hH]; exact hexval_F 3 n (by omega)
  have hs : strOfNums (hexL n ++ [13, 10]) = ⟨(H ++ [13, 10]).toArray⟩ := by
    unfold strOfNums
    rw [hH, List.map_append]
    rfl
  have hsz : (strOfNums (hexL n ++ [13, 10])).size < 4294967281 := by
    rw [hs, toSize, List.length_append]
    simp only [List.length_cons, List.length_nil]
    omega
  have e1 : Lib.hasSuffix (strOfNums (hexL n ++ [13, 10])).data.toList [13, 10] = true := by
    rw [hs]
    unfold Lib.hasSuffix
    rw [List.isSuffixOf_iff_suffix]
    exact ⟨H, by simp⟩
  have e2 : lineS (strOfNums (hexL n ++ [13, 10])) = H := by
    unfold lineS Lib.trimSuffix
    rw [if_pos e1, hs]
    simp
  have e3 : Lib.index H [59] = -1 := by
    apply Lib.index_none
    intro j _
    unfold Lib.occAt
    cases hd : H.drop j with
    | nil => rfl
    | cons x l =>
      have hx : x ∈ H := List.mem_of_mem_drop (hd ▸ List.mem_cons_self ..)
      have := (set_ne' x (hset x hx)).1
      simp [List.isPrefixOf, Ne.symm this]
  have e4 : Lib.cut H [59] = (H, [], false) := by
    unfold Lib.cut
    rw [e3, if_neg (by decide)]
  have e5 : signS (strOfNums (hexL n ++ [13, 10])) = H := by
    unfold signS Lib.trimRightS
    rw [e2, e4]
    rw [drop_no _ _ (fun c hc => (set_ne' c (hset c (List.mem_reverse.1 hc))).2)]
    simp
  have e6 : Lib.trimS H hexset = [] := by
    unfold Lib.trimS Lib.trimRightS Lib.trimLeftS
    rw [drop_all _ _ (fun c hc => hset c (List.mem_reverse.1 hc))]
    rfl
  unfold num numF
  rw [if_pos hsz, e1, if_neg (by decide), e2, e4, if_neg (by simp), e5]
  unfold digits
  rw [if_neg (by omega), if_neg (by omega), if_neg (by rw [e6]; simp), hval]
  rfl
end Go.Proofs.YtfpcoanlkfgagaaDoor.DecH
