/- Plain laws of the request seat: a request's text, and where its end is found. -/
import Derived.Test.YthjpkmaeopdedaaDoorPlainA
import Derived.Lib.SplitLaws
namespace Go.Proofs.YthjpkmaeopdedaaDoor.Plain
open Go.RowKit Go.Proofs.YthjpkmaeopdedaaDoor.PR Go.Proofs.YthjpkmaeopdedaaDoor.Ext Go.Proofs.YthjpkmaeopdedaaDoorW.PrintWords

def tG : List UInt8 := [71, 69, 84, 32]
def tV : List UInt8 := [32, 72, 84, 84, 80, 47, 49, 46, 49]
def tH : List UInt8 := [72, 111, 115, 116, 58, 32]
def tU : List UInt8 := [85, 115, 101, 114, 45, 65, 103, 101, 110, 116, 58, 32, 111, 100, 111, 109, 101, 116, 101, 114]
def tA : List UInt8 := [65, 99, 99, 101, 112, 116, 58, 32, 116, 101, 120, 116, 47, 112, 108, 97, 105, 110, 59, 118, 101, 114, 115, 105, 111, 110, 61, 48, 46, 48, 46, 52]
def tC : List UInt8 := [67, 111, 110, 110, 101, 99, 116, 105, 111, 110, 58, 32, 107, 101, 101, 112, 45, 97, 108, 105, 118, 101]
def crlf : List UInt8 := [13, 10]
/-- A request's text, but for the last four bytes. -/
def body (h p : List UInt8) : List UInt8 := (tG ++ p ++ tV) ++ crlf ++ ((tH ++ h) ++ crlf ++ (tU ++ crlf ++ (tA ++ crlf ++ tC)))
def text (h p : List UInt8) : List UInt8 := body h p ++ (crlf ++ crlf)

theorem L_append (a b : ByteArray) : L (a ++ b) = L a ++ L b := by simp [L, ByteArray.data_append]
theorem L_mk (l : List UInt8) : L ⟨l.toArray⟩ = l := by simp [L]
theorem L_inj {a b : ByteArray} (h : L a = L b) : a = b := by
  cases a; cases b
  simp only [L] at h
  congr 1
  exact Array.toList_inj.1 h

theorem text_ref (h p : ByteArray) : L (reqHead ++ p ++ reqMid ++ h ++ reqTail) = text (L h) (L p) := by
  simp only [L_append]
  have e1 : L reqHead = tG := rfl
  have e2 : L reqMid = tV ++ crlf ++ tH := rfl
  have e3 : L reqTail = crlf ++ (tU ++ crlf ++ (tA ++ crlf ++ tC)) ++ (crlf ++ crlf) := rfl
  rw [e1, e2, e3]
  simp only [text, body, List.append_assoc]
theorem text_length (h p : List UInt8) : (text h p).length = h.length + p.length + 105 := by
  simp only [text, body, List.length_append]
  have : tG.length = 4 ∧ tV.length = 9 ∧ tH.length = 6 ∧ tU.length = 20 ∧ tA.length = 32 ∧ tC.length = 22 ∧ crlf.length = 2 := by decide
  omega

/-! ### numbers and bytes -/
def numsL (l : List UInt8) : List Int := l.map fun b => (b.toNat : Int)
theorem bytesOf_L (s : ByteArray) : bytesOf s = numsL (L s) := rfl
theorem lib_bytesOf (l : List UInt8) : Lib.bytesOf (numsL l) = l := by
  simp [Lib.bytesOf, numsL, Function.comp_def]
theorem strOf_L (l : List UInt8) : strOfNums (numsL l) = ⟨l.toArray⟩ := by
  simp [strOfNums, numsL, Function.comp_def]
theorem numsL_length (l : List UInt8) : (numsL l).length = l.length := by simp [numsL]
theorem numsL_take (l : List UInt8) (n : Nat) : (numsL l).take n = numsL (l.take n) := by simp [numsL, List.map_take]
theorem numsL_drop (l : List UInt8) (n : Nat) : (numsL l).drop n = numsL (l.drop n) := by simp [numsL, List.map_drop]
theorem numsL_append (a b : List UInt8) : numsL (a ++ b) = numsL a ++ numsL b := by simp [numsL]
theorem numsL_range (l : List UInt8) : ∀ x ∈ numsL l, 0 ≤ x ∧ x < 256 := by
  intro x hx
  obtain ⟨b, _, rfl⟩ := List.mem_map.1 hx
  have := b.toNat_lt
  omega
theorem numsL_of (l0 : List Int) (h : ∀ x ∈ l0, (Lit.int .u8 x).wf = true) : l0 = numsL (Lib.bytesOf l0) := by
  have : ∀ x ∈ l0, (((UInt8.ofNat x.toNat).toNat : Nat) : Int) = x := by
    intro x hx
    have hw := h x hx
    have h1 : IntKind.u8.min = 0 := rfl
    have h2 : IntKind.u8.max = 255 := rfl
    simp only [Lit.wf, Bool.and_eq_true, decide_eq_true_eq] at hw
    rw [UInt8.toNat_ofNat']
    omega
  unfold numsL Lib.bytesOf
  rw [List.map_map]
  conv => lhs; rw [← List.map_id l0]
  exact List.map_congr_left (fun x hx => (this x hx).symm)

/-! ### where a request's end is found -/
def noCR (l : List UInt8) : Prop := ∀ x ∈ l, x ≠ 13
theorem noCR_append {a b : List UInt8} (ha : noCR a) (hb : noCR b) : noCR (a ++ b) := fun x hx => (List.mem_append.1 hx).elim (ha x) (hb x)

theorem index_skip (t s : List UInt8) (n : Nat) (h : Lib.index s (13 :: t) = n) : ∀ a : List UInt8, noCR a → Lib.index (a ++ s) (13 :: t) = ((a.length + n : Nat) : Int)
  | [], _ => by simpa using h
  | c :: a, ha => by
    have ih := index_skip t s n h a (fun x hx => ha x (List.mem_cons_of_mem _ hx))
    have hc : c ≠ 13 := ha c List.mem_cons_self
    rw [List.cons_append, Lib.index, if_neg (by simp [List.isPrefixOf]; intro e; exact absurd e.symm hc), ih]
    rw [if_neg (by first | (simp; done) | (simp; omega))]
    simp only [List.length_cons]
    omega
theorem index_crlf (a r : List UInt8) (ha : noCR a) : Lib.index (a ++ (crlf ++ r)) crlf = (a.length : Int) := by
  have h := index_skip [10] (crlf ++ r) 0 (by simp [crlf, Lib.index, List.isPrefixOf]) a ha
  rw [Nat.add_zero] at h
  exact h
def crlf2 : List UInt8 := [13, 10, 13, 10]
theorem index_next (c : UInt8) (s : List UInt8) (n : Nat) (hc : c ≠ 13) (h : Lib.index (c :: s) crlf2 = n) : Lib.index (crlf ++ (c :: s)) crlf2 = ((n + 2 : Nat) : Int) := by
  show Lib.index (13 :: 10 :: c :: s) crlf2 = _
  rw [Lib.index, if_neg (by simp [crlf2, List.isPrefixOf, hc.symm])]
  rw [show Lib.index (10 :: c :: s) crlf2 = ((n + 1 : Nat) : Int) from by
    rw [Lib.index, if_neg (by simp [crlf2, List.isPrefixOf]), h, if_neg (by first | (simp; done) | (simp; omega))]
    omega]
  rw [if_neg (by first | (simp; done) | (simp; omega))]
  omega
theorem index_line (a r : List UInt8) (c : UInt8) (s : List UInt8) (n : Nat) (ha : noCR a) (hr : r = c :: s) (hc : c ≠ 13) (h : Lib.index r crlf2 = n) : Lib.index (a ++ crlf ++ r) crlf2 = ((a.length + 2 + n : Nat) : Int) := by
  rw [List.append_assoc]
  have h2 := index_next c s n hc (hr ▸ h)
  have h3 := index_skip [10, 13, 10] (crlf ++ r) (n + 2) (by rw [hr]; exact h2) a ha
  show Lib.index _ (13 :: [10, 13, 10]) = _
  rw [h3]
  omega

theorem host_noCR {h : List UInt8} (hm : mayHost h = true) : noCR h := by
  intro x hx e
  subst e
  simp only [mayHost, Bool.and_eq_true, List.all_eq_true] at hm
  have := hm.1.1 _ hx
  revert this
  decide
theorem path_noCR {p : List UInt8} (hm : mayPath p = true) : noCR p := by
  intro x hx e
  subst e
  simp only [mayPath, Bool.and_eq_true, List.all_eq_true] at hm
  have := hm.1.1 _ hx
  revert this
  decide
theorem path_noSP {p : List UInt8} (hm : mayPath p = true) : ∀ x ∈ p, x ≠ 32 := by
  intro x hx e
  subst e
  simp only [mayPath, Bool.and_eq_true, List.all_eq_true] at hm
  have := hm.1.1 _ hx
  revert this
  decide
theorem host_len {h : List UInt8} (hm : mayHost h = true) : 1 ≤ h.length ∧ h.length ≤ 255 := by
  simp only [mayHost, Bool.and_eq_true, decide_eq_true_eq] at hm
  exact ⟨hm.1.2, hm.2⟩
theorem path_len {p : List UInt8} (hm : mayPath p = true) : p.length ≤ 1024 := by
  simp only [mayPath, Bool.and_eq_true, decide_eq_true_eq] at hm
  exact hm.2

theorem const_noCR : noCR tG ∧ noCR tV ∧ noCR tH ∧ noCR tU ∧ noCR tA ∧ noCR tC := by
  unfold noCR
  decide

theorem index_text (h p r : List UInt8) (hh : mayHost h = true) (hp : mayPath p = true) : Lib.index (text h p ++ r) crlf2 = (((body h p).length : Nat) : Int) := by
  obtain ⟨cG, cV, cH, cU, cA, cC⟩ := const_noCR
  have e : text h p ++ r = (tG ++ p ++ tV) ++ crlf ++ ((tH ++ h) ++ crlf ++ (tU ++ crlf ++ (tA ++ crlf ++ (tC ++ (crlf ++ crlf ++ r))))) := by
    simp only [text, body, List.append_assoc]
  rw [e]
  have h0 : Lib.index (tC ++ (crlf ++ crlf ++ r)) crlf2 = ((tC.length + 0 : Nat) : Int) := index_skip [10, 13, 10] _ 0 (by simp [crlf, Lib.index, List.isPrefixOf]) tC cC
  have h1 := index_line tA (tC ++ (crlf ++ crlf ++ r)) 67 _ _ cA rfl (by decide) h0
  have h2 := index_line tU _ 65 _ _ cU rfl (by decide) h1
  have h3 := index_line (tH ++ h) _ 85 _ _ (noCR_append cH (host_noCR hh)) rfl (by decide) h2
  have h4 := index_line (tG ++ p ++ tV) _ 72 _ _ (noCR_append (noCR_append cG (path_noCR hp)) cV) rfl (by decide) h3
  refine Eq.trans h4 ?_
  simp only [body, List.length_append]
  have : crlf.length = 2 := rfl
  omega
end Go.Proofs.YthjpkmaeopdedaaDoor.Plain
