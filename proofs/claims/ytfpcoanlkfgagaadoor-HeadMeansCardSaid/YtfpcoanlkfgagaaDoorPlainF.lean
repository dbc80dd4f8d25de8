/- Plain laws of the head seat: words between commas, of the program and of the reference. -/
import Derived.Test.YtfpcoanlkfgagaaDoorPlainE
namespace Go.Proofs.YtfpcoanlkfgagaaDoor.Plain
open Go.RowKit Go.Proofs.YtfpcoanlkfgagaaDoor.PA Go.Proofs.YtfpcoanlkfgagaaDoor.Ext Go.Proofs.YtfpcoanlkfgagaaDoorW.PrintWords

def hit (word : ByteArray) (p : ByteArray) : Bool := decide (smallS (trimB p) = word)
def hitL (word : ByteArray) (p : List UInt8) : Bool := hit word ⟨p.toArray⟩
def saysOne (word v : ByteArray) : Bool := (pieces (L v)).any (hitL word)
def saysS (vs : List ByteArray) (word : ByteArray) : Bool := vs.any (saysOne word)

theorem rdrop_length (p : UInt8 → Bool) (l : List UInt8) : (rdrop p l).length ≤ l.length := by
  unfold rdrop
  have h := (List.dropWhile_sublist (p := p) (l := l.reverse)).length_le
  rw [List.length_reverse] at h ⊢
  exact h
theorem trimB_size (s : ByteArray) : (trimB s).size ≤ s.size := by
  rw [← L_length, trimB, L_mk, ← L_length]
  unfold trim
  have h := (List.dropWhile_sublist (p := blank) (l := L s)).length_le
  have h2 := rdrop_length blank ((L s).dropWhile blank)
  omega
theorem split_pieces_B (v : ByteArray) (hs : v.size ≤ 100000000) : ∃ t, strings_Split.f v (⟨#[44]⟩ : ByteArray) = some t ∧ t.map L = pieces (L v) ∧ t.length ≤ v.size + 2 := by
  have hd := Lib.splitB_data (⟨#[44]⟩ : ByteArray) 0 (Lib.countB v ⟨#[44]⟩) v
  have hc : Lib.countB v ⟨#[44]⟩ = Lib.count (L v) [44] := rfl
  have hs1 := split_size (L v)
  have hsp := split_pieces (L v).length (L v) (Nat.le_refl _)
  have hcl := Lib.count_le (L v) [44]
  rw [L_length] at hcl
  have he : (⟨#[44]⟩ : ByteArray).data.toList = [44] := rfl
  rw [hc, he] at hd
  have hlen : (Lib.splitB (⟨#[44]⟩ : ByteArray) 0 (Lib.count (L v) [44]) v).length = Lib.count (L v) [44] + 1 := by
    have := congrArg List.length hd
    rw [List.length_map] at this
    rw [this]
    exact hs1
  refine ⟨Lib.splitB (⟨#[44]⟩ : ByteArray) 0 (Lib.count (L v) [44]) v, ?_, ?_, by omega⟩
  · unfold strings_Split.f
    rw [hc, if_pos ⟨by omega, by decide, by omega, hlen⟩]
  · rw [← hsp]
    exact hd
theorem says_inner (word : ByteArray) (vs : List ByteArray) (i : Nat) (st : Int) (old : Bool) (l : List S75) (sz : Int) (r : Bool) (t : List ByteArray) (ht : t.length ≤ 1000000000) (hz : ∀ p ∈ t, p.size ≤ 100000000)
    (hnext : Ev (fun k => head_head_says.l0 k word false vs (vs.length : Int) (wrap64 ((i : Int) + 1)) st old l sz) (r, st, old, sz)) (d : Nat) : ∀ j : Nat, j ≤ t.length → t.length - j = d →
    Ev (fun k => head_head_says.l1 k word false vs (vs.length : Int) (i : Int) t (t.length : Int) (j : Int) st old l sz) ((t.drop j).any (hit word) || r, st, old, sz) := by
  induction d with
  | zero =>
    intro j hj hd
    obtain rfl : j = t.length := by omega
    rw [List.drop_length]
    refine Ev.step (f := fun k => head_head_says.l0 k word false vs (vs.length : Int) (wrap64 ((i : Int) + 1)) st old l sz) (fun k => ?_) (by simpa using hnext)
    simp only [head_head_says.l1]
    rw [if_neg (by omega)]
  | succ d ih =>
    intro j hj hd
    have hlt : j < t.length := by omega
    have hdr : t.drop j = t[j]'hlt :: t.drop (j + 1) := List.drop_eq_getElem_cons hlt
    have hzj := hz (t[j]'hlt) (List.getElem_mem hlt)
    have hzt := trimB_size (t[j]'hlt)
    rw [hdr, List.any_cons]
    refine Ev.step (f := fun k => if hit word (t[j]'hlt) = true then some (true, st, old, sz) else head_head_says.l1 k word false vs (vs.length : Int) (i : Int) t (t.length : Int) ((j + 1 : Nat) : Int) st old l sz) (fun k => ?_) ?_
    · simp only [head_head_says.l1]
      rw [if_pos (by omega), if_pos (by omega), if_pos (by omega), rdOf_at _ j hlt, trim_prog _ (by omega)]
      simp only [Option.bind_some]
      rw [small_prog _ (by omega), wrap_up hlt (by omega)]
      simp only [Option.bind_some, same_iff, hit, decide_eq_true_iff]
    · by_cases h : hit word (t[j]'hlt) = true
      · simp only [h, if_true, Bool.true_or]
        exact Ev.now _
      · simp only [h, Bool.false_or]
        exact ih (j + 1) (by omega) (by omega)
theorem any_pieces (word v : ByteArray) (t : List ByteArray) (h : t.map L = pieces (L v)) : t.any (hit word) = saysOne word v := by
  unfold saysOne
  rw [← h, List.any_map]
  have e : (hitL word ∘ L) = hit word := funext fun p => by simp only [Function.comp, hitL, mk_L]
  rw [e]
theorem says_prog_from (word : ByteArray) (vs : List ByteArray) (st : Int) (old : Bool) (l : List S75) (sz : Int) (hv : vs.length ≤ 100000000) (hz : ∀ s ∈ vs, s.size ≤ 100000000) (d : Nat) : ∀ i : Nat, i ≤ vs.length → vs.length - i = d →
    Ev (fun k => head_head_says.l0 k word false vs (vs.length : Int) (i : Int) st old l sz) ((vs.drop i).any (saysOne word), st, old, sz) := by
  induction d with
  | zero =>
    intro i hi hd
    obtain rfl : i = vs.length := by omega
    rw [List.drop_length]
    refine Ev.step (f := fun _ => some (false, st, old, sz)) (fun k => ?_) (Ev.now _)
    simp only [head_head_says.l0]
    rw [if_neg (by omega)]
  | succ d ih =>
    intro i hi hd
    have hlt : i < vs.length := by omega
    have hdr : vs.drop i = vs[i]'hlt :: vs.drop (i + 1) := List.drop_eq_getElem_cons hlt
    have hzi := hz (vs[i]'hlt) (List.getElem_mem hlt)
    obtain ⟨t, ht, hp, htl⟩ := split_pieces_B (vs[i]'hlt) hzi
    have hn := ih (i + 1) (by omega) (by omega)
    rw [← wrap_up hlt (by omega)] at hn
    have hpz : ∀ p ∈ t, p.size ≤ 100000000 := fun p hp2 => by
      have hm : L p ∈ pieces (L (vs[i]'hlt)) := by rw [← hp]; exact List.mem_map_of_mem hp2
      have hsz : ∀ (q : List UInt8) (s : List UInt8), q ∈ pieces s → q.length ≤ s.length := by
        intro q s
        induction s generalizing q with
        | nil => intro h; simp [pieces] at h; simp [h]
        | cons c s ihs =>
          intro h
          unfold pieces at h
          split at h
          · rcases List.mem_cons.1 h with h | h
            · simp [h]
            · have := ihs q h; simp; omega
          · split at h
            · rename_i p0 ps he
              rcases List.mem_cons.1 h with h | h
              · have := ihs p0 (by rw [he]; simp)
                rw [h]; simp; omega
              · have := ihs q (by rw [he]; simp [h])
                simp; omega
            · simp at h; simp [h]
      have := hsz _ _ hm
      rw [L_length, L_length] at this
      omega
    have hin := says_inner word vs i st old l sz _ t (by omega) hpz hn _ 0 (by omega) rfl
    rw [List.drop_zero, any_pieces word _ t hp] at hin
    rw [hdr, List.any_cons]
    refine Ev.step (f := fun k => head_head_says.l1 k word false vs (vs.length : Int) (i : Int) t (t.length : Int) ((0 : Nat) : Int) st old l sz) (fun k => ?_) hin
    simp only [head_head_says.l0]
    rw [if_pos (by omega), if_pos (by omega), if_pos (by omega), rdOf_at _ i hlt, ht]
    rfl
abbrev cconn : ByteArray := ⟨#[99, 111, 110, 110, 101, 99, 116, 105, 111, 110]⟩
theorem says_prog (l : List S75) (word : ByteArray) (st : Int) (old : Bool) (sz : Int) (hl : l.length ≤ 100000000) (hz : ∀ s ∈ vals l cconn, s.size ≤ 100000000) :
    Ev (fun k => head_head_says.f k st old l sz word) (saysS (vals l cconn) word, st, old, sz) := by
  unfold head_head_says.f
  refine Ev.bind (values_prog l cconn st old sz hl) ?_
  have := says_prog_from word (vals l cconn) st old l sz (Nat.le_trans (vals_le _ _) hl) hz _ 0 (by omega) rfl
  rw [List.drop_zero] at this
  exact this

end Go.Proofs.YtfpcoanlkfgagaaDoor.Plain
