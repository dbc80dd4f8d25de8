/- The decoder and the reader take whatever comes: nothing that they ask of a line is without an answer. -/
import Derived.Test.YtfpcoanlkfgagaaGreatDoorRdrL
namespace Go.Proofs.YtfpcoanlkfgagaaGreatDoor.RdrT
open Go.RowKit Go.Proofs.YtfpcoanlkfgagaaGreatDoorW.PrintWords Go.Proofs.YtfpcoanlkfgagaaGreatDoor.Ext Go.Proofs.YtfpcoanlkfgagaaGreatDoor.Dec Go.Proofs.YtfpcoanlkfgagaaGreatDoor.DecT Go.Proofs.YtfpcoanlkfgagaaGreatDoor.DecN Go.Proofs.YtfpcoanlkfgagaaGreatDoor.DecS Go.Proofs.YtfpcoanlkfgagaaGreatDoor.DecR Go.Proofs.YtfpcoanlkfgagaaGreatDoor.DecQ Go.Proofs.YtfpcoanlkfgagaaGreatDoor.DecE Go.Proofs.YtfpcoanlkfgagaaGreatDoor.Rdr Go.Proofs.YtfpcoanlkfgagaaGreatDoor.RdrP Go.Proofs.YtfpcoanlkfgagaaGreatDoor.RdrL
set_option linter.unusedVariables false
set_option linter.unusedSimpArgs false
theorem mayText_tot (s : ByteArray) (hs : s.size ≤ 1000000000) : ∃ b, mayText.f s = some b := by
  obtain ⟨k, hk⟩ := (Plain.text_prog s (by omega)).rounds
  exact ⟨_, evT_eq (PA.head_MayText.mono s) hk⟩
theorem mayName_tot (s : ByteArray) (hs : s.size ≤ 1000000000) : ∃ b, mayName.f s = some b := by
  obtain ⟨k, hk⟩ := (Plain.name_prog s (by omega)).rounds
  exact ⟨_, evT_eq (PA.head_MayName.mono s) hk⟩
theorem dropW_nil {p : UInt8 → Bool} : ∀ {l : List UInt8}, l.dropWhile p = [] → ∀ x ∈ l, p x = true
  | [], _, x, hx => by cases hx
  | c :: l, h, x, hx => by
    rw [List.dropWhile_cons] at h
    split at h
    · rename_i hc
      rcases List.mem_cons.1 hx with rfl | hx
      · exact hc
      · exact dropW_nil h x hx
    · cases h
theorem takeW_mem {p : UInt8 → Bool} : ∀ {l : List UInt8} {x : UInt8}, x ∈ l.takeWhile p → p x = true
  | [], x, hx => by cases hx
  | c :: l, x, hx => by
    rw [List.takeWhile_cons] at hx
    split at hx
    · rename_i hc
      rcases List.mem_cons.1 hx with rfl | hx
      · exact hc
      · exact takeW_mem hx
    · cases hx
theorem all_of_trim {l cs : List UInt8} (h : Lib.trimS l cs = []) : ∀ c ∈ l, cs.contains c = true := by
  intro c hc
  have h1 : ∀ c ∈ Lib.trimRightS l cs, cs.contains c = true := by
    have h2 : (Lib.trimRightS l cs).dropWhile (fun x => cs.contains x) = [] := h
    exact dropW_nil h2
  have h3 : c ∈ l.reverse := List.mem_reverse.2 hc
  rw [← List.takeWhile_append_dropWhile (p := fun x => cs.contains x) (l := l.reverse)] at h3
  rcases List.mem_append.1 h3 with h4 | h4
  · exact takeW_mem (p := fun x => cs.contains x) h4
  · exact h1 c (List.mem_reverse.2 h4)
theorem hexv_set : ∀ c : Fin 256, hexset.contains (UInt8.ofNat c.val) = true → (hexv (UInt8.ofNat c.val)).isSome = true := by decide +kernel
theorem hexval_tot : ∀ (l : List UInt8) (acc : Nat), (∀ c ∈ l, hexset.contains c = true) → ∃ n, hexval acc l = some n
  | [], acc, _ => ⟨acc, rfl⟩
  | c :: l, acc, h => by
    have h1 := hexv_set ⟨c.toNat, c.toNat_lt⟩
    simp only [UInt8.ofNat_toNat] at h1
    obtain ⟨d, hd⟩ := Option.isSome_iff_exists.1 (h1 (h c (List.mem_cons_self ..)))
    obtain ⟨n, hn⟩ := hexval_tot l (acc * 16 + d) fun x hx => h x (List.mem_cons_of_mem _ hx)
    exact ⟨n, by simp only [hexval, hd, hn]⟩
theorem digits_tot (sg : List UInt8) : ∃ v, digits sg = some v := by
  unfold digits
  split
  · exact ⟨_, rfl⟩
  · split
    · exact ⟨_, rfl⟩
    · split
      · exact ⟨_, rfl⟩
      · rename_i h
        obtain ⟨n, hn⟩ := hexval_tot sg 0 (all_of_trim (Classical.byContradiction h))
        exact ⟨_, by rw [hn]; rfl⟩
theorem cut_size (s : ByteArray) (p : List UInt8) : (Lib.cut (lineS s) p).1.length ≤ s.size ∧ (Lib.cut (lineS s) p).2.1.length ≤ s.size := by
  have h1 := trimSuffix_le s.data.toList [13, 10]
  rw [data_length] at h1
  have h2 : (lineS s).length ≤ s.size := h1
  unfold Lib.cut
  split
  · simp only [List.length_take, List.length_drop]; omega
  · simp only [List.length_nil]; omega
theorem num_tot (l : List Int) (hl : l.length ≤ 100000000) : ∃ v, num l = some v := by
  have hz : (strOfNums l).size = l.length := by simp [strOfNums, ByteArray.size]
  unfold num numF
  rw [if_pos (by omega)]
  split
  · exact ⟨_, rfl⟩
  · split
    · obtain ⟨b, hb⟩ := mayText_tot ⟨(Lib.cut (lineS (strOfNums l)) [59]).2.1.toArray⟩ (by rw [toSize]; have := (cut_size (strOfNums l) [59]).2; omega)
      rw [hb, Option.bind_some]
      split
      · exact ⟨_, rfl⟩
      · exact digits_tot _
    · exact digits_tot _
theorem tr_tot (l : List Int) (hl : l.length ≤ 100000000) : ∃ v, tr l = some v := by
  have hz : (strOfNums l).size = l.length := by simp [strOfNums, ByteArray.size]
  unfold tr trF
  rw [if_pos (by omega)]
  split
  · split
    · exact ⟨_, rfl⟩
    · split
      · exact ⟨_, rfl⟩
      · obtain ⟨a, ha⟩ := mayName_tot ⟨(Lib.cut (lineS (strOfNums l)) [58]).1.toArray⟩ (by rw [toSize]; have := (cut_size (strOfNums l) [58]).1; omega)
        rw [ha, Option.bind_some]
        split
        · exact ⟨_, rfl⟩
        · obtain ⟨b, hb⟩ := mayText_tot ⟨(Lib.cut (lineS (strOfNums l)) [58]).2.1.toArray⟩ (by rw [toSize]; have := (cut_size (strOfNums l) [58]).2; omega)
          rw [hb, Option.bind_some]
          split <;> exact ⟨_, rfl⟩
  · exact ⟨_, rfl⟩
theorem step_tot {d : D} (c : Int) (hn : d.st ≠ .nil) (hl : d.line.length < 100000000) : ∃ d', Dec.step num tr d c = some d' := by
  have h1 : (d.line ++ [c]).length ≤ 100000000 := by simp only [List.length_append, List.length_cons, List.length_nil]; omega
  obtain ⟨v, hv⟩ := num_tot _ h1
  obtain ⟨u, hu⟩ := tr_tot _ h1
  unfold Dec.step
  cases hst : d.st <;> simp only []
  · exact absurd hst hn
  all_goals first | exact ⟨_, rfl⟩ | (rw [hv]; split <;> exact ⟨_, rfl⟩) | (rw [hu]; split; exact ⟨_, rfl⟩; split <;> exact ⟨_, rfl⟩)
theorem push_tot : ∀ (l : List Int) (d : D), d.line.length + d.body.length + l.length ≤ 100000000 → ∃ x, push num tr d l = some x
  | [], d, _ => ⟨_, rfl⟩
  | c :: l, d, h => by
    by_cases hn : d.st = .nil
    · exact ⟨_, push_nil hn _⟩
    · simp only [List.length_cons] at h
      obtain ⟨d1, h1⟩ := step_tot c hn (by omega)
      have h2 := step_len h1
      obtain ⟨x, hx⟩ := push_tot l d1 (by omega)
      exact ⟨_, by simp only [push, if_neg hn, h1, hx]; rfl⟩
end Go.Proofs.YtfpcoanlkfgagaaGreatDoor.RdrT
