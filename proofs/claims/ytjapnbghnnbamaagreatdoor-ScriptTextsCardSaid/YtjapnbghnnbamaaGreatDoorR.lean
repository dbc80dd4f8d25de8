/- The reference's Quote and Unquote (as the print has them), plainly. -/
import Derived.Test.YtjapnbghnnbamaaGreatDoorPlainU
import Derived.Lib.IndexBytes
import Derived.Test.YtjapnbghnnbamaaGreatDoorPRx6
import Derived.Test.YtjapnbghnnbamaaGreatDoorPRx8
namespace Go.Proofs.YtjapnbghnnbamaaGreatDoor.R
open Go.RowKit Go.Proofs.YtjapnbghnnbamaaGreatDoorW.PrintWords Go.Proofs.YtjapnbghnnbamaaGreatDoor.PR
open Go.Proofs.YtjapnbghnnbamaaGreatDoor.Plain (tell quote width tell_len tell_head width_app take_app tell_inj of_lt flat_inj Part part_start)
set_option linter.unusedVariables false
set_option linter.unusedSimpArgs false
abbrev ba (l : List UInt8) : ByteArray := ⟨l.toArray⟩
theorem told2 (c : UInt8) : odometerref23_told.f 2 (c.toNat : Int) = some (ba (tell c)) := of_lt (p := fun c => odometerref23_told.f 2 (c.toNat : Int) = some (ba (tell c))) (by decide +kernel) c
theorem told_ev (c : UInt8) : Ev (fun k => odometerref23_told.f k (c.toNat : Int)) (ba (tell c)) := Ev.of (fun k => odometerref23_told.mono _ k) (told2 c)
theorem wrap_next (i : Nat) (h : i < 9223372036854775807) : wrap64 ((i : Int) + 1) = ((i + 1 : Nat) : Int) := by unfold wrap64; omega
def nbl (bs : List UInt8) : List Int := bs.map fun c => (c.toNat : Int)
theorem ba_app (a b : List UInt8) : ba a ++ ba b = ba (a ++ b) := ByteArray.ext (Array.toList_inj.1 (by simp))
theorem ba_size (l : List UInt8) : (ba l).size = l.length := by simp [ba, ByteArray.size]
theorem quote_from (bs : List UInt8) (hl : bs.length ≤ 1000000) : ∀ (d i : Nat) (acc : List UInt8), bs.length - i = d → i ≤ bs.length → acc.length ≤ 4 * i + 1 → Ev (fun k => odometerref23_Quote.l0 k (nbl bs) (ba acc) (i : Int)) (ba (acc ++ (bs.drop i).flatMap tell ++ [34]))
  | 0, i, acc, hd, hi, ha => by
    refine Ev.step (f := fun _ => some (ba (acc ++ [34]))) (fun k => ?_) (by rw [List.drop_eq_nil_of_le (by omega)]; simpa using Ev.now (ba (acc ++ [34])))
    simp only [odometerref23_Quote.l0]
    rw [if_neg (by simp [nbl]; omega), if_pos (by rw [ba_size]; omega)]
    exact congrArg some (ba_app acc [34])
  | d + 1, i, acc, hd, hi, ha => by
    have hlt : i < bs.length := by omega
    have h4 : (tell bs[i]).length ≤ 4 := of_lt (p := fun c => (tell c).length ≤ 4) (by decide +kernel) _
    have ih := quote_from bs hl d (i + 1) (acc ++ tell bs[i]) (by omega) (by omega) (by rw [List.length_append]; omega)
    have hx : rd (nbl bs) (i : Int) = ((bs[i]).toNat : Int) := by simp [rd, nbl, List.getD, hlt]
    refine Ev.step (f := fun k => (odometerref23_told.f k ((bs[i]).toNat : Int)).bind fun t => if (ba acc).size + t.size ≤ 9223372036854775807 then odometerref23_Quote.l0 k (nbl bs) (ba acc ++ t) ((i + 1 : Nat) : Int) else none) (fun k => ?_) ?_
    · simp only [odometerref23_Quote.l0]
      rw [if_pos (by simp [nbl]; omega), if_pos (by omega), hx, wrap_next i (by omega)]
    · refine Ev.bind (told_ev bs[i]) ?_
      refine Ev.congr (f := fun k => odometerref23_Quote.l0 k (nbl bs) (ba (acc ++ tell bs[i])) ((i + 1 : Nat) : Int)) (fun k => ?_) ?_
      · have h1 := ba_size acc
        have h2 := ba_size (tell bs[i])
        rw [if_pos (by omega), ba_app]
      · rw [List.drop_eq_getElem_cons hlt, List.flatMap_cons, ← List.append_assoc acc]
        exact ih
theorem quote_ev (bs : List UInt8) (hl : bs.length ≤ 1000000) : Ev (fun k => odometerref23_Quote.f k (nbl bs)) (ba (quote bs)) := quote_from bs hl _ 0 [34] rfl (by omega) (by simp)
theorem list_eq {a b : ByteArray} : (a.toList = b.toList) ↔ a.data.toList = b.data.toList := by rw [Lib.toList_data, Lib.toList_data]
theorem ext_take (X : ByteArray) (n : Nat) (h : n ≤ X.size) : (X.extract 0 n).data.toList = X.data.toList.take n := by rw [Lib.extract_data]; simp
theorem ext_drop (X : ByteArray) (n : Nat) : (X.extract n X.size).data.toList = X.data.toList.drop n := Lib.extract_to_end X n
theorem mod_byte (c : Nat) (h : c < 256) : ((c : Int)) % 256 = ((UInt8.ofNat c).toNat : Int) := by simp
theorem nbl_snoc (os : List UInt8) (c : UInt8) : nbl os ++ [(c.toNat : Int)] = nbl (os ++ [c]) := by simp [nbl]
/-- One round of the search, at c. -/
theorem l1_round (k : Nat) (X : ByteArray) (os : List UInt8) (n c : Nat) (hn : n ≤ X.size) (hc : c < 256) (hl : os.length ≤ 1000000) (T : List UInt8) (hT : T = X.data.toList.take n) :
    odometerref23_Unquote.l1 (k + 2) X (nbl os) n false c = (odometerref23_told.f k ((UInt8.ofNat c).toNat : Int)).bind fun t => if t.data.toList = T then odometerref23_Unquote.l1 k X (nbl (os ++ [UInt8.ofNat c])) n true ((c + 1 : Nat) : Int) else odometerref23_Unquote.l1 k X (nbl os) n false ((c + 1 : Nat) : Int) := by
  subst hT
  simp only [odometerref23_Unquote.l1]
  rw [if_pos (by omega)]
  simp only [odometerref23_Unquote.j5, Bool.not_false, if_true]
  rw [mod_byte c hc]
  congr 1
  funext t
  have hlen : (nbl os).length < 140737488355328 := by simp [nbl]; omega
  rw [if_pos (by omega), if_pos (by omega), wrap_next c (by omega), nbl_snoc]
  simp only [hlen, if_true]
  have e : (t.toList = (X.extract 0 ((n : Int)).toNat).toList) = (t.data.toList = X.data.toList.take n) := by
    rw [Int.toNat_natCast, list_eq, ext_take X n hn]
  simp only [e]
theorem l1_out (k : Nat) (X : ByteArray) (l : List Int) (n c : Nat) (hn : n ≤ X.size) : odometerref23_Unquote.l1 (k + 2) X l n true c = odometerref23_Unquote.l0 k (X.extract n X.size) l := by
  simp only [odometerref23_Unquote.l1]
  by_cases hc : (c : Int) < 256
  · rw [if_pos hc]
    simp only [odometerref23_Unquote.j5, Bool.not_true, if_true]
    rw [if_neg (by decide), if_pos (by omega), if_pos (by omega), Int.toNat_natCast]
  · rw [if_neg hc]
    simp only [odometerref23_Unquote.j5, if_true]
    rw [if_neg (by decide), if_pos (by omega), if_pos (by omega), Int.toNat_natCast]
theorem l1_end (k : Nat) (X : ByteArray) (l : List Int) (n c : Nat) (hc : 256 ≤ c) : odometerref23_Unquote.l1 (k + 2) X l n false c = some ([], false) := by
  simp only [odometerref23_Unquote.l1]
  rw [if_neg (by omega)]
  simp only [odometerref23_Unquote.j5]
  rw [if_neg (by decide), if_neg (by decide)]
theorem Ev.step2 {α : Type} {g f : Nat → Option α} {r : α} (h : ∀ k, g (k + 2) = f k) (k : Ev f r) : Ev g r :=
  Ev.step (f := fun k => g (k + 1)) (fun _ => rfl) (Ev.step (f := f) (fun k => h k) k)
/-- The byte is found. -/
theorem search_yes (X : ByteArray) (os : List UInt8) (n : Nat) (hn : n ≤ X.size) (hl : os.length ≤ 1000000) (d : UInt8) (hd : tell d = X.data.toList.take n) (r : List Int × Bool)
    (hr : Ev (fun k => odometerref23_Unquote.l0 k (X.extract n X.size) (nbl (os ++ [d]))) r) : ∀ (m c : Nat), d.toNat - c = m → c ≤ d.toNat → Ev (fun k => odometerref23_Unquote.l1 k X (nbl os) n false c) r
  | 0, c, hm, hc => by
    have hcd : c = d.toNat := by omega
    have hlt := d.toNat_lt
    have e : UInt8.ofNat c = d := by rw [hcd]; exact UInt8.ofNat_toNat
    refine Ev.step2 (fun k => l1_round k X os n c hn (by omega) hl _ rfl) ?_
    refine Ev.bind (told_ev _) ?_
    refine Ev.congr (f := fun k => odometerref23_Unquote.l1 k X (nbl (os ++ [d])) n true ((c + 1 : Nat) : Int)) (fun k => ?_) ?_
    · rw [e, if_pos (show (ba (tell d)).data.toList = _ from by simpa using hd)]
    · exact Ev.step2 (fun k => l1_out k X _ n (c + 1) hn) hr
  | m + 1, c, hm, hc => by
    have hlt := d.toNat_lt
    have ih := search_yes X os n hn hl d hd r hr m (c + 1) (by omega) (by omega)
    have hne : tell (UInt8.ofNat c) ≠ X.data.toList.take n := fun h => by
      have := tell_inj (h.trans hd.symm)
      have h2 : (UInt8.ofNat c).toNat = c := by simp; omega
      rw [this] at h2
      omega
    refine Ev.step2 (fun k => l1_round k X os n c hn (by omega) hl _ rfl) ?_
    refine Ev.bind (told_ev _) ?_
    exact Ev.congr (fun k => by rw [if_neg (show ¬ (ba (tell (UInt8.ofNat c))).data.toList = _ from by simpa using hne)]) ih
/-- No byte is told so. -/
theorem search_no (X : ByteArray) (os : List UInt8) (n : Nat) (hn : n ≤ X.size) (hl : os.length ≤ 1000000) (hd : ∀ d, tell d ≠ X.data.toList.take n) : ∀ (m c : Nat), 256 - c = m → Ev (fun k => odometerref23_Unquote.l1 k X (nbl os) n false c) ([], false)
  | 0, c, hm => Ev.step2 (f := fun _ => some ([], false)) (fun k => l1_end k X _ n c (by omega)) (Ev.now _)
  | m + 1, c, hm => by
    refine Ev.step2 (fun k => l1_round k X os n c hn (by omega) hl _ rfl) ?_
    refine Ev.bind (told_ev _) ?_
    exact Ev.congr (fun k => by rw [if_neg (show ¬ (ba (tell (UInt8.ofNat c))).data.toList = _ from by simpa using hd _)]) (search_no X os n hn hl hd m (c + 1) (by omega))
theorem bt_list (X : ByteArray) (i : Nat) : bt X (i : Int) = ((X.data.toList.getD i 0).toNat : Int) := by
  unfold bt
  split
  · rename_i h
    rw [← Lib.getD_at X i h]
    rfl
  · rename_i h
    rw [Int.toNat_natCast, Lib.size_eq] at h
    have e : X.data.toList[i]? = none := List.getElem?_eq_none (by omega)
    rw [List.getD_eq_getElem?_getD, e]
    rfl
/-- The head of a round: how many bytes tell what stands there. -/
theorem l0_round (k : Nat) (X : ByteArray) (l : List Int) (hX : X.data.toList ≠ []) : odometerref23_Unquote.l0 (k + 3) X l = if (width X.data.toList : Int) > X.size then some ([], false) else odometerref23_Unquote.l1 k X l (width X.data.toList) false 0 := by
  have hsz := Lib.size_eq X
  have hpos : 0 < X.size := by
    rcases Nat.eq_zero_or_pos X.size with h | h
    · exact absurd (List.length_eq_zero_iff.1 (by omega)) hX
    · exact h
  have b0 := bt_list X 0
  have b1 := bt_list X 1
  have hh : X.data.toList.headD 0 = X.data.toList.getD 0 0 := by cases X.data.toList <;> rfl
  simp only [odometerref23_Unquote.l0]
  rw [if_pos (by omega), if_pos (by omega)]
  have e92 : (bt X 0 = 92) = (X.data.toList.headD 0 = 92) := by
    rw [show (0 : Int) = ((0 : Nat) : Int) from rfl, b0, hh]
    refine propext ⟨fun h => UInt8.toNat_inj.1 (by show _ = 92; omega), fun h => by rw [h]; rfl⟩
  have e120 : (bt X 1 = 120) = (X.data.toList.getD 1 0 = 120) := by
    rw [show (1 : Int) = ((1 : Nat) : Int) from rfl, b1]
    refine propext ⟨fun h => UInt8.toNat_inj.1 (by show _ = 120; omega), fun h => by rw [h]; rfl⟩
  by_cases h92 : X.data.toList.headD 0 = 92
  · rw [if_pos (e92 ▸ h92)]
    simp only [odometerref23_Unquote.j2]
    by_cases h1 : 1 < X.data.toList.length
    · rw [if_pos (show decide ((X.size : Int) > 1) = true from decide_eq_true (by omega)), if_pos (by omega)]
      by_cases h120 : X.data.toList.getD 1 0 = 120
      · have hw : width X.data.toList = 4 := by unfold width; rw [if_pos ⟨h92, h1⟩, if_pos h120]
        rw [if_pos (e120 ▸ h120), hw]
        simp only [odometerref23_Unquote.j3]
        rfl
      · have hw : width X.data.toList = 2 := by unfold width; rw [if_pos ⟨h92, h1⟩, if_neg h120]
        rw [if_neg (e120 ▸ h120), hw]
        simp only [odometerref23_Unquote.j3]
        rfl
    · have hw : width X.data.toList = 1 := by unfold width; rw [if_neg (fun h => h1 h.2)]
      rw [if_neg (show ¬ decide ((X.size : Int) > 1) = true from by simp; omega), hw]
      simp only [odometerref23_Unquote.j3]
      rfl
  · have hw : width X.data.toList = 1 := by unfold width; rw [if_neg (fun h => h92 h.1)]
    rw [if_neg (e92 ▸ h92), hw]
    simp only [odometerref23_Unquote.j2]
    rw [if_neg (by decide)]
    simp only [odometerref23_Unquote.j3]
    rfl
/-- The loop: what it answers of what is left. -/
theorem l0_ev : ∀ (m : Nat) (X : ByteArray) (os : List UInt8), X.data.toList.length ≤ m → os.length + X.data.toList.length ≤ 1000000 →
    ∃ (l : List Int) (is : Bool), Ev (fun k => odometerref23_Unquote.l0 k X (nbl os)) (l, is) ∧ ((is = true ∧ ∃ b', X.data.toList = b'.flatMap tell ∧ l = nbl (os ++ b')) ∨ (is = false ∧ l = [] ∧ ∀ b' : List UInt8, X.data.toList ≠ b'.flatMap tell)) := by
  intro m
  induction m with
  | zero =>
    intro X os hm hl
    have h0 : X.data.toList = [] := List.length_eq_zero_iff.1 (by omega)
    have hsz := Lib.size_eq X
    rw [h0] at hsz
    simp only [List.length_nil] at hsz
    refine ⟨nbl os, true, Ev.step (f := fun _ => some (nbl os, true)) (fun k => ?_) (Ev.now _), .inl ⟨rfl, [], by rw [h0]; rfl, by simp⟩⟩
    simp only [odometerref23_Unquote.l0]
    rw [if_neg (by omega)]
  | succ m ih =>
    intro X os hm hl
    by_cases h0 : X.data.toList = []
    · have hsz := Lib.size_eq X
      rw [h0] at hsz
      simp only [List.length_nil] at hsz
      refine ⟨nbl os, true, Ev.step (f := fun _ => some (nbl os, true)) (fun k => ?_) (Ev.now _), .inl ⟨rfl, [], by rw [h0]; rfl, by simp⟩⟩
      simp only [odometerref23_Unquote.l0]
      rw [if_neg (by omega)]
    · have hsz := Lib.size_eq X
      have hround := fun k l => l0_round k X l h0
      by_cases hw : X.size < width X.data.toList
      · refine ⟨[], false, Ev.step (f := fun k => odometerref23_Unquote.l0 (k + 1) X (nbl os)) (fun _ => rfl) (Ev.step2 (f := fun _ => some ([], false)) (fun k => ?_) (Ev.now _)), .inr ⟨rfl, rfl, fun b' hb => ?_⟩⟩
        · rw [hround, if_pos (by omega)]
        · cases b' with
          | nil => exact h0 hb
          | cons d b' =>
            rw [List.flatMap_cons] at hb
            have h1 := width_app d (b'.flatMap tell)
            rw [← hb] at h1
            rw [hsz, hb, List.length_append] at hw
            rw [hb] at h1
            omega
      · by_cases hd : ∃ d, tell d = X.data.toList.take (width X.data.toList)
        · obtain ⟨d, hd⟩ := hd
          have hne := (tell_head d).2
          have hpos : 0 < width X.data.toList := by
            rcases Nat.eq_zero_or_pos (width X.data.toList) with h | h
            · rw [h] at hd; exact absurd hd hne
            · exact h
          have hX : X.data.toList = tell d ++ X.data.toList.drop (width X.data.toList) := by rw [hd, List.take_append_drop]
          have hY := ext_drop X (width X.data.toList)
          have hYl : (X.extract (width X.data.toList) X.size).data.toList.length + width X.data.toList = X.data.toList.length := by rw [hY, List.length_drop]; omega
          obtain ⟨l, is, hev, hres⟩ := ih (X.extract (width X.data.toList) X.size) (os ++ [d]) (by omega) (by rw [List.length_append]; simp only [List.length_cons, List.length_nil]; omega)
          refine ⟨l, is, Ev.step (f := fun k => odometerref23_Unquote.l0 (k + 1) X (nbl os)) (fun _ => rfl) (Ev.step2 (f := fun k => odometerref23_Unquote.l1 k X (nbl os) (width X.data.toList) false ((0 : Nat) : Int)) (fun k => ?_) (search_yes X os _ (by omega) (by omega) d hd (l, is) hev _ 0 rfl (by omega))), ?_⟩
          · rw [hround, if_neg (by omega)]
            rfl
          · rw [hY] at hres
            rcases hres with ⟨h1, b', h2, h3⟩ | ⟨h1, h2, h3⟩
            · exact .inl ⟨h1, d :: b', by rw [hX, List.flatMap_cons, ← h2], by rw [h3]; simp⟩
            · refine .inr ⟨h1, h2, fun b' hb => ?_⟩
              cases b' with
              | nil => exact h0 hb
              | cons e b' =>
                rw [List.flatMap_cons] at hb
                have ht := take_app e (b'.flatMap tell)
                rw [← hb, ← hd] at ht
                exact h3 b' ht.2
        · refine ⟨[], false, Ev.step (f := fun k => odometerref23_Unquote.l0 (k + 1) X (nbl os)) (fun _ => rfl) (Ev.step2 (f := fun k => odometerref23_Unquote.l1 k X (nbl os) (width X.data.toList) false ((0 : Nat) : Int)) (fun k => ?_) (search_no X os _ (by omega) (by omega) (fun d h => hd ⟨d, h⟩) _ 0 rfl)), .inr ⟨rfl, rfl, fun b' hb => ?_⟩⟩
          · rw [hround, if_neg (by omega)]
            rfl
          · cases b' with
            | nil => exact h0 hb
            | cons e b' =>
              rw [List.flatMap_cons] at hb
              have ht := take_app e (b'.flatMap tell)
              rw [← hb] at ht
              exact hd ⟨e, ht.1.symm⟩
/-- The reference's Unquote. -/
theorem unq_ev (s : ByteArray) (hs : s.size ≤ 1000000) : ∃ (l : List Int) (is : Bool), Ev (fun k => odometerref23_Unquote.f k s) (l, is) ∧ ((is = true ∧ ∃ b, quote b = s.data.toList ∧ l = nbl b) ∨ (is = false ∧ l = [] ∧ ∀ b, quote b ≠ s.data.toList)) := by
  have hsz := Lib.size_eq s
  have hj0 : ∀ k, odometerref23_Unquote.j0 (k + 1) s true = some ([], false) := fun k => by simp [odometerref23_Unquote.j0]
  have bt0 : 0 < s.size → bt s 0 = ((s.data.toList.headD 0).toNat : Int) := fun h => by
    rw [show (0 : Int) = ((0 : Nat) : Int) from rfl, bt_list]
    cases s.data.toList <;> rfl
  by_cases h2 : s.size < 2
  · refine ⟨[], false, Ev.step (f := fun _ => some ([], false)) (fun k => ?_) (Ev.now _), .inr ⟨rfl, rfl, Plain.short_none (by omega)⟩⟩
    unfold odometerref23_Unquote.f
    rw [if_pos (by omega), hj0]
  · have hw : wrap64 ((s.size : Int) - 1) = ((s.size - 1 : Nat) : Int) := by unfold wrap64; omega
    have hb1 := bt_list s (s.size - 1)
    obtain ⟨a, z, mid, hl⟩ : ∃ a z mid, s.data.toList = a :: (mid ++ [z]) := by
      cases h : s.data.toList with
      | nil => rw [h] at hsz; simp only [List.length_nil] at hsz; omega
      | cons a t =>
        rcases List.eq_nil_or_concat t with rfl | ⟨mid, z, rfl⟩
        · rw [h] at hsz; simp only [List.length_cons, List.length_nil] at hsz; omega
        · exact ⟨a, z, mid, by simp⟩
    have hml : mid.length = s.size - 2 := by rw [hsz, hl]; simp
    have hz : s.data.toList.getD (s.size - 1) 0 = z := by
      rw [hl, show s.size - 1 = mid.length + 1 by omega]
      simp [List.getD]
    have ha : s.data.toList.headD 0 = a := by rw [hl]; rfl
    have hf : ∀ k, odometerref23_Unquote.f k s = if (a.toNat : Int) = 34 then odometerref23_Unquote.j0 k s ((z.toNat : Int) != 34) else odometerref23_Unquote.j0 k s true := fun k => by
      unfold odometerref23_Unquote.f
      rw [if_neg (by omega), if_pos (by omega), bt0 (by omega), ha]
      by_cases hA : (a.toNat : Int) = 34
      · simp only [hA, if_true]
        rw [hw, if_pos (show (0 : Int) ≤ ((s.size - 1 : Nat) : Int) by omega), if_pos (show ((s.size - 1 : Nat) : Int) < (s.size : Int) by omega), hb1, hz]
      · rw [if_neg hA, if_neg hA]
    by_cases h34 : a = 34 ∧ z = 34
    · obtain ⟨rfl, rfl⟩ := h34
      have hX : (s.extract 1 (s.size - 1)).data.toList = mid := by
        rw [Lib.extract_data, hl]
        simp only [List.drop_succ_cons, List.drop_zero]
        rw [show s.size - 1 - 1 = mid.length by omega, List.take_left]
      obtain ⟨l, is, hev, hres⟩ := l0_ev _ (s.extract 1 (s.size - 1)) [] (Nat.le_refl _) (by rw [hX]; simp; omega)
      refine ⟨l, is, Ev.step (f := fun k => odometerref23_Unquote.l0 k (s.extract 1 (s.size - 1)) (nbl [])) (fun k => ?_) hev, ?_⟩
      · rw [hf, if_pos (by decide)]
        simp only [odometerref23_Unquote.j0]
        rw [if_neg (by decide), hw, if_pos (by omega), if_pos (by omega), Int.toNat_natCast]
        rfl
      · rw [hX] at hres
        rcases hres with ⟨h1, b', h3, h4⟩ | ⟨h1, h3, h4⟩
        · exact .inl ⟨h1, b', by rw [hl, h3]; rfl, by simpa using h4⟩
        · refine .inr ⟨h1, h3, fun b hb => h4 b ?_⟩
          rw [hl] at hb
          unfold quote at hb
          simp only [List.cons.injEq, true_and] at hb
          exact (List.append_cancel_right hb).symm
    · refine ⟨[], false, Ev.step (f := fun _ => some ([], false)) (fun k => ?_) (Ev.now _), .inr ⟨rfl, rfl, fun b hb => h34 ?_⟩⟩
      · rw [hf]
        by_cases hA : a = 34
        · have hZ : ((z.toNat : Int) != 34) = true := by
            rw [bne_iff_ne]
            intro h
            exact h34 ⟨hA, UInt8.toNat_inj.1 (by show z.toNat = 34; omega)⟩
          rw [hA, if_pos (by decide), hZ, hj0]
        · rw [if_neg (show ¬ ((a.toNat : Int) = 34) from fun h => hA (UInt8.toNat_inj.1 (by show a.toNat = 34; omega))), hj0]
      · rw [hl] at hb
        unfold quote at hb
        simp only [List.cons.injEq] at hb
        have h2 := congrArg List.getLast? hb.2
        simp at h2
        exact ⟨hb.1.symm, h2.symm⟩
end Go.Proofs.YtjapnbghnnbamaaGreatDoor.R
