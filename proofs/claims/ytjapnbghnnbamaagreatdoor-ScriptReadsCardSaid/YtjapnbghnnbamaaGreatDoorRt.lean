/- The reference's Quote and Unquote (as the print has them), plainly. -/
import Derived.Test.YtjapnbghnnbamaaGreatDoorPlainU
import Derived.Lib.IndexBytes
import Derived.Test.YtjapnbghnnbamaaGreatDoorPRx6
import Derived.Test.YtjapnbghnnbamaaGreatDoorPRx8
import Derived.Test.YtjapnbghnnbamaaGreatDoorPRy
import Derived.Test.YtjapnbghnnbamaaGreatDoorT
namespace Go.Proofs.YtjapnbghnnbamaaGreatDoor.R
open Go.RowKit Go.Proofs.YtjapnbghnnbamaaGreatDoorW.PrintWords Go.Proofs.YtjapnbghnnbamaaGreatDoor.PR
open Go.Proofs.YtjapnbghnnbamaaGreatDoor.Plain (tell quote width tell_len tell_head width_app take_app tell_inj of_lt flat_inj Part part_start)
set_option linter.unusedVariables false
set_option linter.unusedSimpArgs false
abbrev ba (l : List UInt8) : ByteArray := ⟨l.toArray⟩
theorem told2 (c : UInt8) : odometerref23_told.f 2 (c.toNat : Int) = some (ba (tell c)) := of_lt (p := fun c => odometerref23_told.f 2 (c.toNat : Int) = some (ba (tell c))) (by decide +kernel) c
theorem told_ev (c : UInt8) : Ev (fun k => odometerref23_told.f k (c.toNat : Int)) (ba (tell c)) := Ev.of (fun k => odometerref23_told.mono _ k) (told2 c)
theorem wrap_next (i : Nat) (h : i < 9223372036854775807) : wrap64 ((i : Int) + 1) = ((i + 1 : Nat) : Int) := by unfold wrap64; omega
def nbl (bs : List UInt8) : List Int := bs.map fun c => (c.toNat : Int)
theorem ba_app (a b : List UInt8) : ba a ++ ba b = ba (a ++ b) := ByteArray.ext (Array.toList_inj.1 (by simp))
theorem ba_size (l : List UInt8) : (ba l).size = l.length := by simp [ba, ByteArray.size]
theorem quote_from (bs : List UInt8) (hl : bs.length ≤ 1000000) : ∀ (d i : Nat) (acc : List UInt8), bs.length - i = d → i ≤ bs.length → acc.length ≤ 4 * i + 1 → Ev (fun k => odometerref23_Quote.l0 k (nbl bs) (ba acc) (i : Int)) (ba (acc ++ (bs.drop i).flatMap tell ++ [34]))
  | 0, i, acc, hd, hi, ha => by
    refine Ev.step (f := fun _ => some (ba (acc ++ [34]))) (fun k => ?_) (by rw [List.drop_eq_nil_of_le (by omega)]; simpa using Ev.now (ba (acc ++ [34])))
    simp only [odometerref23_Quote.l0]
    rw [if_neg (by simp [nbl]; omega), if_pos (by rw [ba_size]; omega)]
    exact congrArg some (ba_app acc [34])
  | d + 1, i, acc, hd, hi, ha => by
    have hlt : i < bs.length := by omega
    have h4 : (tell bs[i]).length ≤ 4 := of_lt (p := fun c => (tell c).length ≤ 4) (by decide +kernel) _
    have ih := quote_from bs hl d (i + 1) (acc ++ tell bs[i]) (by omega) (by omega) (by rw [List.length_append]; omega)
    have hx : rd (nbl bs) (i : Int) = ((bs[i]).toNat : Int) := by simp [rd, nbl, List.getD, hlt]
    refine Ev.step (f := fun k => (odometerref23_told.f k ((bs[i]).toNat : Int)).bind fun t => if (ba acc).size + t.size ≤ 9223372036854775807 then odometerref23_Quote.l0 k (nbl bs) (ba acc ++ t) ((i + 1 : Nat) : Int) else none) (fun k => ?_) ?_
    · simp only [odometerref23_Quote.l0]
      rw [if_pos (by simp [nbl]; omega), if_pos (by omega), hx, wrap_next i (by omega)]
    · refine Ev.bind (told_ev bs[i]) ?_
      refine Ev.congr (f := fun k => odometerref23_Quote.l0 k (nbl bs) (ba (acc ++ tell bs[i])) ((i + 1 : Nat) : Int)) (fun k => ?_) ?_
      · have h1 := ba_size acc
        have h2 := ba_size (tell bs[i])
        rw [if_pos (by omega), ba_app]
      · rw [List.drop_eq_getElem_cons hlt, List.flatMap_cons, ← List.append_assoc acc]
        exact ih
theorem quote_ev (bs : List UInt8) (hl : bs.length ≤ 1000000) : Ev (fun k => odometerref23_Quote.f k (nbl bs)) (ba (quote bs)) := quote_from bs hl _ 0 [34] rfl (by omega) (by simp)
theorem list_eq {a b : ByteArray} : (a.toList = b.toList) ↔ a.data.toList = b.data.toList := by rw [Lib.toList_data, Lib.toList_data]
theorem ext_take (X : ByteArray) (n : Nat) (h : n ≤ X.size) : (X.extract 0 n).data.toList = X.data.toList.take n := by rw [Lib.extract_data]; simp
theorem ext_drop (X : ByteArray) (n : Nat) : (X.extract n X.size).data.toList = X.data.toList.drop n := Lib.extract_to_end X n
theorem mod_byte (c : Nat) (h : c < 256) : ((c : Int)) % 256 = ((UInt8.ofNat c).toNat : Int) := by simp
theorem nbl_snoc (os : List UInt8) (c : UInt8) : nbl os ++ [(c.toNat : Int)] = nbl (os ++ [c]) := by simp [nbl]
/-- One round of the search, at c. -/
theorem l1_round (k : Nat) (X : ByteArray) (os : List UInt8) (n c : Nat) (hn : n ≤ X.size) (hc : c < 256) (hl : os.length ≤ 1000000) (T : List UInt8) (hT : T = X.data.toList.take n) :
    odometerref23_Unquote.l1 (k + 2) X (nbl os) n false c = (odometerref23_told.f k ((UInt8.ofNat c).toNat : Int)).bind fun t => if t.data.toList = T then odometerref23_Unquote.l1 k X (nbl (os ++ [UInt8.ofNat c])) n true ((c + 1 : Nat) : Int) else odometerref23_Unquote.l1 k X (nbl os) n false ((c + 1 : Nat) : Int) := by
  subst hT
  simp only [odometerref23_Unquote.l1]
  rw [if_pos (by omega)]
  simp only [odometerref23_Unquote.j5, Bool.not_false, if_true]
  rw [mod_byte c hc]
  congr 1
  funext t
  have hlen : (nbl os).length < 140737488355328 := by simp [nbl]; omega
  rw [if_pos (by omega), if_pos (by omega), wrap_next c (by omega), nbl_snoc]
  simp only [hlen, if_true]
  have e : (t.toList = (X.extract 0 ((n : Int)).toNat).toList) = (t.data.toList = X.data.toList.take n) := by
    rw [Int.toNat_natCast, list_eq, ext_take X n hn]
  simp only [e]
theorem l1_out (k : Nat) (X : ByteArray) (l : List Int) (n c : Nat) (hn : n ≤ X.size) : odometerref23_Unquote.l1 (k + 2) X l n true c = odometerref23_Unquote.l0 k (X.extract n X.size) l := by
  simp only [odometerref23_Unquote.l1]
  by_cases hc : (c : Int) < 256
  · rw [if_pos hc]
    simp only [odometerref23_Unquote.j5, Bool.not_true, if_true]
    rw [if_neg (by decide), if_pos (by omega), if_pos (by omega), Int.toNat_natCast]
  · rw [if_neg hc]
    simp only [odometerref23_Unquote.j5, if_true]
    rw [if_neg (by decide), if_pos (by omega), if_pos (by omega), Int.toNat_natCast]
theorem l1_end (k : Nat) (X : ByteArray) (l : List Int) (n c : Nat) (hc : 256 ≤ c) : odometerref23_Unquote.l1 (k + 2) X l n false c = some ([], false) := by
  simp only [odometerref23_Unquote.l1]
  rw [if_neg (by omega)]
  simp only [odometerref23_Unquote.j5]
  rw [if_neg (by decide), if_neg (by decide)]
theorem Ev.step2 {α : Type} {g f : Nat → Option α} {r : α} (h : ∀ k, g (k + 2) = f k) (k : Ev f r) : Ev g r :=
  Ev.step (f := fun k => g (k + 1)) (fun _ => rfl) (Ev.step (f := f) (fun k => h k) k)
/-- The byte is found. -/
theorem search_yes (X : ByteArray) (os : List UInt8) (n : Nat) (hn : n ≤ X.size) (hl : os.length ≤ 1000000) (d : UInt8) (hd : tell d = X.data.toList.take n) (r : List Int × Bool)
    (hr : Ev (fun k => odometerref23_Unquote.l0 k (X.extract n X.size) (nbl (os ++ [d]))) r) : ∀ (m c : Nat), d.toNat - c = m → c ≤ d.toNat → Ev (fun k => odometerref23_Unquote.l1 k X (nbl os) n false c) r
  | 0, c, hm, hc => by
    have hcd : c = d.toNat := by omega
    have hlt := d.toNat_lt
    have e : UInt8.ofNat c = d := by rw [hcd]; exact UInt8.ofNat_toNat
    refine Ev.step2 (fun k => l1_round k X os n c hn (by omega) hl _ rfl) ?_
    refine Ev.bind (told_ev _) ?_
    refine Ev.congr (f := fun k => odometerref23_Unquote.l1 k X (nbl (os ++ [d])) n true ((c + 1 : Nat) : Int)) (fun k => ?_) ?_
    · rw [e, if_pos (show (ba (tell d)).data.toList = _ from by simpa using hd)]
    · exact Ev.step2 (fun k => l1_out k X _ n (c + 1) hn) hr
  | m + 1, c, hm, hc => by
    have hlt := d.toNat_lt
    have ih := search_yes X os n hn hl d hd r hr m (c + 1) (by omega) (by omega)
    have hne : tell (UInt8.ofNat c) ≠ X.data.toList.take n := fun h => by
      have := tell_inj (h.trans hd.symm)
      have h2 : (UInt8.ofNat c).toNat = c := by simp; omega
      rw [this] at h2
      omega
    refine Ev.step2 (fun k => l1_round k X os n c hn (by omega) hl _ rfl) ?_
    refine Ev.bind (told_ev _) ?_
    exact Ev.congr (fun k => by rw [if_neg (show ¬ (ba (tell (UInt8.ofNat c))).data.toList = _ from by simpa using hne)]) ih
/-- No byte is told so. -/
theorem search_no (X : ByteArray) (os : List UInt8) (n : Nat) (hn : n ≤ X.size) (hl : os.length ≤ 1000000) (hd : ∀ d, tell d ≠ X.data.toList.take n) : ∀ (m c : Nat), 256 - c = m → Ev (fun k => odometerref23_Unquote.l1 k X (nbl os) n false c) ([], false)
  | 0, c, hm => Ev.step2 (f := fun _ => some ([], false)) (fun k => l1_end k X _ n c (by omega)) (Ev.now _)
  | m + 1, c, hm => by
    refine Ev.step2 (fun k => l1_round k X os n c hn (by omega) hl _ rfl) ?_
    refine Ev.bind (told_ev _) ?_
    exact Ev.congr (fun k => by rw [if_neg (show ¬ (ba (tell (UInt8.ofNat c))).data.toList = _ from by simpa using hd _)]) (search_no X os n hn hl hd m (c + 1) (by omega))
theorem bt_list (X : ByteArray) (i : Nat) : bt X (i : Int) = ((X.data.toList.getD i 0).toNat : Int) := by
  unfold bt
  split
  · rename_i h
    rw [← Lib.getD_at X i h]
    rfl
  · rename_i h
    rw [Int.toNat_natCast, Lib.size_eq] at h
    have e : X.data.toList[i]? = none := List.getElem?_eq_none (by omega)
    rw [List.getD_eq_getElem?_getD, e]
    rfl
/-- The head of a round: how many bytes tell what stands there. -/
theorem l0_round (k : Nat) (X : ByteArray) (l : List Int) (hX : X.data.toList ≠ []) : odometerref23_Unquote.l0 (k + 3) X l = if (width X.data.toList : Int) > X.size then some ([], false) else odometerref23_Unquote.l1 k X l (width X.data.toList) false 0 := by
  have hsz := Lib.size_eq X
  have hpos : 0 < X.size := by
    rcases Nat.eq_zero_or_pos X.size with h | h
    · exact absurd (List.length_eq_zero_iff.1 (by omega)) hX
    · exact h
  have b0 := bt_list X 0
  have b1 := bt_list X 1
  have hh : X.data.toList.headD 0 = X.data.toList.getD 0 0 := by cases X.data.toList <;> rfl
  simp only [odometerref23_Unquote.l0]
  rw [if_pos (by omega), if_pos (by omega)]
  have e92 : (bt X 0 = 92) = (X.data.toList.headD 0 = 92) := by
    rw [show (0 : Int) = ((0 : Nat) : Int) from rfl, b0, hh]
    refine propext ⟨fun h => UInt8.toNat_inj.1 (by show _ = 92; omega), fun h => by rw [h]; rfl⟩
  have e120 : (bt X 1 = 120) = (X.data.toList.getD 1 0 = 120) := by
    rw [show (1 : Int) = ((1 : Nat) : Int) from rfl, b1]
    refine propext ⟨fun h => UInt8.toNat_inj.1 (by show _ = 120; omega), fun h => by rw [h]; rfl⟩
  by_cases h92 : X.data.toList.headD 0 = 92
  · rw [if_pos (e92 ▸ h92)]
    simp only [odometerref23_Unquote.j2]
    by_cases h1 : 1 < X.data.toList.length
    · rw [if_pos (show decide ((X.size : Int) > 1) = true from decide_eq_true (by omega)), if_pos (by omega)]
      by_cases h120 : X.data.toList.getD 1 0 = 120
      · have hw : width X.data.toList = 4 := by unfold width; rw [if_pos ⟨h92, h1⟩, if_pos h120]
        rw [if_pos (e120 ▸ h120), hw]
        simp only [odometerref23_Unquote.j3]
        rfl
      · have hw : width X.data.toList = 2 := by unfold width; rw [if_pos ⟨h92, h1⟩, if_neg h120]
        rw [if_neg (e120 ▸ h120), hw]
        simp only [odometerref23_Unquote.j3]
        rfl
    · have hw : width X.data.toList = 1 := by unfold width; rw [if_neg (fun h => h1 h.2)]
      rw [if_neg (show ¬ decide ((X.size : Int) > 1) = true from by simp; omega), hw]
      simp only [odometerref23_Unquote.j3]
      rfl
  · have hw : width X.data.toList = 1 := by unfold width; rw [if_neg (fun h => h92 h.1)]
    rw [if_neg (e92 ▸ h92), hw]
    simp only [odometerref23_Unquote.j2]
    rw [if_neg (by decide)]
    simp only [odometerref23_Unquote.j3]
    rfl
/-- The loop: what it answers of what is left. -/
theorem l0_ev : ∀ (m : Nat) (X : ByteArray) (os : List UInt8), X.data.toList.length ≤ m → os.length + X.data.toList.length ≤ 1000000 →
    ∃ (l : List Int) (is : Bool), Ev (fun k => odometerref23_Unquote.l0 k X (nbl os)) (l, is) ∧ ((is = true ∧ ∃ b', X.data.toList = b'.flatMap tell ∧ l = nbl (os ++ b')) ∨ (is = false ∧ l = [] ∧ ∀ b' : List UInt8, X.data.toList ≠ b'.flatMap tell)) := by
  intro m
  induction m with
  | zero =>
    intro X os hm hl
    have h0 : X.data.toList = [] := List.length_eq_zero_iff.1 (by omega)
    have hsz := Lib.size_eq X
    rw [h0] at hsz
    simp only [List.length_nil] at hsz
    refine ⟨nbl os, true, Ev.step (f := fun _ => some (nbl os, true)) (fun k => ?_) (Ev.now _), .inl ⟨rfl, [], by rw [h0]; rfl, by simp⟩⟩
    simp only [odometerref23_Unquote.l0]
    rw [if_neg (by omega)]
  | succ m ih =>
    intro X os hm hl
    by_cases h0 : X.data.toList = []
    · have hsz := Lib.size_eq X
      rw [h0] at hsz
      simp only [List.length_nil] at hsz
      refine ⟨nbl os, true, Ev.step (f := fun _ => some (nbl os, true)) (fun k => ?_) (Ev.now _), .inl ⟨rfl, [], by rw [h0]; rfl, by simp⟩⟩
      simp only [odometerref23_Unquote.l0]
      rw [if_neg (by omega)]
    · have hsz := Lib.size_eq X
      have hround := fun k l => l0_round k X l h0
      by_cases hw : X.size < width X.data.toList
      · refine ⟨[], false, Ev.step (f := fun k => odometerref23_Unquote.l0 (k + 1) X (nbl os)) (fun _ => rfl) (Ev.step2 (f := fun _ => some ([], false)) (fun k => ?_) (Ev.now _)), .inr ⟨rfl, rfl, fun b' hb => ?_⟩⟩
        · rw [hround, if_pos (by omega)]
        · cases b' with
          | nil => exact h0 hb
          | cons d b' =>
            rw [List.flatMap_cons] at hb
            have h1 := width_app d (b'.flatMap tell)
            rw [← hb] at h1
            rw [hsz, hb, List.length_append] at hw
            rw [hb] at h1
            omega
      · by_cases hd : ∃ d, tell d = X.data.toList.take (width X.data.toList)
        · obtain ⟨d, hd⟩ := hd
          have hne := (tell_head d).2
          have hpos : 0 < width X.data.toList := by
            rcases Nat.eq_zero_or_pos (width X.data.toList) with h | h
            · rw [h] at hd; exact absurd hd hne
            · exact h
          have hX : X.data.toList = tell d ++ X.data.toList.drop (width X.data.toList) := by rw [hd, List.take_append_drop]
          have hY := ext_drop X (width X.data.toList)
          have hYl : (X.extract (width X.data.toList) X.size).data.toList.length + width X.data.toList = X.data.toList.length := by rw [hY, List.length_drop]; omega
          obtain ⟨l, is, hev, hres⟩ := ih (X.extract (width X.data.toList) X.size) (os ++ [d]) (by omega) (by rw [List.length_append]; simp only [List.length_cons, List.length_nil]; omega)
          refine ⟨l, is, Ev.step (f := fun k => odometerref23_Unquote.l0 (k + 1) X (nbl os)) (fun _ => rfl) (Ev.step2 (f := fun k => odometerref23_Unquote.l1 k X (nbl os) (width X.data.toList) false ((0 : Nat) : Int)) (fun k => ?_) (search_yes X os _ (by omega) (by omega) d hd (l, is) hev _ 0 rfl (by omega))), ?_⟩
          · rw [hround, if_neg (by omega)]
            rfl
          · rw [hY] at hres
            rcases hres with ⟨h1, b', h2, h3⟩ | ⟨h1, h2, h3⟩
            · exact .inl ⟨h1, d :: b', by rw [hX, List.flatMap_cons, ← h2], by rw [h3]; simp⟩
            · refine .inr ⟨h1, h2, fun b' hb => ?_⟩
              cases b' with
              | nil => exact h0 hb
              | cons e b' =>
                rw [List.flatMap_cons] at hb
                have ht := take_app e (b'.flatMap tell)
                rw [← hb, ← hd] at ht
                exact h3 b' ht.2
        · refine ⟨[], false, Ev.step (f := fun k => odometerref23_Unquote.l0 (k + 1) X (nbl os)) (fun _ => rfl) (Ev.step2 (f := fun k => odometerref23_Unquote.l1 k X (nbl os) (width X.data.toList) false ((0 : Nat) : Int)) (fun k => ?_) (search_no X os _ (by omega) (by omega) (fun d h => hd ⟨d, h⟩) _ 0 rfl)), .inr ⟨rfl, rfl, fun b' hb => ?_⟩⟩
          · rw [hround, if_neg (by omega)]
            rfl
          · cases b' with
            | nil => exact h0 hb
            | cons e b' =>
              rw [List.flatMap_cons] at hb
              have ht := take_app e (b'.flatMap tell)
              rw [← hb] at ht
              exact hd ⟨e, ht.1.symm⟩
/-- The reference's Unquote. -/
theorem unq_ev (s : ByteArray) (hs : s.size ≤ 1000000) : ∃ (l : List Int) (is : Bool), Ev (fun k => odometerref23_Unquote.f k s) (l, is) ∧ ((is = true ∧ ∃ b, quote b = s.data.toList ∧ l = nbl b) ∨ (is = false ∧ l = [] ∧ ∀ b, quote b ≠ s.data.toList)) := by
  have hsz := Lib.size_eq s
  have hj0 : ∀ k, odometerref23_Unquote.j0 (k + 1) s true = some ([], false) := fun k => by simp [odometerref23_Unquote.j0]
  have bt0 : 0 < s.size → bt s 0 = ((s.data.toList.headD 0).toNat : Int) := fun h => by
    rw [show (0 : Int) = ((0 : Nat) : Int) from rfl, bt_list]
    cases s.data.toList <;> rfl
  by_cases h2 : s.size < 2
  · refine ⟨[], false, Ev.step (f := fun _ => some ([], false)) (fun k => ?_) (Ev.now _), .inr ⟨rfl, rfl, Plain.short_none (by omega)⟩⟩
    unfold odometerref23_Unquote.f
    rw [if_pos (by omega), hj0]
  · have hw : wrap64 ((s.size : Int) - 1) = ((s.size - 1 : Nat) : Int) := by unfold wrap64; omega
    have hb1 := bt_list s (s.size - 1)
    obtain ⟨a, z, mid, hl⟩ : ∃ a z mid, s.data.toList = a :: (mid ++ [z]) := by
      cases h : s.data.toList with
      | nil => rw [h] at hsz; simp only [List.length_nil] at hsz; omega
      | cons a t =>
        rcases List.eq_nil_or_concat t with rfl | ⟨mid, z, rfl⟩
        · rw [h] at hsz; simp only [List.length_cons, List.length_nil] at hsz; omega
        · exact ⟨a, z, mid, by simp⟩
    have hml : mid.length = s.size - 2 := by rw [hsz, hl]; simp
    have hz : s.data.toList.getD (s.size - 1) 0 = z := by
      rw [hl, show s.size - 1 = mid.length + 1 by omega]
      simp [List.getD]
    have ha : s.data.toList.headD 0 = a := by rw [hl]; rfl
    have hf : ∀ k, odometerref23_Unquote.f k s = if (a.toNat : Int) = 34 then odometerref23_Unquote.j0 k s ((z.toNat : Int) != 34) else odometerref23_Unquote.j0 k s true := fun k => by
      unfold odometerref23_Unquote.f
      rw [if_neg (by omega), if_pos (by omega), bt0 (by omega), ha]
      by_cases hA : (a.toNat : Int) = 34
      · simp only [hA, if_true]
        rw [hw, if_pos (show (0 : Int) ≤ ((s.size - 1 : Nat) : Int) by omega), if_pos (show ((s.size - 1 : Nat) : Int) < (s.size : Int) by omega), hb1, hz]
      · rw [if_neg hA, if_neg hA]
    by_cases h34 : a = 34 ∧ z = 34
    · obtain ⟨rfl, rfl⟩ := h34
      have hX : (s.extract 1 (s.size - 1)).data.toList = mid := by
        rw [Lib.extract_data, hl]
        simp only [List.drop_succ_cons, List.drop_zero]
        rw [show s.size - 1 - 1 = mid.length by omega, List.take_left]
      obtain ⟨l, is, hev, hres⟩ := l0_ev _ (s.extract 1 (s.size - 1)) [] (Nat.le_refl _) (by rw [hX]; simp; omega)
      refine ⟨l, is, Ev.step (f := fun k => odometerref23_Unquote.l0 k (s.extract 1 (s.size - 1)) (nbl [])) (fun k => ?_) hev, ?_⟩
      · rw [hf, if_pos (by decide)]
        simp only [odometerref23_Unquote.j0]
        rw [if_neg (by decide), hw, if_pos (by omega), if_pos (by omega), Int.toNat_natCast]
        rfl
      · rw [hX] at hres
        rcases hres with ⟨h1, b', h3, h4⟩ | ⟨h1, h3, h4⟩
        · exact .inl ⟨h1, b', by rw [hl, h3]; rfl, by simpa using h4⟩
        · refine .inr ⟨h1, h3, fun b hb => h4 b ?_⟩
          rw [hl] at hb
          unfold quote at hb
          simp only [List.cons.injEq, true_and] at hb
          exact (List.append_cancel_right hb).symm
    · refine ⟨[], false, Ev.step (f := fun _ => some ([], false)) (fun k => ?_) (Ev.now _), .inr ⟨rfl, rfl, fun b hb => h34 ?_⟩⟩
      · rw [hf]
        by_cases hA : a = 34
        · have hZ : ((z.toNat : Int) != 34) = true := by
            rw [bne_iff_ne]
            intro h
            exact h34 ⟨hA, UInt8.toNat_inj.1 (by show z.toNat = 34; omega)⟩
          rw [hA, if_pos (by decide), hZ, hj0]
        · rw [if_neg (show ¬ ((a.toNat : Int) = 34) from fun h => hA (UInt8.toNat_inj.1 (by show a.toNat = 34; omega))), hj0]
      · rw [hl] at hb
        unfold quote at hb
        simp only [List.cons.injEq] at hb
        have h2 := congrArg List.getLast? hb.2
        simp at h2
        exact ⟨hb.1.symm, h2.symm⟩
end Go.Proofs.YtjapnbghnnbamaaGreatDoor.R
namespace Go.Proofs.YtjapnbghnnbamaaGreatDoor.Rt
open Go.RowKit Go.Proofs.YtjapnbghnnbamaaGreatDoorW.PrintWords Go.Proofs.YtjapnbghnnbamaaGreatDoor.PR Go.Proofs.YtjapnbghnnbamaaGreatDoor.K Go.Proofs.YtjapnbghnnbamaaGreatDoor.S Go.Proofs.YtjapnbghnnbamaaGreatDoor.R
open Go.Proofs.YtjapnbghnnbamaaGreatDoor.L (lineL MayE)
open Go.Proofs.YtjapnbghnnbamaaGreatDoor.T (textL textS textL_succ textL_le TB)
open Go.Proofs.YtjapnbghnnbamaaGreatDoor.Plain (quote)
set_option linter.unusedVariables false
set_option linter.unusedSimpArgs false
theorem word_eq (k : Int) : odometerref23_word.f k = some (kn k) := by
  unfold odometerref23_word.f
  simp only [Option.bind_some]
  by_cases h1 : k < 1
  · rw [if_pos h1]
    unfold kn
    rw [if_neg (by omega), if_neg (by omega), if_neg (by omega), if_neg (by omega), if_neg (by omega), if_neg (by omega), if_neg (by omega)]
  · rw [if_neg h1]
    by_cases h2 : k > 7
    · rw [if_pos h2]
      unfold kn
      rw [if_neg (by omega), if_neg (by omega), if_neg (by omega), if_neg (by omega), if_neg (by omega), if_neg (by omega), if_neg (by omega)]
    · rw [if_neg h2]
      have ek : k = 1 ∨ k = 2 ∨ k = 3 ∨ k = 4 ∨ k = 5 ∨ k = 6 ∨ k = 7 := by omega
      rcases ek with rfl | rfl | rfl | rfl | rfl | rfl | rfl <;> rfl
theorem kn_nil (k : Int) : (kn k).toList = ([] : List UInt8) ↔ ¬ (1 ≤ k ∧ k ≤ 7) := by
  by_cases h : 1 ≤ k ∧ k ≤ 7
  · have ek : k = 1 ∨ k = 2 ∨ k = 3 ∨ k = 4 ∨ k = 5 ∨ k = 6 ∨ k = 7 := by omega
    refine ⟨fun e => ?_, fun e => absurd h e⟩
    rw [Lib.toList_data] at e
    rcases ek with rfl | rfl | rfl | rfl | rfl | rfl | rfl <;> exact absurd e (by decide)
  · refine ⟨fun _ => h, fun _ => ?_⟩
    rw [Lib.toList_data]
    unfold kn
    rw [if_neg (by omega), if_neg (by omega), if_neg (by omega), if_neg (by omega), if_neg (by omega), if_neg (by omega), if_neg (by omega)]
theorem may_len (k a n : Int) (b : List UInt8) : MayE ⟨k, a, n, b⟩ ↔ (1 ≤ k ∧ k ≤ 7 ∧ 0 ≤ a ∧ a ≤ 2147483647 ∧ (k = 1 → a = 0 ∧ 0 ≤ n ∧ n ≤ 1125899906842624 ∧ b.length = 0) ∧ (k = 7 → a = 0 ∧ (n = 0 ∨ n = 1) ∧ b.length = 0) ∧ (k = 6 → n = 0 ∧ b.length ≤ 65536) ∧ (k ≠ 1 → k ≠ 7 → k ≠ 6 → n = 0 ∧ b.length = 0)) := by
  unfold MayE
  simp only [List.length_eq_zero_iff]
theorem ex_of {Y : Option Bool} {P : Prop} (h : ∀ X, Y = X → ∃ r, X = some r ∧ (r = true ↔ P)) : ∃ r, Y = some r ∧ (r = true ↔ P) := h Y rfl
theorem may_two (k a n : Int) (b : List UInt8) : ∃ r, odometerref23_May.f 2 k a n (nbl b) = some r ∧ (r = true ↔ MayE ⟨k, a, n, b⟩) := by
  have hl : (nbl b).length = b.length := by simp [nbl]
  rw [may_len]
  generalize hm : b.length = m at *
  unfold odometerref23_May.f
  rw [word_eq]
  simp only [Option.bind_some]
  by_cases c1 : 1 ≤ k ∧ k ≤ 7
  · rw [if_neg (fun e => (kn_nil k).1 e c1)]
    by_cases c2 : a < 0
    · rw [if_pos c2]; exact ⟨false, rfl, by simp only [Bool.false_eq_true, false_iff]; omega⟩
    rw [if_neg c2]
    by_cases c3 : a > 2147483647
    · rw [if_pos c3]; exact ⟨false, rfl, by simp only [Bool.false_eq_true, false_iff]; omega⟩
    rw [if_neg c3]
    by_cases c4 : n < 0
    · rw [if_pos c4]; exact ⟨false, rfl, by simp only [Bool.false_eq_true, false_iff]; omega⟩
    rw [if_neg c4]
    simp only [odometerref23_May.j0, hl]
    by_cases c5 : (m : Int) > 65536
    · rw [if_pos (decide_eq_true c5)]; exact ⟨false, rfl, by simp only [Bool.false_eq_true, false_iff]; omega⟩
    rw [if_neg (by simpa using c5)]
    have fin : (k = 6 ∨ m = 0) → ∃ r, odometerref23_May.j1 1 false k a n (nbl b) = some r ∧ (r = true ↔ 1 ≤ k ∧ k ≤ 7 ∧ 0 ≤ a ∧ a ≤ 2147483647 ∧ (k = 1 → a = 0 ∧ 0 ≤ n ∧ n ≤ 1125899906842624 ∧ m = 0) ∧ (k = 7 → a = 0 ∧ (n = 0 ∨ n = 1) ∧ m = 0) ∧ (k = 6 → n = 0 ∧ m ≤ 65536) ∧ (k ≠ 1 → k ≠ 7 → k ≠ 6 → n = 0 ∧ m = 0)) := fun hm => by
      simp only [odometerref23_May.j1]
      rw [if_neg (by simp)]
      by_cases d1 : k = 1
      · rw [if_pos d1]
        by_cases d2 : a = 0
        · rw [if_pos d2]; exact ⟨_, rfl, by rw [decide_eq_true_iff]; omega⟩
        · rw [if_neg d2]; exact ⟨false, rfl, by simp only [Bool.false_eq_true, false_iff]; omega⟩
      rw [if_neg d1]
      by_cases d7 : k = 7
      · rw [if_pos d7]
        by_cases d2 : a = 0
        · rw [if_pos d2]; exact ⟨_, rfl, by rw [decide_eq_true_iff]; omega⟩
        · rw [if_neg d2]; exact ⟨false, rfl, by simp only [Bool.false_eq_true, false_iff]; omega⟩
      rw [if_neg d7]
      exact ⟨_, rfl, by rw [beq_iff_eq]; omega⟩
    by_cases c6 : (m : Int) > 0
    · rw [if_pos c6]
      by_cases c7 : k = 6
      · rw [show (k != 6) = false by simp [c7]]
        exact fin (.inl c7)
      · rw [show (k != 6) = true by simp [c7]]
        exact ⟨false, rfl, by simp only [Bool.false_eq_true, false_iff]; omega⟩
    · rw [if_neg c6]
      exact fin (.inr (by omega))
  · rw [if_pos ((kn_nil k).2 c1)]
    exact ⟨false, rfl, by simp only [Bool.false_eq_true, false_iff]; omega⟩
theorem may_ev (k a n : Int) (b : List UInt8) : ∃ r, Ev (fun j => odometerref23_May.f j k a n (nbl b)) r ∧ (r = true ↔ MayE ⟨k, a, n, b⟩) := by
  obtain ⟨r, h, hr⟩ := may_two k a n b
  exact ⟨r, Ev.of (fun j => odometerref23_May.mono _ _ _ _ j) h, hr⟩
/-! ### digits -/
theorem str_one (u : Nat) : strOfNums [((u : Int) % 256)] = ba [UInt8.ofNat u] := by
  refine ByteArray.ext (Array.toList_inj.1 ?_)
  simp [strOfNums]
  rw [← UInt8.toNat_inj]
  simp
  omega
theorem dig_byte (u : Nat) (h : u < 18446744073709551616) : (IntKind.u64.wrap (48 + (Int.tmod (u : Int) 10))) % 256 = (((48 + u % 10 : Nat) : Int) % 256) := by
  have : Int.tmod (u : Int) 10 = ((u % 10 : Nat) : Int) := by rw [Int.tmod_eq_emod_of_nonneg (by omega)]; omega
  rw [this]
  unfold IntKind.wrap
  simp [IntKind.bits, IntKind.signed]
theorem dig_char (u : Nat) (h : u < 18446744073709551616) : strOfNums [(IntKind.u64.wrap (48 + (Int.tmod (u : Int) 10))) % 256] = ba [UInt8.ofNat (48 + u % 10)] := by
  rw [dig_byte u h]
  exact str_one _
theorem div_ten (u : Nat) (h : u < 18446744073709551616) : IntKind.u64.wrap (Int.tdiv (u : Int) 10) = ((u / 10 : Nat) : Int) := by
  have : Int.tdiv (u : Int) 10 = ((u / 10 : Nat) : Int) := by rw [Int.tdiv_eq_ediv_of_nonneg (by omega)]; omega
  rw [this]
  unfold IntKind.wrap
  simp [IntKind.bits, IntKind.signed]
  omega
theorem dig_round (k : Nat) (n : Int) (u : Nat) (h : u < 18446744073709551616) (acc : List UInt8) (hl : acc.length ≤ 1000) (hu : 0 < u ∨ acc = []) :
    odometerref01_Digits.l0 (k + 1) n (u : Int) (ba acc) = odometerref01_Digits.l0 k n ((u / 10 : Nat) : Int) (ba (UInt8.ofNat (48 + u % 10) :: acc)) := by
  have hz : (ba [UInt8.ofNat (48 + u % 10)]).size + (ba acc).size ≤ 9223372036854775807 := by rw [ba_size, ba_size]; simp; omega
  have ha : ba [UInt8.ofNat (48 + u % 10)] ++ ba acc = ba (UInt8.ofNat (48 + u % 10) :: acc) := ba_app _ _
  simp only [odometerref01_Digits.l0]
  by_cases h0 : (u : Int) > 0
  · rw [if_pos h0]
    simp only [Option.bind_some]
    rw [dig_char u h, div_ten u h, if_pos hz, ha]
  · have e : acc = [] := by rcases hu with hu | hu; exact absurd (by omega) h0; exact hu
    rw [if_neg h0, if_pos (by rw [e, Lib.toList_data])]
    simp only [Option.bind_some]
    rw [dig_char u h, div_ten u h, if_pos hz, ha]
theorem dig_from (n : Int) (hn : 0 ≤ n) (u : Nat) : u < 18446744073709551616 → ∀ acc : List UInt8, (Lib.decDigits u).length + acc.length ≤ 1000 → (0 < u ∨ acc = []) → Ev (fun k => odometerref01_Digits.l0 k n (u : Int) (ba acc)) (ba (Lib.decDigits u ++ acc)) := by
  induction u using Nat.strongRecOn with
  | _ u ih =>
    intro hu acc hl h0
    refine Ev.step (f := fun k => odometerref01_Digits.l0 k n ((u / 10 : Nat) : Int) (ba (UInt8.ofNat (48 + u % 10) :: acc))) (fun k => dig_round k n u hu acc (by omega) h0) ?_
    by_cases h10 : u < 10
    · have e0 : u / 10 = 0 := by omega
      have e1 : u % 10 = u := by omega
      rw [e0, e1, Lib.decDigits, dif_pos h10]
      refine Ev.step (f := fun _ => some (ba (UInt8.ofNat (48 + u) :: acc))) (fun k => ?_) (Ev.now _)
      simp only [odometerref01_Digits.l0]
      rw [if_neg (by simp), if_neg (by rw [Lib.toList_data]; simp), if_neg (by omega)]
    · rw [Lib.decDigits, dif_neg h10, List.length_append] at hl
      rw [Lib.decDigits, dif_neg h10, List.append_assoc]
      exact ih (u / 10) (by omega) (by omega) (UInt8.ofNat (48 + u % 10) :: acc) (by simp at hl ⊢; omega) (.inl (by omega))
theorem wrap_u (n : Int) (h0 : 0 ≤ n) (h1 : n ≤ 9223372036854775807) : IntKind.u64.wrap n = n := by
  unfold IntKind.wrap
  simp [IntKind.bits, IntKind.signed]
  omega
theorem itoa_le (n : Int) (h0 : 0 ≤ n) (h1 : n ≤ 9223372036854775807) : (Lib.itoa n).length ≤ 21 := by have := Lib.itoa_length_le n (by omega) h1; omega
theorem dig_ev (n : Int) (h0 : 0 ≤ n) (h1 : n ≤ 9223372036854775807) : Ev (fun k => odometerref01_Digits.f k n) (ba (Lib.itoa n)) := by
  have hl := itoa_le n h0 h1
  have e : Lib.itoa n = Lib.decDigits n.toNat := by unfold Lib.itoa; rw [if_neg (by omega)]
  refine Ev.congr (f := fun k => odometerref01_Digits.j0 k n n) (fun k => by unfold odometerref01_Digits.f; rw [if_neg (by omega), wrap_u n h0 h1]) ?_
  refine Ev.step (f := fun k => odometerref01_Digits.l0 k n ((n.toNat : Nat) : Int) (ba [])) (fun k => ?_) ?_
  · simp only [odometerref01_Digits.j0]
    rw [Int.toNat_of_nonneg h0]
  · rw [e] at hl ⊢
    have := dig_from n h0 n.toNat (by omega) [] (by simp; omega) (.inr rfl)
    rwa [List.append_nil] at this
theorem ev_if {α : Type} {c : Prop} [Decidable c] (h : c) {x r : α} (hx : x = r) : Ev (fun _ => if c then some x else none) r := by rw [if_pos h, hx]; exact Ev.now r
theorem kn_le (k : Int) : (kn k).size ≤ 7 := by
  unfold kn; repeat' split
  all_goals decide
theorem app3 (k : ByteArray) (l : List UInt8) : (k ++ (⟨#[32]⟩ : ByteArray)) ++ ba l = ba (k.data.toList ++ 32 :: l) := ByteArray.ext (Array.toList_inj.1 (by simp))
theorem line_ev (k a n : Int) (b : List UInt8) (hm : MayE ⟨k, a, n, b⟩) : Ev (fun j => odometerref23_Line.f j k a n (nbl b)) (ba (lineL ⟨k, a, n, b⟩)) := by
  have hm2 := (may_len k a n b).1 hm
  have hk := kn_le k
  have hs : (kn k ++ (⟨#[32]⟩ : ByteArray)).size ≤ 8 := by rw [ByteArray.size_append]; show (kn k).size + 1 ≤ 8; omega
  unfold lineL
  simp only
  have hz : (kn k).size + 1 ≤ 9223372036854775807 := by omega
  simp only [odometerref23_Line.f, word_eq, Option.bind_some, if_pos hz]
  by_cases h1 : k = 1
  · simp only [if_pos h1]
    have hi := itoa_le n (by omega) (by omega)
    have s1 := ba_size (Lib.itoa n)
    exact Ev.bind (dig_ev n (by omega) (by omega)) (ev_if (by omega) (app3 _ _))
  · simp only [if_neg h1]
    by_cases h7 : k = 7
    · simp only [if_pos h7]
      by_cases h0 : n = 1
      · simp only [if_pos h0]
        rw [if_neg (show ¬ n = 0 by omega)]
        exact ev_if (by omega) (app3 _ [121, 101, 115])
      · simp only [if_neg h0]
        rw [if_pos (show n = 0 by omega)]
        exact ev_if (by omega) (app3 _ [110, 111])
    · simp only [if_neg h7]
      have hi := itoa_le a (by omega) (by omega)
      by_cases h6 : k = 6
      · simp only [if_pos h6]
        have hq : (quote b).length ≤ 4 * b.length + 2 := L.quote_len b
        have s1 := ba_size (Lib.itoa a)
        have s2 := ba_size (quote b)
        have s3 : ((kn k ++ (⟨#[32]⟩ : ByteArray)) ++ ba (Lib.itoa a)).size ≤ 30 := by rw [ByteArray.size_append]; omega
        have s4 : (((kn k ++ (⟨#[32]⟩ : ByteArray)) ++ ba (Lib.itoa a)) ++ (⟨#[32]⟩ : ByteArray)).size ≤ 31 := by rw [ByteArray.size_append]; show _ + 1 ≤ 31; omega
        refine Ev.bind (dig_ev a (by omega) (by omega)) ?_
        have z5 : (kn k ++ (⟨#[32]⟩ : ByteArray)).size + (ba (Lib.itoa a)).size ≤ 9223372036854775807 := by omega
        have z6 : ((kn k ++ (⟨#[32]⟩ : ByteArray)) ++ ba (Lib.itoa a)).size + 1 ≤ 9223372036854775807 := by omega
        simp only [if_pos z5, if_pos z6]
        refine Ev.bind (quote_ev b (by omega)) (ev_if (by omega) ?_)
        exact ByteArray.ext (Array.toList_inj.1 (by simp))
      · simp only [if_neg h6]
        have s1 := ba_size (Lib.itoa a)
        exact Ev.bind (dig_ev a (by omega) (by omega)) (ev_if (by omega) (app3 _ _))
/-! ### entries -/
def so (e : En) : S35 := ⟨e.k, e.a, e.n, nbl e.b⟩
theorem rd_so (es : List En) (i : Nat) (h : i < es.length) : rd_T35 (es.map so) (i : Int) = so es[i] := by
  unfold rd_T35
  simp [List.getD, h]
theorem text_from (es : List En) (hl : es.length ≤ 1000000) (hsz : TB es) : ∀ (d i : Nat), es.length - i = d → i ≤ es.length → (∀ x ∈ es.take i, MayE x) → Ev (fun k => odometerref23_Text.l0 k (es.map so) (ba (textL (es.take i))) (i : Int)) (textS es) := by
  intro d
  induction d with
  | zero =>
    intro i hd hi hm
    obtain rfl : i = es.length := by omega
    rw [List.take_length] at hm ⊢
    refine Ev.step (f := fun _ => some (ba (textL es))) (fun k => ?_) ?_
    · simp only [odometerref23_Text.l0]
      rw [if_neg (by simp)]
    · unfold textS; rw [if_pos hm]; exact Ev.now _
  | succ d ih =>
    intro i hd hi hm
    have hlt : i < es.length := by omega
    obtain ⟨r, hr, hri⟩ := may_ev es[i].k es[i].a es[i].n es[i].b
    refine Ev.step (f := fun k => (odometerref23_May.f k es[i].k es[i].a es[i].n (nbl es[i].b)).bind fun t => if t = true then (odometerref23_Line.f k es[i].k es[i].a es[i].n (nbl es[i].b)).bind fun t2 => (if (ba (textL (es.take i))).size + t2.size ≤ 9223372036854775807 then (if (ba (textL (es.take i)) ++ t2).size + 1 ≤ 9223372036854775807 then odometerref23_Text.l0 k (es.map so) ((ba (textL (es.take i)) ++ t2) ++ (⟨#[10]⟩ : ByteArray)) ((i + 1 : Nat) : Int) else none) else none) else some (⟨#[]⟩ : ByteArray)) (fun k => ?_) ?_
    · simp only [odometerref23_Text.l0]
      rw [if_pos (by simp; omega), if_pos (by omega), rd_so es i hlt, wrap_next i (by omega)]
      rfl
    · refine Ev.bind hr ?_
      by_cases h : MayE es[i]
      · have e1 : r = true := hri.2 h
        refine Ev.congr (fun k => by rw [if_pos e1]) ?_
        have hsucc := textL_succ es i hlt
        have hle := hsz (i + 1) hlt (fun x hx => by
          rw [List.take_succ_eq_append_getElem hlt] at hx
          rcases List.mem_append.1 hx with hx | hx
          · exact hm x hx
          · simp only [List.mem_singleton] at hx; exact hx ▸ h)
        have z1 := ba_size (textL (es.take i))
        have z2 := ba_size (lineL es[i])
        rw [hsucc, List.length_append, List.length_append] at hle
        simp only [List.length_cons, List.length_nil] at hle
        have z3 : (ba (textL (es.take i)) ++ ba (lineL es[i])).size = (textL (es.take i)).length + (lineL es[i]).length := by rw [ByteArray.size_append, z1, z2]
        refine Ev.bind (line_ev _ _ _ _ h) ?_
        have hg : ba (textL (es.take i)) ++ ba (lineL es[i]) ++ (⟨#[10]⟩ : ByteArray) = ba (textL (es.take (i + 1))) := by rw [hsucc]; exact ByteArray.ext (Array.toList_inj.1 (by simp))
        refine Ev.congr (f := fun k => odometerref23_Text.l0 k (es.map so) (ba (textL (es.take (i + 1)))) ((i + 1 : Nat) : Int)) (fun k => ?_) ?_
        · show (if (ba (textL (es.take i))).size + (ba (lineL es[i])).size ≤ 9223372036854775807 then (if (ba (textL (es.take i)) ++ ba (lineL es[i])).size + 1 ≤ 9223372036854775807 then odometerref23_Text.l0 k (es.map so) ((ba (textL (es.take i)) ++ ba (lineL es[i])) ++ (⟨#[10]⟩ : ByteArray)) ((i + 1 : Nat) : Int) else none) else none) = _
          rw [if_pos (by omega), if_pos (by omega), hg]
        · refine ih (i + 1) (by omega) (by omega) (fun x hx => ?_)
          rw [List.take_succ_eq_append_getElem hlt] at hx
          rcases List.mem_append.1 hx with hx | hx
          · exact hm x hx
          · simp only [List.mem_singleton] at hx; exact hx ▸ h
      · have e1 : ¬ r = true := fun e => h (hri.1 e)
        refine Ev.congr (fun k => by rw [if_neg e1]) ?_
        unfold textS
        rw [if_neg (fun hh => h (hh _ (List.getElem_mem hlt)))]
        exact Ev.now _
theorem text_ev (es : List En) (hl : es.length ≤ 1000000) (hsz : TB es) : Ev (fun k => odometerref23_Text.f k (es.map so)) (textS es) :=
  text_from es hl hsz _ 0 rfl (by omega) (by simp)
theorem str_nbl (b c : List UInt8) : (strOfNums (nbl b)).toList = (strOfNums (nbl c)).toList ↔ b = c := by
  have h : ∀ b : List UInt8, (strOfNums (nbl b)).toList = b := fun b => by rw [Lib.toList_data]; simp [strOfNums, nbl, Function.comp_def]
  rw [h, h]
theorem same_from (xs ys : List En) (hl : xs.length = ys.length) (hm : xs.length ≤ 1000000) : ∀ (d i : Nat), xs.length - i = d → i ≤ xs.length → Ev (fun k => odometerref23_Same.l0 k (xs.map so) (ys.map so) (i : Int)) (sameB (xs.drop i) (ys.drop i)) := by
  intro d
  induction d with
  | zero =>
    intro i hd hi
    rw [List.drop_eq_nil_of_le (by omega), List.drop_eq_nil_of_le (by omega)]
    refine Ev.step (f := fun _ => some true) (fun k => ?_) (Ev.now _)
    simp only [odometerref23_Same.l0]
    rw [if_neg (by simp; omega)]
  | succ d ih =>
    intro i hd hi
    have hlt : i < xs.length := by omega
    have hlt2 : i < ys.length := by omega
    refine Ev.step (f := fun k => if xs[i].k = ys[i].k then (if xs[i].a = ys[i].a then (if xs[i].n = ys[i].n then (if (strOfNums (nbl xs[i].b)).toList = (strOfNums (nbl ys[i].b)).toList then odometerref23_Same.l0 k (xs.map so) (ys.map so) ((i + 1 : Nat) : Int) else some false) else some false) else some false) else some false) (fun k => ?_) ?_
    · simp only [odometerref23_Same.l0]
      rw [if_pos (by simp; omega), if_pos (by omega), if_pos (by simp; omega), rd_so xs i hlt, rd_so ys i hlt2, wrap_next i (by omega)]
      rfl
    · by_cases h : xs[i] = ys[i]
      · refine Ev.congr (fun k => by rw [if_pos (by rw [h]), if_pos (by rw [h]), if_pos (by rw [h]), if_pos (by rw [h])]) ?_
        have e := ih (i + 1) (by omega) (by omega)
        have e2 : sameB (xs.drop i) (ys.drop i) = sameB (xs.drop (i + 1)) (ys.drop (i + 1)) := by
          rw [Bool.eq_iff_iff, sameB_iff, sameB_iff, List.drop_eq_getElem_cons hlt, List.drop_eq_getElem_cons hlt2, h, List.cons.injEq]
          simp only [true_and]
        rw [e2]
        exact e
      · have e2 : sameB (xs.drop i) (ys.drop i) = false := by
          rw [Bool.eq_false_iff]
          intro e
          rw [sameB_iff, List.drop_eq_getElem_cons hlt, List.drop_eq_getElem_cons hlt2] at e
          exact h (List.cons.inj e).1
        rw [e2]
        refine Ev.congr (f := fun _ => some false) (fun k => ?_) (Ev.now _)
        repeat' split
        all_goals first | rfl | skip
        rename_i h1 h2 h3 h4
        exact absurd (En.ext' h1 h2 h3 ((str_nbl _ _).1 h4)) h
theorem same_ev (xs ys : List En) (hm : xs.length ≤ 1000000) : Ev (fun k => odometerref23_Same.f k (xs.map so) (ys.map so)) (sameB xs ys) := by
  by_cases hl : xs.length = ys.length
  · refine Ev.congr (fun k => by unfold odometerref23_Same.f; rw [if_pos (by simp [hl])]) ?_
    exact same_from xs ys hl hm _ 0 rfl (by omega)
  · refine Ev.congr (f := fun _ => some false) (fun k => by unfold odometerref23_Same.f; rw [if_neg (by simp; omega)]) ?_
    rw [sameB_len xs ys hl]
    exact Ev.now _
end Go.Proofs.YtjapnbghnnbamaaGreatDoor.Rt
