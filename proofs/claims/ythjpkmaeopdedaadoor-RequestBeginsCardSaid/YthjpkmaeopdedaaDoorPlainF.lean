/- Plain laws of the request seat: the program reads just the request that stands ahead; what it makes of bytes, and how many are whole requests. -/
import Derived.Test.YthjpkmaeopdedaaDoorPlainE
namespace Go.Proofs.YthjpkmaeopdedaaDoor.Plain
open Go.RowKit Go.Proofs.YthjpkmaeopdedaaDoor.PR Go.Proofs.YthjpkmaeopdedaaDoor.Ext Go.Proofs.YthjpkmaeopdedaaDoorW.PrintWords

/-- Two lines, and more: what a split at line ends begins with. -/
theorem split_two (s sep : ByteArray) (hsep : L sep = crlf) (a c r : List UInt8) (ha : noCR a) (hc : noCR c) (hs : L s = a ++ (crlf ++ (c ++ (crlf ++ r)))) :
    ∃ x y l, Lib.splitB sep 0 (Lib.countB s sep) s = x :: y :: l ∧ L x = a ∧ L y = c := by
  have hz : sep.size = 2 := by rw [← L_length, hsep]; rfl
  have i1 : Lib.indexB s sep = ((a.length : Nat) : Int) := by
    show Lib.index (L s) (L sep) = _
    rw [hs, hsep]
    exact index_crlf a _ ha
  have hs2 : L (s.extract (a.length + sep.size) s.size) = c ++ (crlf ++ r) := by
    rw [L_extract, List.take_of_length_le (by rw [List.length_drop, L_length]; exact Nat.le_refl _), hs, hz, ← List.append_assoc]
    exact List.drop_left' (by rw [List.length_append]; rfl)
  have i2 : Lib.indexB (s.extract (a.length + sep.size) s.size) sep = ((c.length : Nat) : Int) := by
    show Lib.index (L (s.extract (a.length + sep.size) s.size)) (L sep) = _
    rw [hs2, hsep]
    exact index_crlf c _ hc
  have c1 := Lib.countB_hit s sep a.length (by omega) i1
  have c2 := Lib.countB_hit (s.extract (a.length + sep.size) s.size) sep c.length (by omega) i2
  rw [c1, c2, Nat.add_comm 1 (1 + _), Lib.splitB_hit _ _ _ _ _ i1, Nat.add_comm 1, Lib.splitB_hit _ _ _ _ _ i2]
  refine ⟨_, _, _, rfl, ?_, ?_⟩
  · rw [L_extract, List.drop_zero, Nat.add_zero, Nat.sub_zero, hs]
    exact List.take_left' rfl
  · rw [L_extract, List.drop_zero, Nat.add_zero, Nat.sub_zero, hs2]
    exact List.take_left' rfl

theorem split_f (s : ByteArray) (hs : s.size ≤ 100000000) : strings_Split.f s (⟨#[13, 10]⟩ : ByteArray) = some (Lib.splitB (⟨#[13, 10]⟩ : ByteArray) 0 (Lib.countB s (⟨#[13, 10]⟩ : ByteArray)) s) := by
  have hz : (⟨#[13, 10]⟩ : ByteArray).size = 2 := rfl
  have h1 := Lib.countB_le (⟨#[13, 10]⟩ : ByteArray) (by omega) s.size s (Nat.le_refl _)
  have h2 := Lib.splitB_all (⟨#[13, 10]⟩ : ByteArray) (by omega) 0 _ s rfl
  unfold strings_Split.f
  rw [if_pos ⟨by omega, by omega, by omega, h2⟩]

theorem index_f (b : List UInt8) (hb : b.length ≤ 100000000) : bytes_Index.f (numsL b) [13, 10, 13, 10] = some (Lib.index b crlf2) := by
  unfold bytes_Index.f
  rw [if_pos ⟨by rw [numsL_length]; omega, by decide, by decide, numsL_range b, by decide⟩, lib_bytesOf]
  rfl

theorem size_mk (l : List UInt8) : (⟨l.toArray⟩ : ByteArray).size = l.length := by rw [← L_length, L_mk]

theorem split_small (sep : ByteArray) : ∀ (k : Nat) (s x : ByteArray), x ∈ Lib.splitB sep 0 k s → x.size ≤ s.size
  | 0, s, x, h => by
    rw [Lib.splitB_zero, List.mem_singleton] at h
    subst h
    exact Nat.le_refl _
  | k + 1, s, x, h => by
    unfold Lib.splitB at h
    split at h
    · rw [List.mem_singleton] at h
      subst h
      exact Nat.le_refl _
    · rcases List.mem_cons.1 h with h | h
      · rw [h]; exact size_extract_le _ _ _
      · exact Nat.le_trans (split_small sep k _ x h) (size_extract_le _ _ _)

theorem prog_R (b : List UInt8) (hb : b.length ≤ 100000000) : ∃ r, Ev (fun k => request_first.f k (numsL b)) r ∧ R b r := by
  unfold request_first.f bytesLit.f
  simp only [Option.bind_some, index_f b hb]
  have hno : ∀ n : Int, Lib.index b crlf2 = n → ∀ h p, IsReq b h p → n = ((body h p).length : Int) ∧ ∃ r, b = text h p ++ r := by
    intro n hn h p hr
    obtain ⟨r, hr'⟩ := hr.pre
    refine ⟨?_, r, hr'.symm⟩
    rw [← hn, ← hr']
    exact index_text h p r hr.host hr.path
  generalize hi : Lib.index b crlf2 = i at hno ⊢
  have hge := Lib.index_ge b crlf2
  have hle := Lib.index_le b crlf2
  rw [hi] at hge hle
  by_cases h0 : i < 0
  · simp only [if_pos h0]
    exact ⟨noReq, Ev.now _, .inr ⟨fun h p hr => by have := (hno i rfl h p hr).1; omega, rfl⟩⟩
  · obtain ⟨n, rfl⟩ : ∃ n : Nat, i = n := ⟨i.toNat, by omega⟩
    have e0 : 0 ≤ (n : Int) := by omega
    have e1 : (n : Int) ≤ ((numsL b).length : Int) := by rw [numsL_length]; omega
    simp only [if_neg h0, if_pos e0, if_pos e1, Int.toNat_natCast, numsL_take, strOf_L]
    have hsz : (⟨(b.take n).toArray⟩ : ByteArray).size ≤ 100000000 := by rw [size_mk, List.length_take]; omega
    rw [split_f _ hsz]
    simp only [Option.bind_some]
    -- what the split is, where a request stands ahead
    have hyes : ∀ h p, IsReq b h p → ∃ x y l, Lib.splitB (⟨#[13, 10]⟩ : ByteArray) 0 (Lib.countB (⟨(b.take n).toArray⟩ : ByteArray) (⟨#[13, 10]⟩ : ByteArray)) (⟨(b.take n).toArray⟩ : ByteArray) = x :: y :: l ∧ L x = tG ++ p ++ tV ∧ L y = tH ++ h := by
      intro h p hr
      obtain ⟨hn, r, rfl⟩ := hno n rfl h p hr
      have hn' : n = (body h p).length := by omega
      have hs : L (⟨((text h p ++ r).take n).toArray⟩ : ByteArray) = body h p := by
        rw [L_mk, hn', text, List.append_assoc]
        exact List.take_left' rfl
      obtain ⟨cG, cV, cH, _⟩ := const_noCR
      exact split_two _ _ rfl (tG ++ p ++ tV) (tH ++ h) (tU ++ crlf ++ (tA ++ crlf ++ tC)) (noCR_append (noCR_append cG (path_noCR hr.path)) cV) (noCR_append cH (host_noCR hr.host)) (by rw [hs]; simp only [body, List.append_assoc])
    have hsm := split_small (⟨#[13, 10]⟩ : ByteArray) (Lib.countB (⟨(b.take n).toArray⟩ : ByteArray) (⟨#[13, 10]⟩ : ByteArray)) (⟨(b.take n).toArray⟩ : ByteArray)
    generalize Lib.splitB (⟨#[13, 10]⟩ : ByteArray) 0 (Lib.countB (⟨(b.take n).toArray⟩ : ByteArray) (⟨#[13, 10]⟩ : ByteArray)) (⟨(b.take n).toArray⟩ : ByteArray) = l at hyes hsm ⊢
    rcases l with _ | ⟨x, _ | ⟨y, l⟩⟩
    · have l2 : (([] : List ByteArray).length : Int) < 2 := by decide
      simp only [if_pos l2]
      exact ⟨noReq, Ev.now _, .inr ⟨(fun h p hr => by obtain ⟨_, _, _, e, _⟩ := hyes h p hr; cases e), rfl⟩⟩
    · have l2 : (([x] : List ByteArray).length : Int) < 2 := by show (((0 + 1 : Nat)) : Int) < 2; decide
      simp only [if_pos l2]
      exact ⟨noReq, Ev.now _, .inr ⟨(fun h p hr => by obtain ⟨_, _, _, e, _⟩ := hyes h p hr; cases e), rfl⟩⟩
    · have l2 : ¬ ((x :: y :: l).length : Int) < 2 := by simp only [List.length_cons]; omega
      have l0 : 0 < ((x :: y :: l).length : Int) := by omega
      have l1 : 1 < ((x :: y :: l).length : Int) := by omega
      simp only [if_neg l2, if_pos l0, if_pos l1]
      have r0 : rdOf ByteArray.empty (x :: y :: l) 0 = x := rfl
      have r1 : rdOf ByteArray.empty (x :: y :: l) 1 = y := rfl
      rw [r0, r1]
      have sx : x.size ≤ 100000000 := Nat.le_trans (hsm x (by simp)) hsz
      have sy : y.size ≤ 100000000 := Nat.le_trans (hsm y (by simp)) hsz
      obtain ⟨x1, ex1, hx1, zx1⟩ := trimPrefix_prog x (⟨#[71, 69, 84, 32]⟩ : ByteArray) sx
      obtain ⟨x2, ex2, hx2, zx2⟩ := trimSuffix_prog x1 (⟨#[32, 72, 84, 84, 80, 47, 49, 46, 49]⟩ : ByteArray) (by omega) (by decide)
      obtain ⟨y1, ey1, hy1, zy1⟩ := trimPrefix_prog y (⟨#[72, 111, 115, 116, 58, 32]⟩ : ByteArray) sy
      simp only [ex1, ex2, ey1, Option.bind_some]
      have hget : ∀ h p, IsReq b h p → L y1 = h ∧ L x2 = p := by
        intro h p hr
        obtain ⟨x', y', l', e, hx, hy⟩ := hyes h p hr
        injection e with e1 e
        injection e with e2 e
        subst e1; subst e2
        constructor
        · rw [hy1 (by rw [hy]; exact ⟨h, rfl⟩), hy]
          exact List.drop_left' rfl
        · refine hx2 p ?_
          rw [hx1 (by rw [hx]; exact ⟨p ++ tV, by simp only [List.append_assoc]; rfl⟩), hx, List.append_assoc]
          exact List.drop_left' rfl
      have hby := bytes_prog y1 x2 (by omega) (by omega)
      by_cases hm : mayHost (L y1) = true ∧ mayPath (L x2) = true
      · rw [if_pos hm] at hby
        by_cases hp : text (L y1) (L x2) <+: b
        · have hreq : IsReq b (L y1) (L x2) := ⟨hm.1, hm.2, hp⟩
          have hn := (hno n rfl _ _ hreq).1
          refine ⟨_, Ev.bind hby ?_, .inl ⟨y1, x2, hreq, rfl⟩⟩
          rw [hasPrefix_prog b _ hb]
          simp only [if_true, hp, decide_true, Option.bind_some]
          have et : wrap64 ((n : Int) + 4) = ((text (L y1) (L x2)).length : Int) := by
            rw [wrap_small _ (by omega) (by omega), hn, text, List.length_append]
            have : (crlf ++ crlf).length = 4 := rfl
            omega
          rw [et]
          exact Ev.now _
        · refine ⟨noReq, Ev.bind hby ?_, .inr ⟨fun h p hr => ?_, rfl⟩⟩
          · rw [hasPrefix_prog b _ hb]
            simp only [if_true, hp, decide_false, Option.bind_some]
            simpa [noReq] using Ev.now noReq
          · obtain ⟨e1, e2⟩ := hget h p hr
            rw [e1, e2] at hp
            exact hp hr.pre
      · rw [if_neg hm] at hby
        refine ⟨noReq, Ev.bind hby ?_, .inr ⟨fun h p hr => ?_, rfl⟩⟩
        · simpa [noReq] using Ev.now noReq
        · obtain ⟨e1, e2⟩ := hget h p hr
          rw [e1, e2] at hm
          exact hm ⟨hr.host, hr.path⟩

/-! ### Of, Ahead -/
theorem of_prog (b : List UInt8) (hb : b.length ≤ 100000000) (r : ByteArray × ByteArray × Int) (hr : R b r) :
    Ev (fun k => request_Of.f k (numsL b)) (if r.2.2 = (b.length : Int) ∧ 0 < b.length then (r.1, r.2.1, 0) else (⟨#[]⟩, ⟨#[]⟩, 2)) := by
  obtain ⟨r', he, hr'⟩ := prog_R b hb
  obtain rfl := R_unique hr' hr
  unfold request_Of.f
  refine Ev.bind he ?_
  have hle : 0 ≤ r'.2.2 ∧ r'.2.2 ≤ (b.length : Int) := by
    rcases hr with ⟨h, p, hq, rfl⟩ | ⟨_, rfl⟩
    · have := ((prefix_iff _ _).1 hq.pre).1
      simp only
      omega
    · simp [noReq]
  by_cases h0 : r'.2.2 = 0
  · simp only [if_pos h0]
    rw [if_neg (by rw [h0]; omega)]
    exact Ev.now _
  · by_cases h1 : r'.2.2 < ((numsL b).length : Int)
    · simp only [if_neg h0, if_pos h1]
      rw [numsL_length] at h1
      rw [if_neg (by omega)]
      exact Ev.now _
    · simp only [if_neg h0, if_neg h1]
      rw [numsL_length] at h1
      rw [if_pos (by omega)]
      exact Ev.now _

theorem text_pos (h p : List UInt8) : 0 < (text h p).length := by rw [text_length]; omega

theorem known_ev : Ev (fun k => odometerlaw05_known.f k) true := by
  unfold odometerlaw05_known.f
  have h := bytes_prog (⟨#[97, 58, 56, 48]⟩ : ByteArray) (⟨#[47, 109, 101, 116, 114, 105, 99, 115]⟩ : ByteArray) (by decide) (by decide)
  rw [if_pos (by decide)] at h
  refine Ev.bind h ?_
  simp only [if_true]
  unfold odometerref05_Text.f
  rw [if_pos ⟨by decide, by decide⟩, Option.bind_some, strOf_L, ByteArray.toList_eq, ByteArray.toList_eq]
  rw [show (reqHead ++ (⟨#[47, 109, 101, 116, 114, 105, 99, 115]⟩ : ByteArray) ++ reqMid ++ (⟨#[97, 58, 56, 48]⟩ : ByteArray) ++ reqTail).data.toList = _ from text_ref _ _]
  simpa using Ev.now true
end Go.Proofs.YthjpkmaeopdedaaDoor.Plain
