/- script.read: the entry of a line. -/
import Derived.Test.YtjapnbghnnbamaaGreatDoorRwd
import Derived.Test.YtjapnbghnnbamaaGreatDoorAs
namespace Go.Proofs.YtjapnbghnnbamaaGreatDoor.Rx
open Go.Proofs.YtjapnbghnnbamaaGreatDoor.Plain (quote)
open Go.RowKit Go.Proofs.YtjapnbghnnbamaaGreatDoorW.PrintWords Go.Proofs.YtjapnbghnnbamaaGreatDoorW.PrintLast Go.Proofs.YtjapnbghnnbamaaGreatDoor.Ext Go.Proofs.YtjapnbghnnbamaaGreatDoor.S Go.Proofs.YtjapnbghnnbamaaGreatDoor.K Go.Proofs.YtjapnbghnnbamaaGreatDoor.L Go.Proofs.YtjapnbghnnbamaaGreatDoor.T Go.Proofs.YtjapnbghnnbamaaGreatDoor.W Go.Proofs.YtjapnbghnnbamaaGreatDoor.Rq Go.Proofs.YtjapnbghnnbamaaGreatDoor.Rw
set_option linter.unusedVariables false
set_option linter.unusedSimpArgs false
def PostR (s : ByteArray) (w : World) (e : Ending) (w' : World) : Prop :=
  Below w.heap.size w w' ∧ ((∃ en v, e = .returned (.tuple #[en.val v, .nilIface]) ∧ RV w' w.heap.size v en.b ∧ MayE en ∧ lineL en = s.data.toList) ∨ (Bad e ∧ ∀ en, MayE en → lineL en ≠ s.data.toList))
theorem Post.all {s : ByteArray} {w : World} {P : En → Prop} (h : ∀ en, MayE en → lineL en = s.data.toList → P en) (e : Ending) (w' : World) (hp : Post s w P e w') : PostR s w e w' :=
  ⟨hp.1, hp.2.elim .inl fun ⟨h1, h2⟩ => .inr ⟨h1, fun en hm hl => h2 en (h en hm hl) hm hl⟩⟩
theorem ba_eq {a b : List UInt8} : ba a = ba b ↔ a = b := ⟨fun h => by have := congrArg (fun x : ByteArray => x.data.toList) h; simpa using this, fun h => by rw [h]⟩
theorem read_calls (s : ByteArray) (i : Int) (hm : s.size ≤ 20000000) (w : World) (hG : Glob w) : Calls Tryz.prog 15 #[.string s, .int .i64 i] w (PostR s w) := by
  have hR := rd_of s hm
  have hk : ∀ en, MayE en → lineL en = s.data.toList → kindOf (wordOf s.data.toList) = en.k := fun en h1 h2 => by
    rw [← h2, (parsed h1).1]
    exact kindOf_kn ⟨h1.1, h1.2.1⟩
  obtain ⟨K, hK⟩ : ∃ K, K = kindOf (wordOf s.data.toList) := ⟨_, rfl⟩
  obtain ⟨n, hn⟩ : ∃ n, n = (piV (atOf s.data.toList)).1 := ⟨_, rfl⟩
  obtain ⟨ok, hok⟩ : ∃ ok, ok = (piV (atOf s.data.toList)).2 := ⟨_, rfl⟩
  rw [← hK, ← hn, ← hok] at hR
  rw [← hK] at hk
  by_cases h7 : K = 7
  · subst h7
    have hs : ∀ en, MayE en → lineL en = s.data.toList → en.a = 0 ∧ (en.n = 0 ∨ en.n = 1) ∧ en.b = [] ∧ restOf s.data.toList = if en.n = 0 then [110, 111] else [121, 101, 115] := fun en h1 h2 => by
      have e := (hk en h1 h2).symm
      have hh := may_sink h1 e
      exact ⟨hh.1, hh.2.1, hh.2.2, by rw [← h2]; exact (parsed h1).2.1 e⟩
    by_cases hY : restOf s.data.toList = [121, 101, 115]
    · refine (rd_7y _ _ _ _ _ i n w hG ok (show ba (restOf s.data.toList) = ba [121, 101, 115] from ba_eq.2 hY) hR).mono (Post.all fun en h1 h2 => ?_)
      obtain ⟨a1, a2, a3, a4⟩ := hs en h1 h2
      refine En.ext' (hk en h1 h2).symm a1 ?_ a3
      rcases a2 with a2 | a2
      · rw [hY, if_pos a2] at a4; exact absurd a4 (by decide)
      · exact a2
    · refine (rd_7n _ _ _ _ _ i n w hG ok (fun e => hY (ba_eq.1 (show ba (restOf s.data.toList) = ba [121, 101, 115] from e))) hR).mono (Post.all fun en h1 h2 => ?_)
      obtain ⟨a1, a2, a3, a4⟩ := hs en h1 h2
      refine En.ext' (hk en h1 h2).symm a1 ?_ a3
      rcases a2 with a2 | a2
      · exact a2
      · rw [if_neg (by omega)] at a4; exact absurd a4 hY
  · by_cases h1 : K = 1
    · subst h1
      have hs : ∀ en, MayE en → lineL en = s.data.toList → en = ⟨1, 0, n, []⟩ ∧ ok = true := fun en h1 h2 => by
        have e := (hk en h1 h2).symm
        have hh := may_tick h1 e
        have hp := ((parsed h1).2.2.1 e).1
        rw [h2] at hp
        exact ⟨En.ext' e hh.1 (by rw [hn, hp]) hh.2.2.2, by rw [hok, hp]⟩
      cases ok with
      | true => exact (rd_1y _ _ _ _ _ i n w hG hR).mono (Post.all fun en h1 h2 => (hs en h1 h2).1)
      | false => exact (rd_1n _ _ _ _ _ i n w hG hR).mono (Post.all fun en h1 h2 => by have := (hs en h1 h2).2; cases this)
    · have hs : ∀ en, MayE en → lineL en = s.data.toList → en.a = n ∧ ok = true ∧ 0 ≤ n ∧ n ≤ 2147483647 := fun en h2 h3 => by
        have e := (hk en h2 h3).symm
        have hp := ((parsed h2).2.2.2.1 (by omega) (by omega)).1
        rw [h3] at hp
        have := h2.2.2.1
        have := h2.2.2.2.1
        have e2 : n = en.a := by rw [hn, hp]
        exact ⟨e2.symm, by rw [hok, hp], by omega, by omega⟩
      by_cases hl : n < 0
      · exact (rd_rl _ _ _ _ _ i n K w hG ok h7 h1 hl hR).mono (Post.all fun en h2 h3 => by have := hs en h2 h3; omega)
      · by_cases hh : 2147483647 < n
        · exact (rd_rh _ _ _ _ _ i n K w hG ok h7 h1 hh hR).mono (Post.all fun en h2 h3 => by have := hs en h2 h3; omega)
        · by_cases h6 : K = 6
          · subst h6
            cases ok with
            | true =>
              refine (rd_6y _ _ _ _ _ i n w hG (by omega) (by omega) hR).mono (Post.all fun en h2 h3 => ?_)
              have e := (hk en h2 h3).symm
              refine ⟨en.b, ?_, En.ext' e (hs en h2 h3).1 (may_bytes h2 e).1 rfl⟩
              have := (parsed h2).2.2.2.2 e
              rw [h3] at this
              exact this.symm
            | false => exact (rd_6n _ _ _ _ _ i n w hG (by omega) (by omega) hR).mono (Post.all fun en h2 h3 => by have := (hs en h2 h3).2.1; cases this)
          · cases ok with
            | true =>
              refine (rd_oy _ _ _ _ _ i n K w hG h7 h1 h6 (by omega) (by omega) hR).mono (Post.all fun en h2 h3 => ?_)
              have e := (hk en h2 h3).symm
              have ho := may_other h2 (by omega) (by omega) (by omega)
              exact En.ext' e (hs en h2 h3).1 ho.1 ho.2
            | false => exact (rd_on _ _ _ _ _ i n K w hG h7 h1 h6 (by omega) (by omega) hR).mono (Post.all fun en h2 h3 => by have := (hs en h2 h3).2.1; cases this)
theorem read_any (s : ByteArray) (i : Int) (hm : s.size ≤ 20000000) (w : World) (hG : Glob w) : Calls Tryz.prog 15 #[.string s, .int .i64 i] w fun e w' =>
    (∃ k a n A m c ev, e = .returned (.tuple #[.agg #[.int .i64 k, .int .i64 a, .int .i64 n, .slice A m c], ev]) ∧ ((ev = .nilIface ∧ ∃ b, RV w' w.heap.size (.slice A m c) b ∧ MayE ⟨k, a, n, b⟩ ∧ lineL ⟨k, a, n, b⟩ = s.data.toList) ∨ ((∃ b : Nat, ev = .iface 45 (.pointer (some ⟨b, 0, none⟩))) ∧ ∀ en, MayE en → lineL en ≠ s.data.toList))) ∧ Below w.heap.size w w' := by
  refine (read_calls s i hm w hG).mono fun e w' ⟨hb, h⟩ => ⟨?_, hb⟩
  rcases h with ⟨en, v, rfl, hv, h1, h2⟩ | ⟨⟨k, a, n, A, m, c, b, rfl⟩, h2⟩
  · obtain ⟨A, c, rfl⟩ := Kd.R_slice hv
    exact ⟨_, _, _, _, _, _, _, rfl, .inl ⟨rfl, en.b, hv, h1, h2⟩⟩
  · exact ⟨_, _, _, _, _, _, _, rfl, .inr ⟨⟨b, rfl⟩, h2⟩⟩
end Go.Proofs.YtjapnbghnnbamaaGreatDoor.Rx
namespace Go.Proofs.YtjapnbghnnbamaaGreatDoor.Of
open Go.Proofs.YtjapnbghnnbamaaGreatDoor.Plain (quote)
open Go.RowKit Go.Proofs.YtjapnbghnnbamaaGreatDoorW.PrintWords Go.Proofs.YtjapnbghnnbamaaGreatDoorW.PrintLast Go.Proofs.YtjapnbghnnbamaaGreatDoor.Ext Go.Proofs.YtjapnbghnnbamaaGreatDoor.Q Go.Proofs.YtjapnbghnnbamaaGreatDoor.S Go.Proofs.YtjapnbghnnbamaaGreatDoor.K Go.Proofs.YtjapnbghnnbamaaGreatDoor.L Go.Proofs.YtjapnbghnnbamaaGreatDoor.T Go.Proofs.YtjapnbghnnbamaaGreatDoor.W Go.Proofs.YtjapnbghnnbamaaGreatDoor.Rq Go.Proofs.YtjapnbghnnbamaaGreatDoor.Rx
set_option linter.unusedVariables false
set_option linter.unusedSimpArgs false
/-- Entries in memory. -/
def kE : Kd En := Kd.iso (Kd.pair (Kd.int .i64) (Kd.pair (Kd.int .i64) (Kd.pair (Kd.int .i64) (Kd.slice 5 (Kd.int .u8))))) (fun e => (e.k, e.a, e.n, nb e.b))
theorem kE_mkM (w : World) (base : Nat) (ok : Nat → Prop) (e : En) {v : Value} (g : (Kd.int .u8).R 5 w base ok v (nb e.b)) : kE.M w base ok e [.int .i64 e.k, .int .i64 e.a, .int .i64 e.n, v] :=
  ⟨[.int .i64 e.k], [.int .i64 e.a, .int .i64 e.n, v], rfl, rfl, ⟨[.int .i64 e.a], [.int .i64 e.n, v], rfl, rfl, ⟨[.int .i64 e.n], [v], rfl, rfl, ⟨v, rfl, g⟩⟩⟩⟩
theorem kE_K {w : World} {e : En} {cs : List Value} (h : kE.K w e cs) : ∃ v, cs = e.cs v ∧ Byt w v e.b := by
  obtain ⟨c0, c1, rfl, h0, d0, d1, rfl, h1, f0, f1, rfl, h2, A, c, rfl, h4, h5⟩ := h
  cases h0; cases h1; cases h2
  refine ⟨_, rfl, A, c, by rw [nb_length], by rw [← nb_length]; exact h4, ?_⟩
  have := Kd.reads_of_C (d := (0 : Int)) h5
  rwa [nb_length] at this
abbrev RE (w : World) (base : Nat) (v : Value) (es : List En) : Prop := Kd.R kE 35 w base (fun _ => True) v es
theorem RE.er {w : World} {base : Nat} {v : Value} {es : List En} (h : RE w base v es) : ∃ A c, v = .slice A es.length c ∧ es.length ≤ c ∧ ER w A es.length es := by
  obtain ⟨A, c, e, hc, hr⟩ := Kd.R_reads h
  exact ⟨A, c, e, hc, ReadsRow.imp_ hr (Below.refl _ _) (fun _ _ hp => kE_K hp)⟩
theorem info_e : (Tryz.prog.info? 35).map (fun i => (i.zero, i.size, i.bytes)) = some (some (.agg #[.int .i64 0, .int .i64 0, .int .i64 0, .slice none 0 0]), 4, 48) := by kernel_rfl
theorem as_hit_below (e : Addr) (b : Nat) (v0 : Value) (t0 : TypeId) (w : World) (hG : Glob w) (hb : w.heap[b]? = some (.cells #[v0] t0 (0, 0))) :
    Calls Tryz.prog 16 #[.iface 45 (.pointer (some e)), .iface 47 (.pointer (some ⟨b, 0, none⟩))] w fun ev w' => ev = .returned (.bool true) ∧ Below b w w' := by
  refine (As.as_hit e ⟨b, 0, none⟩ v0 w hG.ety ((blk_cell hb 0).trans rfl) (blk_frozen hb 0)).mono fun ev w' ⟨h1, h2⟩ => ⟨h1, ?_⟩
  rw [h2]
  have hlt := blk_lt hb
  refine Below.setCell ?_ (p := ⟨b, 0, none⟩) (Nat.le_refl b) _
  exact (below_alloc (Below.refl _ _) _).trans ((below_alloc (Below.refl _ _) _).mono (by first | (simp; done) | (simp; omega))) |>.trans ((below_alloc (Below.refl _ _) _).mono (by first | (simp; done) | (simp; omega))) |>.trans ((below_alloc (Below.refl _ _) _).mono (by first | (simp; done) | (simp; omega))) |>.mono (Nat.le_of_lt hlt)
/-- What Of leaves. -/
def PostO (s : ByteArray) (w : World) (e : Ending) (w' : World) : Prop :=
  Below w.heap.size w w' ∧ ((∃ es A c, e = .returned (.tuple #[.slice A es.length c, .int .i64 0]) ∧ ER w' A es.length es ∧ es.length ≤ c ∧ (∀ x ∈ es, MayE x) ∧ textL es = s.data.toList) ∨ (e = .returned (.tuple #[.slice none 0 0, .int .i64 19]) ∧ ∀ es, (∀ x ∈ es, MayE x) → textL es ≠ s.data.toList))
/-- The lines, as strings.Split gives them. -/
theorem lines_of (s : ByteArray) : ∃ (M : Nat) (Ls : List ByteArray), Lib.countB s ⟨#[10]⟩ = M ∧ Lib.splitB ⟨#[10]⟩ 0 M s = Ls ∧ Ls.map (·.data.toList) = pcs 10 s.data.toList ∧ Ls.length = M + 1 := by
  refine ⟨_, _, rfl, rfl, ?_, Lib.splitB_all ⟨#[10]⟩ (by decide) 0 _ s rfl⟩
  rw [Lib.splitB_data]
  exact split_pcs 10 _ s.data.toList (Nat.le_refl _)
theorem no_text {s : List UInt8} (h : (pcs 10 s).getLast (pcs_ne 10 s) ≠ []) (es : List En) (he : ∀ x ∈ es, MayE x) : textL es ≠ s := fun e => h (by subst e; simp only [pcs_text es he]; first | simp | rfl)
theorem no_line {s : List UInt8} {k : Nat} {l : List UInt8} (hk : (pcs 10 s)[k]? = some l) (hk2 : k + 1 < (pcs 10 s).length) (h : ∀ en, MayE en → lineL en ≠ l) (es : List En) (he : ∀ x ∈ es, MayE x) : textL es ≠ s := fun e => by
  subst e
  rw [pcs_text es he] at hk hk2
  simp only [List.length_append, List.length_map, List.length_cons, List.length_nil, Nat.zero_add] at hk2
  rw [List.getElem?_append_left (by first | (simp; done) | (simp; omega)), List.getElem?_map] at hk
  obtain ⟨x, hx, rfl⟩ := Option.map_eq_some_iff.1 hk
  exact h x (he x (List.mem_of_getElem? hx)) rfl
set_option maxHeartbeats 16000000 in
set_option maxRecDepth 100000 in
theorem of_calls (s : ByteArray) (hm : s.size ≤ 20000000) (w : World) (hG : Glob w) : Calls Tryz.prog 6 #[.string s] w (PostO s w) := by
  obtain ⟨M, Ls, hM, hL, hP, hlen⟩ := lines_of s
  have hsp : Calls Tryz.prog 14 #[.string s, .string ⟨#[10]⟩] w fun e w' => e = .returned (.slice (some ⟨w.heap.size, 0, none⟩) (M + 1) (M + 1)) ∧ w' = w.alloc (.cells (Ls.map Value.string).toArray 9) := by
    obtain ⟨m, h⟩ := hG.mxl
    have := Tryz.strings_Split s ⟨#[10]⟩ m w (by omega) h (by decide)
    rw [hM, hL] at this
    exact this
  have HSP := Aside0.mk hsp
  have HG := Aside0.mk hG
  have HM := Aside0.mk hm
  have HLS := Aside0.mk (And.intro hP hlen)
  clear hsp hG hm hM hL hP hlen
  go_enter Tryz.func6, Tryz.ntmps6
  go_upto_region 3 with (first | (go_at_call 14; (with_reducible refine (HSP.out).mono ?_); rintro e w1 ⟨rfl, rfl⟩))
  obtain ⟨W1, hW⟩ : ∃ W1, W1 = w.alloc (Obj.cells (List.map Value.string Ls).toArray 9) := ⟨_, rfl⟩
  obtain ⟨b0, hb0⟩ : ∃ b0, b0 = w.heap.size := ⟨_, rfl⟩
  have HL := Aside0.mk (show W1.heap[b0]? = some (.cells (List.map Value.string Ls).toArray 9 (0, 0)) from by rw [hW, hb0]; exact blk_new w _)
  have HB1 := Aside0.mk (show Below w.heap.size w W1 from by rw [hW]; exact below_alloc (Below.refl _ _) _)
  have HSZ := Aside0.mk (show w.heap.size ≤ b0 from by rw [hb0]; exact Nat.le_refl _)
  rw [← hW, ← hb0]
  clear hW hb0 HSP
  have hcell : ∀ (j : Nat) (l : ByteArray), Ls[j]? = some l → (List.map Value.string Ls).toArray[j]? = some (.string l) := fun j l h => by simp [h]
  have HCELL := Aside0.mk hcell
  have hMb : M ≤ 20000000 := by
    have h1 := HLS.out.2
    have h2 : (pcs 10 s.data.toList).length = M + 1 := by rw [← HLS.out.1, List.length_map, h1]
    have h3 := pcs_len 10 _ s.data.toList (Nat.le_refl _)
    have h4 := HM.out
    rw [Lib.size_eq] at h4
    omega
  obtain ⟨last, hlast⟩ : ∃ l, Ls[M]? = some l := ⟨Ls[M]'(by have := HLS.out.2; omega), by rw [List.getElem?_eq_getElem]⟩
  have cM : W1.cell? ⟨b0, M, none⟩ = some (.string last) := (blk_cell HL.out M).trans (hcell M last hlast)
  have HLAST := Aside0.mk (show (pcs 10 s.data.toList).getLast (pcs_ne 10 _) = last.data.toList from by
    have h1 := HLS.out.2
    have h2 : (pcs 10 s.data.toList).length = M + 1 := by rw [← HLS.out.1, List.length_map, h1]
    have h3 : (pcs 10 s.data.toList)[M]? = some last.data.toList := by rw [← HLS.out.1, List.getElem?_map, hlast]; rfl
    rw [List.getLast_eq_getElem]
    rw [List.getElem?_eq_getElem (by omega)] at h3
    simp only [h2, Nat.add_sub_cancel]
    exact Option.some.inj h3)
  have w1 : wrap64 ((M : Int) + 1 - 1) = M := by unfold wrap64; omega
  have w2 : ((M : Int) + 1 - 1) = M := by omega
  clear hcell hlast
  by_cases hl : last = ⟨#[]⟩
  · subst hl
    go_upto_region 6 with (fail)
    obtain ⟨g1, hg1⟩ : ∃ g1, g1 = W1.heap.size := ⟨_, rfl⟩
    have HG1 := Aside0.mk hg1
    have HR0 := Aside0.mk (show RE W1 g1 (.slice none 0 0) [] from Kd.R_nil _ _ _ _ _)
    have HBB := Aside0.mk (show Below g1 W1 W1 from Below.refl _ _)
    have HSS := Aside0.mk (show g1 ≤ W1.heap.size from by rw [hg1]; exact Nat.le_refl _)
    clear hg1 cM
    go_loopg [4, 26] (M + 1) (fun kq v4 v26 w' => ∃ (es : List En) (k : Nat), v26 = .int .i64 k ∧ Aside0 (M - k < kq ∧ k ≤ M ∧ es.length = k) ∧ Aside0 (es.map lineL = (pcs 10 s.data.toList).take k ∧ ∀ x ∈ es, MayE x) ∧ Aside0 (RE w' g1 v4 es) ∧ Aside0 (Below g1 W1 w') ∧ Aside0 (g1 ≤ w'.heap.size))
    case atStart => exact ⟨[], 0, rfl, ⟨by omega, by omega, rfl⟩, ⟨rfl, by simp⟩, HR0, HBB, HSS⟩
    case round =>
      clear HR0 HBB HSS
      obtain ⟨es, k, rfl, HI, HE, HR, HB, HS⟩ := hrel
      by_cases hk : k = M
      · subst hk
        obtain ⟨A, cp, rfl⟩ := Kd.R_slice HR.out
        obtain ⟨A', c', he, hc, her⟩ := RE.er HR.out
        injection he with he1 he2 he3
        subst he1
        subst he3
        have HER := Aside0.mk her
        have HC := Aside0.mk hc
        clear her hc
        go_wp2
        go_ret2
        have hw1 : w.heap.size ≤ g1 := by rw [HG1.out]; exact HB1.out.size
        refine ⟨HB1.out.trans (HB.out.mono hw1), .inl ⟨es, _, _, rfl, HER.out, HC.out, HE.out.2, (text_of_pcs _ es ?_ HLAST.out).symm⟩⟩
        have hl : (pcs 10 s.data.toList).length = k + 1 := by rw [← HLS.out.1, List.length_map, HLS.out.2]
        rw [List.dropLast_eq_take, hl, Nat.add_sub_cancel]
        exact HE.out.1.symm
      · have hlt : k < M := by have := HI.out; omega
        obtain ⟨l, hl⟩ : ∃ l, Ls[k]? = some l := ⟨Ls[k]'(by have := HLS.out.2; omega), by rw [List.getElem?_eq_getElem]⟩
        have hbl : b0 < g1 := by rw [HG1.out]; exact blk_lt HL.out
        have ck : wr.cell? ⟨b0, k, none⟩ = some (.string l) := (blk_cell ((HB.out.block b0 hbl).trans HL.out) k).trans (HCELL.out k l hl)
        have HPK := Aside0.mk (show (pcs 10 s.data.toList)[k]? = some l.data.toList from by rw [← HLS.out.1, List.getElem?_map, hl]; rfl)
        have HLK := Aside0.mk (show l.size ≤ 20000000 from by
          have h1 := pcs_le 10 _ s.data.toList (Nat.le_refl _) _ (List.mem_of_getElem? HPK.out)
          rw [← Lib.size_eq] at h1
          have := HM.out
          rw [← Lib.size_eq] at h1
          omega)
        have HLT := Aside0.mk hlt
        have hc1 : decide ((k : Int) < (M : Int)) = true := decide_eq_true (by omega)
        have hk0 : (0 : Int) ≤ k := by omega
        have hk1 : (k : Int) < M := by omega
        have hw1 : wrap64 ((k : Int) + 1) = ((k + 1 : Nat) : Int) := by unfold wrap64; omega
        have HW1 := Aside0.mk (show w.heap.size ≤ g1 from by rw [HG1.out]; exact HB1.out.size)
        have HGW := Aside0.mk (show Glob wr from HG.out.below (HB1.out.trans (HB.out.mono HW1.out)))
        obtain ⟨A, cp, hv4⟩ := Kd.R_slice HR.out
        subst hv4
        clear hl hbl
        go_upto_region 9 with (first | (go_at_call 15; (with_reducible refine (read_any l k HLK.out wr HGW.out).mono ?_); rintro e w2 ⟨⟨k1, a1, n1, A1, m1, c1, ev, rfl, hp⟩, hb⟩; have HP := Aside0.mk hp; have HB2 := Aside0.mk hb; clear hp hb))
        obtain ⟨W3, hW3⟩ : ∃ W3, W3 = w2.alloc (Obj.cells #[.int .i64 k1, .int .i64 a1, .int .i64 n1, .slice A1 m1 c1] 35) := ⟨_, rfl⟩
        obtain ⟨p, hp⟩ : ∃ p, p = w2.heap.size := ⟨_, rfl⟩
        have HB3 := Aside0.mk (show Below wr.heap.size wr W3 from by rw [hW3]; exact HB2.out.trans ((below_alloc (Below.refl _ _) _).mono HB2.out.size))
        have HP3 := Aside0.mk (show W3.heap[p]? = some (.cells #[.int .i64 k1, .int .i64 a1, .int .i64 n1, .slice A1 m1 c1] 35 (0, 0)) from by rw [hW3, hp]; exact blk_new w2 _)
        have HV3 := Aside0.mk (show ∀ b, RV w2 wr.heap.size (.slice A1 m1 c1) b → RV W3 wr.heap.size (.slice A1 m1 c1) b from fun b h => by rw [hW3]; exact Kd.R_below h (below_alloc (Below.refl _ _) _))
        rw [← hW3, ← hp]
        clear hW3 hp ck
        have HB4 := Aside0.mk (show Below g1 W1 (W3.alloc (.cells #[.pointer none] 45)) from (HB.out.trans (HB3.out.mono HS.out)).trans ((below_alloc (Below.refl _ _) _).mono (Nat.le_trans HS.out HB3.out.size)))
        rcases HP.out with ⟨rfl, b, hv, h1, h2⟩ | ⟨⟨bb, rfl⟩, h2⟩
        · have HM1 := Aside0.mk h1
          have HL1 := Aside0.mk h2
          have HV := Aside0.mk (HV3.out b hv)
          have c0 := (blk_cell HP3.out 0).trans (rfl : _ = some (Value.int .i64 k1))
          have c1' := (blk_cell HP3.out 1).trans (rfl : _ = some (Value.int .i64 a1))
          have c2 := (blk_cell HP3.out 2).trans (rfl : _ = some (Value.int .i64 n1))
          have c3 := (blk_cell HP3.out 3).trans (rfl : _ = some (Value.slice A1 m1 c1))
          have hp4 := blk_alloc HP3.out (.cells #[.pointer none] 45)
          have e0 := (blk_cell hp4 0).trans (rfl : _ = some (Value.int .i64 k1))
          have e1 := (blk_cell hp4 1).trans (rfl : _ = some (Value.int .i64 a1))
          have e2 := (blk_cell hp4 2).trans (rfl : _ = some (Value.int .i64 n1))
          have e3 := (blk_cell hp4 3).trans (rfl : _ = some (Value.slice A1 m1 c1))
          obtain ⟨W4, hW4⟩ : ∃ W4, W4 = W3.alloc (.cells #[.pointer none] 45) := ⟨_, rfl⟩
          have HR4 := Aside0.mk (show RE W4 g1 (.slice A es.length cp) es from by rw [hW4]; exact Kd.R_below (Kd.R_below HR.out HB3.out) (below_alloc (Below.refl _ _) _))
          have HV4 := Aside0.mk (show RV W4 g1 (.slice A1 m1 c1) b from by rw [hW4]; exact Kd.R_below (Kd.R_lower HV.out HS.out) (below_alloc (Below.refl _ _) _))
          rw [← hW4] at HB4 e0 e1 e2 e3
          have HS4 := Aside0.mk (show g1 ≤ W4.heap.size from by rw [hW4]; have := HS.out; have := HB3.out.size; simp; omega)
          clear hv h1 h2 hp4 c0 c1' c2 c3
          go_upto_region 10 with (fail)
          rw [← hW4]
          clear hW4
          go_wp2_with (first | (go_at_call 16; (with_reducible refine (As.as_nil _ _).mono ?_); rintro e w5 ⟨rfl, hw⟩; rw [hw]; clear hw) | (at_builtin; refine Kd.R_append kE (w0 := W1) g1 rfl (.tmp 40) (.tmp 42) 23 35 (.agg #[.int .i64 0, .int .i64 0, .int .i64 0, .slice none 0 0]) 48 rfl Tryz.underlying23 info_e rfl (by decide) (by omega) (.slice A es.length cp) es ⟨k1, a1, n1, b⟩ [.int .i64 k1, .int .i64 a1, .int .i64 n1, .slice A1 m1 c1] (fun _ => True) (fun kk => ∃ cells, W4.heap[kk]? = some (.cells cells 5 (0, 0))) rfl rfl ?aP ?aK ?aF ?aO ?aB ?aS ?aL ?_; (case aP => exact kE_mkM W4 g1 _ ⟨k1, a1, n1, b⟩ (Kd.R_mono (Kd.R_bound HV4.out) (fun kk hk => by obtain ⟨_, _, _, q, hq, hc⟩ := hk; simp [Kd.int, Kd.scalar] at hq; subst hq; exact hc))); (case aK => exact fun kk ⟨cells, hc⟩ => ⟨trivial, Kd.R_ne HR4.out hc (by decide)⟩); (case aB => exact HB4.out); (case aF => exact fun _ _ => trivial); (case aO => exact HR4.out); (case aS => exact HS4.out); (case aL => have := HI.out; omega); intro v1 w6 ho hb hgr hat; have HO3 := Aside0.mk ho; have HB6 := Aside0.mk hb; have HS6 := Aside0.mk (U.grown_size hgr HS4.out); clear ho hb hgr hat))
          go_roundg (gk - 1)
          case measure => have := HI.out; omega
          case rel => exact ⟨es ++ [⟨k1, a1, n1, b⟩], k + 1, rfl, ⟨by have := HI.out; omega, HLT.out, by rw [List.length_append, HI.out.2.2]; rfl⟩, ⟨by rw [List.map_append, HE.out.1, List.take_add_one, HPK.out, List.map_cons, HL1.out]; rfl, fun x hx => by rcases List.mem_append.1 hx with hx | hx; exact HE.out.2 x hx; simp only [List.mem_singleton] at hx; exact hx ▸ HM1.out⟩, HO3, HB6, HS6⟩
        · have HBAD := Aside0.mk h2
          clear h2
          go_wp2_with (first | (go_at_call 16; (with_reducible refine (as_hit_below ⟨bb, 0, none⟩ W3.heap.size _ _ _ (HG.out.below (HB1.out.trans (HB4.out.mono HW1.out))) (blk_new W3 _)).mono ?_); rintro e w5 ⟨rfl, hb⟩; have HB5 := Aside0.mk hb; clear hb))
          go_ret2
          refine ⟨(HB1.out.trans (HB4.out.mono HW1.out)).trans (HB5.out.mono (Nat.le_trans HW1.out (Nat.le_trans HS.out HB3.out.size))), .inr ⟨rfl, no_line HPK.out ?_ HBAD.out⟩⟩
          rw [← HLS.out.1, List.length_map, HLS.out.2]
          have := HI.out
          omega
  · have n2 : last.toList.isEmpty = false := by rw [← decide_eq_emptyBytes]; exact decide_eq_false hl
    have HNE := Aside0.mk hl
    clear hl
    go_wp2
    go_ret2
    exact ⟨HB1.out, .inr ⟨rfl, fun es he => no_text (by rw [HLAST.out]; exact fun e => HNE.out (ByteArray.ext (Array.toList_inj.1 e))) es he⟩⟩
end Go.Proofs.YtjapnbghnnbamaaGreatDoor.Of
