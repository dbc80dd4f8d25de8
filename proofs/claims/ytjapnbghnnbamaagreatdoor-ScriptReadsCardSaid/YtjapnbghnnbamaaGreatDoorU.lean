/- script.escaped: what is told behind a backslash. -/
import Derived.Test.YtjapnbghnnbamaaGreatDoorPlainU
import Derived.Test.YtjapnbghnnbamaaGreatDoorHex8
import Derived.Test.YtjapnbghnnbamaaGreatDoorGl
import Derived.Test.YtjapnbghnnbamaaGreatDoorExtConv
import Derived.Test.YtjapnbghnnbamaaGreatDoorWMore
import Derived.Lib.IfaceNeq
import Derived.Laws.DeepStrings4
import Derived.Test.YtjapnbghnnbamaaGreatDoorQ
namespace Go.Proofs.YtjapnbghnnbamaaGreatDoor.E
open Go.RowKit Go.Proofs.YtjapnbghnnbamaaGreatDoorW.PrintWords Go.Proofs.YtjapnbghnnbamaaGreatDoorW.PrintLast Go.Proofs.YtjapnbghnnbamaaGreatDoor.Ext
open Go.Proofs.YtjapnbghnnbamaaGreatDoor.Plain (esc)
set_option linter.unusedVariables false
set_option linter.unusedSimpArgs false
theorem parse_ok (s : ByteArray) (hs : s.size = 2) (u : Nat) (h : hexval 0 s.data.toList = some u) (w : World) :
    Calls Tryz.prog 67 #[.string s, .int .i64 16, .int .i64 8] w fun e w' => e = .returned (.tuple #[.int .u64 u, .nilIface]) ∧ Below w.heap.size w w' :=
  AnyPu.ParseUint_16_8_ok Tryz.laysPu14 s (by omega) (by omega) u h w
theorem parse_no (s : ByteArray) (hs : s.size = 2) (h : hexval 0 s.data.toList = none) (w : World) (hG : Glob w) :
    Calls Tryz.prog 67 #[.string s, .int .i64 16, .int .i64 8] w fun e w' => ∃ N, e = .returned (.tuple #[.int .u64 0, .iface 121 (.pointer (some ⟨N, 0, none⟩))]) ∧ Below w.heap.size w w' := by
  obtain ⟨ev, h1, h2⟩ := hG.err
  exact AnyPu.ParseUint_16_8_no Tryz.laysPu14 s (by omega) (by omega) h ev w h1 h2
theorem hex2_lt {l : List UInt8} {n : Nat} (h : hexval 0 (l.take 2) = some n) : n < 256 := by
  match l with
  | [] => simp [hexval] at h; omega
  | [a] =>
    cases ha : hexv a with
    | none => simp [hexval, ha] at h
    | some d => simp [hexval, ha] at h; have := hexv_lt ha; omega
  | a :: b :: r =>
    cases ha : hexv a with
    | none => simp [hexval, ha] at h
    | some d =>
      cases hb : hexv b with
      | none => simp [hexval, ha, hb] at h
      | some e => simp [hexval, ha, hb] at h; have := hexv_lt ha; have := hexv_lt hb; omega
def EscV (l : List UInt8) : Value := .tuple #[.int .u8 ((esc l).1.toNat : Int), .int .i64 ((esc l).2 : Int)]
theorem get_cons {t : ByteArray} {c : UInt8} {r : List UInt8} (h : t.data.toList = c :: r) (h0 : 0 < t.size) : t[0]'h0 = c := by
  have := Lib.getD_at t 0 h0
  rw [h] at this
  exact this
set_option maxHeartbeats 4000000 in
set_option maxRecDepth 100000 in
theorem esc_nil (w : World) : Calls Tryz.prog 49 #[.string ⟨#[]⟩] w fun e w' => e = .returned (EscV []) ∧ Below w.heap.size w w' := by
  go_enter Tryz.func49, Tryz.ntmps49
  go_wp2
  go_ret2
  exact ⟨rfl, Below.refl _ _⟩
set_option maxHeartbeats 8000000 in
set_option maxRecDepth 100000 in
theorem esc_cons (t : ByteArray) (c : UInt8) (r : List UInt8) (h : t.data.toList = c :: r) (hm : t.size ≤ 1000000000) (w : World) (hG : Glob w) : Calls Tryz.prog 49 #[.string t] w fun e w' => e = .returned (EscV (c :: r)) ∧ Below w.heap.size w w' := by
  have hsz : t.size = r.length + 1 := by rw [Lib.size_eq, h]; rfl
  have h0 : 0 < t.size := by omega
  have hg := get_cons h h0
  have n2 : t.toList.isEmpty = false := by rw [← decide_eq_emptyBytes]; exact decide_eq_false (fun e => by rw [e] at h; cases h)
  obtain ⟨x, hx⟩ : ∃ x : Int, x = (c.toNat : Int) := ⟨_, rfl⟩
  have HG := Aside0.mk hG
  have HH := Aside0.mk h
  have HSZ := Aside0.mk hsz
  have HCX := Aside0.mk hx
  have hidx : ∀ W : World, (Instr.index 9 (.string t) (.int .i64 0)).run Tryz.prog W = .ok (.int .u8 x) W := fun W => by go_simp
  have hlt := c.toNat_lt
  have hC : ∀ n : Nat, n < 256 → x = n → c = UInt8.ofNat n := fun n hn e => UInt8.toNat_inj.1 (by rw [show (UInt8.ofNat n).toNat = n by simp; omega]; omega)
  by_cases h110 : x = 110
  · have hE := Aside0.mk (show esc (c :: r) = (10, 1) by rw [hC 110 (by decide) h110]; rfl)
    clear hG h hsz hx hg hlt hC
    subst h110
    go_enter Tryz.func49, Tryz.ntmps49
    go_wp2
    go_ret2
    exact ⟨by rw [EscV, hE.out]; rfl, Below.refl _ _⟩
  · have n110 : (x == 110) = false := beq_eq_false_iff_ne.mpr h110
    by_cases h114 : x = 114
    · have hE := Aside0.mk (show esc (c :: r) = (13, 1) by rw [hC 114 (by decide) h114]; rfl)
      clear hG h hsz hx hg hlt hC n110 h110
      subst h114
      go_enter Tryz.func49, Tryz.ntmps49
      go_wp2
      go_ret2
      exact ⟨by rw [EscV, hE.out]; rfl, Below.refl _ _⟩
    · have n114 : (x == 114) = false := beq_eq_false_iff_ne.mpr h114
      have c110 : c ≠ 110 := fun e => h110 (by rw [hx, e]; rfl)
      have c114 : c ≠ 114 := fun e => h114 (by rw [hx, e]; rfl)
      by_cases h120 : x = 120
      · have e120 := hC 120 (by decide) h120
        by_cases hl : 2 ≤ r.length
        · have hl1 : decide ((t.size : Int) > 2) = true := decide_eq_true (by omega)
          have hl2 : decide (2 < t.size) = true := decide_eq_true (by omega)
          obtain ⟨S, hS⟩ : ∃ S, S = t.extract 1 3 := ⟨_, rfl⟩
          have hSl : S.data.toList = r.take 2 := by
            rw [hS, Lib.extract_data, h]
            simp
          have hSz : S.size = 2 := by rw [Lib.size_eq, hSl, List.length_take]; omega
          have hsl : ∀ W : World, (Instr.slice 9 (.string t) (some (.int .i64 1)) (some (.int .i64 3)) none).run Tryz.prog W = .ok (.string S) W := fun W => by
            rw [run_slice_string_if W 9 _ .i64 .i64 _ _ Tryz.underlying9, if_pos ⟨by decide, by omega⟩, if_pos ⟨by decide, by decide⟩, hS]
            rfl
          cases hv : hexval 0 (r.take 2) with
          | some u =>
            have hE := Aside0.mk (show esc (c :: r) = (UInt8.ofNat u, 3) by rw [e120]; simp only [esc]; rw [if_neg (by decide), if_neg (by decide), if_pos ⟨rfl, hl⟩, hv])
            have hu := hex2_lt hv
            have HU := Aside0.mk hu
            have hw : IntKind.u8.wrap (u : Int) = u := by simp [IntKind.wrap, IntKind.bits, IntKind.signed]; omega
            have HP := Aside0.mk (parse_ok S hSz u (by rw [hSl]; exact hv) w)
            have u0 : (u : Int) < 256 := by omega
            clear hG h hsz hx hg hlt hC n110 h110 n114 h114 c110 c114 e120 hl hSl hSz hv hS hu
            subst h120
            go_enter Tryz.func49, Tryz.ntmps49
            go_wp2_with (first | (go_at_call 67; (with_reducible refine HP.out.mono ?_); rintro e w1 ⟨rfl, hb⟩; have HB := Aside0.mk hb; clear hb))
            go_ret2
            exact ⟨by rw [EscV, hE.out]; simp only; rw [show (UInt8.ofNat u).toNat = u by simp; exact HU.out]; rfl, HB.out⟩
          | none =>
            have hE := Aside0.mk (show esc (c :: r) = (0, 0) by rw [e120]; simp only [esc]; rw [if_neg (by decide), if_neg (by decide), if_pos ⟨rfl, hl⟩, hv])
            have HP := Aside0.mk (parse_no S hSz (by rw [hSl]; exact hv) w hG)
            clear hG h hsz hx hg hlt hC n110 h110 n114 h114 c110 c114 e120 hl hSl hSz hv hS
            subst h120
            go_enter Tryz.func49, Tryz.ntmps49
            go_wp2_with (first | (go_at_call 67; (with_reducible refine HP.out.mono ?_); rintro e w1 ⟨M, rfl, hb⟩; have HB := Aside0.mk hb; clear hb))
            go_ret2
            exact ⟨by rw [EscV, hE.out]; rfl, HB.out⟩
        · have hl1 : decide ((t.size : Int) > 2) = false := decide_eq_false (by omega)
          have hl2 : decide (2 < t.size) = false := decide_eq_false (by omega)
          have hE := Aside0.mk (show esc (c :: r) = (c, 1) by rw [e120]; simp only [esc]; rw [if_neg (by decide), if_neg (by decide), if_neg (fun q => hl q.2)])
          clear hG h hsz hg hlt hC n110 h110 n114 h114 c110 c114 e120 hl hx
          subst h120
          go_enter Tryz.func49, Tryz.ntmps49
          go_wp2
          go_ret2
          exact ⟨by rw [EscV, hE.out]; simp only; rw [← HCX.out]; rfl, Below.refl _ _⟩
      · have n120 : (x == 120) = false := beq_eq_false_iff_ne.mpr h120
        have hE := Aside0.mk (show esc (c :: r) = (c, 1) by simp only [esc]; rw [if_neg c110, if_neg c114, if_neg (fun q => h120 (by rw [hx, q.1]; rfl))])
        clear hG h hsz hg hlt hC h110 h114 c110 c114 hx h120
        go_enter Tryz.func49, Tryz.ntmps49
        go_wp2
        go_ret2
        exact ⟨by rw [EscV, hE.out]; simp only; rw [← HCX.out]; rfl, Below.refl _ _⟩
theorem esc_calls (t : ByteArray) (hm : t.size ≤ 1000000000) (w : World) (hG : Glob w) : Calls Tryz.prog 49 #[.string t] w fun e w' => e = .returned (EscV t.data.toList) ∧ Below w.heap.size w w' := by
  cases h : t.data.toList with
  | nil =>
    have : t = ⟨#[]⟩ := ByteArray.ext (Array.toList_inj.1 (by rw [h]))
    subst this
    exact esc_nil w
  | cons c r => exact esc_cons t c r h hm w hG
end Go.Proofs.YtjapnbghnnbamaaGreatDoor.E
namespace Go.Proofs.YtjapnbghnnbamaaGreatDoor.U
open Go.RowKit Go.Proofs.YtjapnbghnnbamaaGreatDoorW.PrintWords Go.Proofs.YtjapnbghnnbamaaGreatDoorW.PrintLast Go.Proofs.YtjapnbghnnbamaaGreatDoor.Ext Go.Proofs.YtjapnbghnnbamaaGreatDoor.Q Go.Proofs.YtjapnbghnnbamaaGreatDoor.E
open Go.Proofs.YtjapnbghnnbamaaGreatDoor.Plain (tell quote esc Part part_start part_plain part_esc part_none part_end short_none esc_le)
set_option linter.unusedVariables false
set_option linter.unusedSimpArgs false
theorem info_u8 : (Tryz.prog.info? 5).map (fun i => (i.zero, i.size, i.bytes)) = some (some (.int .u8 0), 1, 1) := by kernel_rfl
/-- What a call of Unquote leaves. -/
def Unq (w : World) (ls : List UInt8) (e : Ending) (w' : World) : Prop :=
  Below w.heap.size w w' ∧ ((∃ v os, e = .returned (.tuple #[v, .bool true]) ∧ quote os = ls ∧ Kd.R (Kd.int .u8) 5 w' w.heap.size (fun _ => True) v (nb os)) ∨ (e = .returned (.tuple #[.slice none 0 0, .bool false]) ∧ ∀ b, quote b ≠ ls))
theorem from_str (W : World) (D : ByteArray) (n : Nat) (i : Int) (hi : i = (n : Int)) (h : n ≤ D.size) : ∃ D2 : ByteArray, D2.data.toList = D.data.toList.drop n ∧ ∀ W : World, (Instr.slice 9 (.string D) (some (.int .i64 i)) none none).run Tryz.prog W = .ok (.string D2) W := by
  refine ⟨D.extract n D.size, ?_, fun W => ?_⟩
  · rw [Lib.extract_data, List.take_of_length_le (by rw [Lib.size_eq]; simp)]
  · rw [run_slice_string_from_if W 9 D .i64 i Tryz.underlying9, if_pos ⟨by omega, by omega⟩, show i.toNat = n by omega]
theorem str_ext {a b : ByteArray} (h : a.data.toList = b.data.toList) : a = b := ByteArray.ext (Array.toList_inj.1 h)
theorem str_cons {t : ByteArray} {c : UInt8} {r : List UInt8} (h : t.data.toList = c :: r) : t.size = r.length + 1 ∧ t.toList.isEmpty = false ∧ ∀ W : World, (Instr.index 9 (.string t) (.int .i64 0)).run Tryz.prog W = .ok (.int .u8 (c.toNat : Int)) W := by
  have hsz : t.size = r.length + 1 := by rw [Lib.size_eq, h]; rfl
  have h0 : 0 < t.size := by omega
  have hg := get_cons h h0
  exact ⟨hsz, by rw [← decide_eq_emptyBytes]; exact decide_eq_false (fun e => by rw [e] at h; cases h), fun W => by rw [← hg]; go_simp⟩
theorem grown_size {W w3 : World} {row : Option Nat} {g : Nat} (h : W.grownBy w3 row) (hs : g ≤ W.heap.size) : g ≤ w3.heap.size := Nat.le_trans hs h.size
theorem quote_calls2 (A : Option Addr) (cp : Nat) (bs : List UInt8) (w : World) (hr : ReadsInt w .u8 A bs.length (nb bs)) (hc : bs.length ≤ cp) (hl : bs.length ≤ 1000000000) (hT : w.cell? ⟨8, 15, none⟩ = some (.int .u8 4)) :
    Calls Tryz.prog 42 #[.slice A (nb bs).length cp] w fun e w' => e = .returned (.string ⟨(quote bs).toArray⟩) ∧ Below w.heap.size w w' := by
  rw [nb_length]
  exact quote_calls A cp bs w hr hc hl hT
theorem nb_snoc (os : List UInt8) (c : UInt8) : nb (os ++ [c]) = nb os ++ [(c.toNat : Int)] := by simp [nb]
theorem wrap_n (n : Int) (h1 : 0 ≤ n) (h2 : n ≤ 1000000000) : wrap64 (1 + n) = 1 + n := by unfold wrap64; omega
set_option maxHeartbeats 8000000 in
set_option maxRecDepth 100000 in
theorem unq_calls (s : ByteArray) (hm : s.size ≤ 100000000) (w : World) (hG : Glob w) : Calls Tryz.prog 30 #[.string s] w (Unq w s.data.toList) := by
  have HG := Aside0.mk hG
  have HM := Aside0.mk hm
  by_cases h2 : s.size < 2
  · have d1 : decide ((s.size : Int) < 2) = true := decide_eq_true (by omega)
    have d2 : decide (s.size < 2) = true := decide_eq_true h2
    have HN := Aside0.mk (short_none (s := s.data.toList) (by rw [← Lib.size_eq]; exact h2))
    clear hG hm h2
    go_enter Tryz.func30, Tryz.ntmps30
    go_wp2
    go_ret2
    exact ⟨Below.refl _ _, .inr ⟨rfl, HN.out⟩⟩
  · have d1 : decide ((s.size : Int) < 2) = false := decide_eq_false (by omega)
    have d2 : decide (s.size < 2) = false := decide_eq_false h2
    obtain ⟨D, hD⟩ : ∃ D, D = s.extract 1 (s.size - 1) := ⟨_, rfl⟩
    have hDl : D.data.toList = (s.data.toList.drop 1).take (s.data.toList.length - 2) := by
      rw [hD, Lib.extract_data, ← Lib.size_eq]
      rw [show s.size - 1 - 1 = s.size - 2 by omega]
    have hsl : ∀ W : World, (Instr.slice 9 (.string s) (some (.int .i64 1)) (some (.int .i64 ((s.size : Int) - 1))) none).run Tryz.prog W = .ok (.string D) W := fun W => by
      rw [run_slice_string_if W 9 _ .i64 .i64 _ _ Tryz.underlying9, if_pos ⟨by omega, by omega⟩, if_pos ⟨by omega, by omega⟩, hD, show ((s.size : Int) - 1).toNat = s.size - 1 by omega]
      rfl
    have HP := Aside0.mk (show Part s.data.toList [] D.data.toList by rw [hDl]; exact part_start _)
    have HDL := Aside0.mk (show D.data.toList.length ≤ s.size by rw [hDl, List.length_take, List.length_drop, ← Lib.size_eq]; omega)
    have b0 : (2 : Int) ≤ s.size := by omega
    have b1 : (s.size : Int) ≤ 100000000 := by omega
    clear hG hm h2 hD hDl
    go_enter Tryz.func30, Tryz.ntmps30
    go_wp2
    have HR0 := Aside0.mk (show Kd.R (Kd.int .u8) 5 (w.alloc (.cells #[] 5)) w.heap.size (fun _ => True) (.slice (some ⟨w.heap.size, 0, none⟩) 0 0) (nb []) from Kd.R_of_own ⟨rfl, .inr ⟨w.heap.size, 0, #[], rfl, Nat.le_refl _, heap_alloc_new _ _, by decide, by decide, rfl, rfl⟩⟩ (fun _ _ => trivial))
    have HB0 := Aside0.mk (show Below w.heap.size w (w.alloc (.cells #[] 5)) from below_alloc (Below.refl _ _) _)
    have HS0 := Aside0.mk (show w.heap.size ≤ (w.alloc (.cells #[] 5)).heap.size from HB0.out.size)
    obtain ⟨g, hg⟩ : ∃ g, g = w.heap.size := ⟨_, rfl⟩
    have HGG := Aside0.mk hg
    rw [← hg] at HR0 HB0 HS0 ⊢
    clear hg
    go_loopg [4, 5] (D.data.toList.length + 1) (fun kq v4 v5 w' => ∃ (os : List UInt8) (X : ByteArray), v5 = .string X ∧ Aside0 (X.data.toList.length < kq) ∧ Aside0 (Part s.data.toList os X.data.toList) ∧ Aside0 (os.length + X.data.toList.length ≤ s.size) ∧ Aside0 (Kd.R (Kd.int .u8) 5 w' g (fun _ => True) v4 (nb os)) ∧ Aside0 (Below g w w') ∧ Aside0 (g ≤ w'.heap.size))
    case atStart => exact ⟨[], D, rfl, ⟨by omega⟩, HP, ⟨by simpa using HDL.out⟩, HR0, HB0, HS0⟩
    case round =>
      clear HP HDL HR0 HB0 HS0 hsl
      obtain ⟨os, X, rfl, HI, HP, HLN, HR, HB, HS⟩ := hrel
      cases hX : X.data.toList with
      | nil =>
        obtain rfl : X = ⟨#[]⟩ := str_ext hX
        obtain ⟨A, cp, rfl⟩ := Kd.R_slice HR.out
        obtain ⟨_, hcp, hC⟩ := Kd.R_reads' HR.out
        rw [nb_length] at hcp
        have HRD := Aside0.mk (show ReadsInt wr .u8 A os.length (nb os) from nb_length os ▸ Kd.reads_of_C (d := (0 : Int)) hC)
        have HCP := Aside0.mk hcp
        have HQ := Aside0.mk (quote_calls2 A cp os wr HRD.out hcp (by have := HLN.out; have := HM.out; omega) (HG.out.low HGG.out HB.out).t15)
        have HNL := Aside0.mk (nb_length os)
        obtain ⟨n, hn⟩ : ∃ n, n = os.length := ⟨_, rfl⟩
        clear hX hC hcp
        obtain ⟨Q, hQ⟩ : ∃ Q : ByteArray, Q = ⟨(quote os).toArray⟩ := ⟨_, rfl⟩
        rw [← hQ] at HQ
        have HQL := Aside0.mk (show Q.data.toList = quote os by rw [hQ])
        clear hQ hn
        by_cases hq : quote os = s.data.toList
        · have he : Q = s := str_ext (HQL.out.trans hq)
          have HQQ := Aside0.mk hq
          clear hq
          subst he
          go_wp2_with (first | (go_at_call 42; (with_reducible refine HQ.out.mono ?_); rintro e w2 ⟨rfl, hb⟩; have HB2 := Aside0.mk hb; clear hb))
          go_ret2
          exact ⟨HGG.out ▸ (HB.out.trans (HB2.out.mono HS.out)), .inl ⟨_, os, rfl, HQQ.out, HGG.out ▸ Kd.R_below HR.out HB2.out⟩⟩
        · have hne : (Q.toList == s.toList) = false := beq_eq_false_iff_ne.mpr (fun e => hq (by rw [Lib.toList_data, Lib.toList_data, HQL.out] at e; exact e))
          have HNO := Aside0.mk (part_end HP.out hq)
          clear hq
          go_wp2_with (first | (go_at_call 42; (with_reducible refine HQ.out.mono ?_); rintro e w2 ⟨rfl, hb⟩; have HB2 := Aside0.mk hb; clear hb))
          go_ret2
          exact ⟨HGG.out ▸ (HB.out.trans (HB2.out.mono HS.out)), .inr ⟨rfl, HNO.out⟩⟩
      | cons c r =>
        have hs3 := str_cons hX
        have hXs := hs3.1
        have hx0 := hs3.2.1
        have hidx := hs3.2.2
        obtain ⟨x, hx⟩ : ∃ x : Int, x = (c.toNat : Int) := ⟨_, rfl⟩
        rw [← hx] at hidx
        have HX := Aside0.mk hx
        have HXL := Aside0.mk hX
        have HXS := Aside0.mk hXs
        by_cases h92 : x = 92
        · obtain rfl : c = 92 := UInt8.toNat_inj.1 (by show c.toNat = 92; omega)
          obtain ⟨D2, hD2, hsl2⟩ := from_str wr X 1 1 rfl (by omega)
          have hD2r : D2.data.toList = r := by rw [hD2, hX]; rfl
          have HES := Aside0.mk (esc_calls D2 (by rw [Lib.size_eq, hD2r]; have := HLN.out; have := HM.out; rw [hX] at *; simp at *; omega) wr (HG.out.low HGG.out HB.out))
          rw [hD2r] at HES
          obtain ⟨y, hy⟩ : ∃ y : Int, y = ((esc r).1.toNat : Int) := ⟨_, rfl⟩
          obtain ⟨n, hn⟩ : ∃ n : Int, n = ((esc r).2 : Int) := ⟨_, rfl⟩
          have HE2 := Aside0.mk (show Calls Tryz.prog 49 #[.string D2] wr fun e w' => e = .returned (.tuple #[.int .u8 y, .int .i64 n]) ∧ Below wr.heap.size wr w' by rw [hy, hn]; exact HES.out)
          clear HES
          have hle := esc_le r
          by_cases h0 : (esc r).2 = 0
          · have HNO := Aside0.mk (part_none (r := r) (by have := HP.out; rw [hX] at this; exact this) h0)
            obtain rfl : n = 0 := by rw [hn, h0]; rfl
            clear hx hX hXs hs3 hD2 hD2r hle h0 hn hy
            subst h92
            go_wp2_with (first | (go_at_call 49; (with_reducible refine HE2.out.mono ?_); rintro e w2 ⟨rfl, hb⟩; have HB2 := Aside0.mk hb; clear hb))
            go_ret2
            exact ⟨HGG.out ▸ (HB.out.trans (HB2.out.mono HS.out)), .inr ⟨rfl, HNO.out⟩⟩
          · have n0 : (n == 0) = false := beq_eq_false_iff_ne.mpr (by omega)
            have n1 : 0 ≤ n := by omega
            have n2 : n ≤ 1000000000 := by have := HLN.out; have := HM.out; rw [hX] at *; simp at *; omega
            obtain ⟨D3, hD3, hsl3⟩ := from_str wr X (1 + (esc r).2) (1 + n) (by omega) (by omega)
            have hD3r : D3.data.toList = r.drop (esc r).2 := by rw [hD3, hX, Nat.add_comm, List.drop_succ_cons]
            have HD3 := Aside0.mk hD3r
            have HN := Aside0.mk (show n = ((esc r).2 : Int) ∧ (esc r).2 ≠ 0 ∧ (esc r).2 ≤ r.length from ⟨hn, h0, hle⟩)
            have HY := Aside0.mk hy
            have HPN := Aside0.mk (part_esc (r := r) (by have := HP.out; rw [hX] at this; exact this))
            have hw := wrap_n n n1 n2
            clear hx hX hXs hs3 hD2 hD2r hle h0 hn hy hD3 hD3r
            subst h92
            go_wp2_with (first | (go_at_call 49; (with_reducible refine HE2.out.mono ?_); rintro e w2 ⟨rfl, hb⟩; have HB2 := Aside0.mk (show Below g w w2 from HB.out.trans (hb.mono HS.out)); have HR2 := Aside0.mk (Kd.R_below HR.out hb); have HS2 := Aside0.mk (show g ≤ w2.heap.size from Nat.le_trans HS.out hb.size); clear hb) | (at_builtin; refine Kd.R_append (Kd.int .u8) (w0 := w) g rfl (.tmp 36) (.tmp 38) 33 5 (.int .u8 0) 1 rfl Tryz.underlying33 info_u8 rfl (by decide) (by omega) u4 (nb os) y [.int .u8 y] (fun _ => True) (fun _ => False) rfl rfl ?aP (fun _ hk => hk.elim) ?aF ?aO ?aB ?aS ?aL ?_; (case aP => exact rfl); (case aB => exact HB2.out); (case aF => exact fun _ _ => trivial); (case aO => exact HR2.out); (case aS => exact HS2.out); (case aL => rw [nb_length]; have := HLN.out; have := HM.out; omega); intro v1 w3 ho hb hgr hat; have HO3 := Aside0.mk ho; have HB3 := Aside0.mk hb; have HS3 := Aside0.mk (grown_size hgr HS2.out); clear ho hb hgr hat))
            go_roundg (gk - 1)
            case measure => have := HI.out; rw [HXL.out] at this; simp at this; omega
            case rel => exact ⟨os ++ [(esc r).1], D3, rfl, ⟨by have := HI.out; rw [HXL.out] at this; rw [HD3.out]; have := HN.out; simp at *; omega⟩, ⟨by rw [HD3.out]; exact HPN.out⟩, ⟨by have := HLN.out; rw [HXL.out] at this; rw [HD3.out]; have := HN.out; simp at *; omega⟩, ⟨by rw [nb_snoc, ← HY.out]; exact HO3.out⟩, HB3, HS3⟩
        · have n92 : (x == 92) = false := beq_eq_false_iff_ne.mpr h92
          have hc92 : c ≠ 92 := fun e => h92 (by rw [hx, e]; rfl)
          obtain ⟨D2, hD2, hsl2⟩ := from_str wr X 1 1 rfl (by omega)
          have hD2r : D2.data.toList = r := by rw [hD2, hX]; rfl
          have HD2 := Aside0.mk hD2r
          have HPN := Aside0.mk (part_plain (by have := HP.out; rw [hX] at this; exact this) hc92)
          clear hx hX hXs hs3 hD2 hD2r h92 hc92
          go_wp2_with (first | (at_builtin; refine Kd.R_append (Kd.int .u8) (w0 := w) g rfl (.tmp 36) (.tmp 38) 33 5 (.int .u8 0) 1 rfl Tryz.underlying33 info_u8 rfl (by decide) (by omega) u4 (nb os) x [.int .u8 x] (fun _ => True) (fun _ => False) rfl rfl ?aP (fun _ hk => hk.elim) ?aF ?aO ?aB ?aS ?aL ?_; (case aP => exact rfl); (case aB => exact HB.out); (case aF => exact fun _ _ => trivial); (case aO => exact HR.out); (case aS => exact HS.out); (case aL => rw [nb_length]; have := HLN.out; have := HM.out; omega); intro v1 w3 ho hb hgr hat; have HO3 := Aside0.mk ho; have HB3 := Aside0.mk hb; have HS3 := Aside0.mk (grown_size hgr HS.out); clear ho hb hgr hat))
          go_roundg (gk - 1)
          case measure => have := HI.out; rw [HXL.out] at this; simp at this; omega
          case rel => exact ⟨os ++ [c], D2, rfl, ⟨by have := HI.out; rw [HXL.out] at this; rw [HD2.out]; simp at this; omega⟩, ⟨by rw [HD2.out]; exact HPN.out⟩, ⟨by have := HLN.out; rw [HXL.out] at this; rw [HD2.out]; simp at *; omega⟩, ⟨by rw [nb_snoc, ← HX.out]; exact HO3.out⟩, HB3, HS3⟩
end Go.Proofs.YtjapnbghnnbamaaGreatDoor.U
