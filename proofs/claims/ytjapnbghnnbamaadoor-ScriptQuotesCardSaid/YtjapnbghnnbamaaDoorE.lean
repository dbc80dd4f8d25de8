/- script.escaped: what is told behind a backslash. -/
import Derived.Test.YtjapnbghnnbamaaDoorPlainU
import Derived.Test.YtjapnbghnnbamaaDoorHex8
import Derived.Test.YtjapnbghnnbamaaDoorGl
import Derived.Test.YtjapnbghnnbamaaDoorExtConv
import Derived.Test.YtjapnbghnnbamaaDoorWMore
import Derived.Lib.IfaceNeq
import Derived.Laws.DeepStrings4
namespace Go.Proofs.YtjapnbghnnbamaaDoor.E
open Go.RowKit Go.Proofs.YtjapnbghnnbamaaDoorW.PrintWords Go.Proofs.YtjapnbghnnbamaaDoorW.PrintLast Go.Proofs.YtjapnbghnnbamaaDoor.Ext
open Go.Proofs.YtjapnbghnnbamaaDoor.Plain (esc)
set_option linter.unusedVariables false
set_option linter.unusedSimpArgs false
theorem parse_ok (s : ByteArray) (hs : s.size = 2) (u : Nat) (h : hexval 0 s.data.toList = some u) (w : World) :
    Calls Tryd.prog 24 #[.string s, .int .i64 16, .int .i64 8] w fun e w' => e = .returned (.tuple #[.int .u64 u, .nilIface]) ∧ Below w.heap.size w w' :=
  AnyPu.ParseUint_16_8_ok Tryd.laysPu14 s (by omega) (by omega) u h w
theorem parse_no (s : ByteArray) (hs : s.size = 2) (h : hexval 0 s.data.toList = none) (w : World) (hG : Glob w) :
    Calls Tryd.prog 24 #[.string s, .int .i64 16, .int .i64 8] w fun e w' => ∃ N, e = .returned (.tuple #[.int .u64 0, .iface 79 (.pointer (some ⟨N, 0, none⟩))]) ∧ Below w.heap.size w w' := by
  obtain ⟨ev, h1, h2⟩ := hG.err
  exact AnyPu.ParseUint_16_8_no Tryd.laysPu14 s (by omega) (by omega) h ev w h1 h2
theorem hex2_lt {l : List UInt8} {n : Nat} (h : hexval 0 (l.take 2) = some n) : n < 256 := by
  match l with
  | [] => simp [hexval] at h; omega
  | [a] =>
    cases ha : hexv a with
    | none => simp [hexval, ha] at h
    | some d => simp [hexval, ha] at h; have := hexv_lt ha; omega
  | a :: b :: r =>
    cases ha : hexv a with
    | none => simp [hexval, ha] at h
    | some d =>
      cases hb : hexv b with
      | none => simp [hexval, ha, hb] at h
      | some e => simp [hexval, ha, hb] at h; have := hexv_lt ha; have := hexv_lt hb; omega
def EscV (l : List UInt8) : Value := .tuple #[.int .u8 ((esc l).1.toNat : Int), .int .i64 ((esc l).2 : Int)]
theorem get_cons {t : ByteArray} {c : UInt8} {r : List UInt8} (h : t.data.toList = c :: r) (h0 : 0 < t.size) : t[0]'h0 = c := by
  have := Lib.getD_at t 0 h0
  rw [h] at this
  exact this
set_option maxHeartbeats 4000000 in
set_option maxRecDepth 100000 in
theorem esc_nil (w : World) : Calls Tryd.prog 15 #[.string ⟨#[]⟩] w fun e w' => e = .returned (EscV []) ∧ Below w.heap.size w w' := by
  go_enter Tryd.func15, Tryd.ntmps15
  go_wp2
  go_ret2
  exact ⟨rfl, Below.refl _ _⟩
set_option maxHeartbeats 8000000 in
set_option maxRecDepth 100000 in
theorem esc_cons (t : ByteArray) (c : UInt8) (r : List UInt8) (h : t.data.toList = c :: r) (hm : t.size ≤ 1000000000) (w : World) (hG : Glob w) : Calls Tryd.prog 15 #[.string t] w fun e w' => e = .returned (EscV (c :: r)) ∧ Below w.heap.size w w' := by
  have hsz : t.size = r.length + 1 := by rw [Lib.size_eq, h]; rfl
  have h0 : 0 < t.size := by omega
  have hg := get_cons h h0
  have n2 : t.toList.isEmpty = false := by rw [← decide_eq_emptyBytes]; exact decide_eq_false (fun e => by rw [e] at h; cases h)
  obtain ⟨x, hx⟩ : ∃ x : Int, x = (c.toNat : Int) := ⟨_, rfl⟩
  have HG := Aside0.mk hG
  have HH := Aside0.mk h
  have HSZ := Aside0.mk hsz
  have HCX := Aside0.mk hx
  have hidx : ∀ W : World, (Instr.index 9 (.string t) (.int .i64 0)).run Tryd.prog W = .ok (.int .u8 x) W := fun W => by go_simp
  have hlt := c.toNat_lt
  have hC : ∀ n : Nat, n < 256 → x = n → c = UInt8.ofNat n := fun n hn e => UInt8.toNat_inj.1 (by rw [show (UInt8.ofNat n).toNat = n by simp; omega]; omega)
  by_cases h110 : x = 110
  · have hE := Aside0.mk (show esc (c :: r) = (10, 1) by rw [hC 110 (by decide) h110]; rfl)
    clear hG h hsz hx hg hlt hC
    subst h110
    go_enter Tryd.func15, Tryd.ntmps15
    go_wp2
    go_ret2
    exact ⟨by rw [EscV, hE.out]; rfl, Below.refl _ _⟩
  · have n110 : (x == 110) = false := beq_eq_false_iff_ne.mpr h110
    by_cases h114 : x = 114
    · have hE := Aside0.mk (show esc (c :: r) = (13, 1) by rw [hC 114 (by decide) h114]; rfl)
      clear hG h hsz hx hg hlt hC n110 h110
      subst h114
      go_enter Tryd.func15, Tryd.ntmps15
      go_wp2
      go_ret2
      exact ⟨by rw [EscV, hE.out]; rfl, Below.refl _ _⟩
    · have n114 : (x == 114) = false := beq_eq_false_iff_ne.mpr h114
      have c110 : c ≠ 110 := fun e => h110 (by rw [hx, e]; rfl)
      have c114 : c ≠ 114 := fun e => h114 (by rw [hx, e]; rfl)
      by_cases h120 : x = 120
      · have e120 := hC 120 (by decide) h120
        by_cases hl : 2 ≤ r.length
        · have hl1 : decide ((t.size : Int) > 2) = true := decide_eq_true (by omega)
          have hl2 : decide (2 < t.size) = true := decide_eq_true (by omega)
          obtain ⟨S, hS⟩ : ∃ S, S = t.extract 1 3 := ⟨_, rfl⟩
          have hSl : S.data.toList = r.take 2 := by
            rw [hS, Lib.extract_data, h]
            simp
          have hSz : S.size = 2 := by rw [Lib.size_eq, hSl, List.length_take]; omega
          have hsl : ∀ W : World, (Instr.slice 9 (.string t) (some (.int .i64 1)) (some (.int .i64 3)) none).run Tryd.prog W = .ok (.string S) W := fun W => by
            rw [run_slice_string_if W 9 _ .i64 .i64 _ _ Tryd.underlying9, if_pos ⟨by decide, by omega⟩, if_pos ⟨by decide, by decide⟩, hS]
            rfl
          cases hv : hexval 0 (r.take 2) with
          | some u =>
            have hE := Aside0.mk (show esc (c :: r) = (UInt8.ofNat u, 3) by rw [e120]; simp only [esc]; rw [if_neg (by decide), if_neg (by decide), if_pos ⟨rfl, hl⟩, hv])
            have hu := hex2_lt hv
            have HU := Aside0.mk hu
            have hw : IntKind.u8.wrap (u : Int) = u := by simp [IntKind.wrap, IntKind.bits, IntKind.signed]; omega
            have HP := Aside0.mk (parse_ok S hSz u (by rw [hSl]; exact hv) w)
            have u0 : (u : Int) < 256 := by omega
            clear hG h hsz hx hg hlt hC n110 h110 n114 h114 c110 c114 e120 hl hSl hSz hv hS hu
            subst h120
            go_enter Tryd.func15, Tryd.ntmps15
            go_wp2_with (first | (go_at_call 24; (with_reducible refine HP.out.mono ?_); rintro e w1 ⟨rfl, hb⟩; have HB := Aside0.mk hb; clear hb))
            go_ret2
            exact ⟨by rw [EscV, hE.out]; simp only; rw [show (UInt8.ofNat u).toNat = u by simp; exact HU.out]; rfl, HB.out⟩
          | none =>
            have hE := Aside0.mk (show esc (c :: r) = (0, 0) by rw [e120]; simp only [esc]; rw [if_neg (by decide), if_neg (by decide), if_pos ⟨rfl, hl⟩, hv])
            have HP := Aside0.mk (parse_no S hSz (by rw [hSl]; exact hv) w hG)
            clear hG h hsz hx hg hlt hC n110 h110 n114 h114 c110 c114 e120 hl hSl hSz hv hS
            subst h120
            go_enter Tryd.func15, Tryd.ntmps15
            go_wp2_with (first | (go_at_call 24; (with_reducible refine HP.out.mono ?_); rintro e w1 ⟨M, rfl, hb⟩; have HB := Aside0.mk hb; clear hb))
            go_ret2
            exact ⟨by rw [EscV, hE.out]; rfl, HB.out⟩
        · have hl1 : decide ((t.size : Int) > 2) = false := decide_eq_false (by omega)
          have hl2 : decide (2 < t.size) = false := decide_eq_false (by omega)
          have hE := Aside0.mk (show esc (c :: r) = (c, 1) by rw [e120]; simp only [esc]; rw [if_neg (by decide), if_neg (by decide), if_neg (fun q => hl q.2)])
          clear hG h hsz hg hlt hC n110 h110 n114 h114 c110 c114 e120 hl hx
          subst h120
          go_enter Tryd.func15, Tryd.ntmps15
          go_wp2
          go_ret2
          exact ⟨by rw [EscV, hE.out]; simp only; rw [← HCX.out]; rfl, Below.refl _ _⟩
      · have n120 : (x == 120) = false := beq_eq_false_iff_ne.mpr h120
        have hE := Aside0.mk (show esc (c :: r) = (c, 1) by simp only [esc]; rw [if_neg c110, if_neg c114, if_neg (fun q => h120 (by rw [hx, q.1]; rfl))])
        clear hG h hsz hg hlt hC h110 h114 c110 c114 hx h120
        go_enter Tryd.func15, Tryd.ntmps15
        go_wp2
        go_ret2
        exact ⟨by rw [EscV, hE.out]; simp only; rw [← HCX.out]; rfl, Below.refl _ _⟩
theorem esc_calls (t : ByteArray) (hm : t.size ≤ 1000000000) (w : World) (hG : Glob w) : Calls Tryd.prog 15 #[.string t] w fun e w' => e = .returned (EscV t.data.toList) ∧ Below w.heap.size w w' := by
  cases h : t.data.toList with
  | nil =>
    have : t = ⟨#[]⟩ := ByteArray.ext (Array.toList_inj.1 (by rw [h]))
    subst this
    exact esc_nil w
  | cons c r => exact esc_cons t c r h hm w hG
end Go.Proofs.YtjapnbghnnbamaaDoor.E
