/- The law ScriptQuotes: how bytes are told, which bytes a text tells, and which scripts are the same. -/
import Derived.Test.YtjapnbghnnbamaaDoorKn
import Derived.Test.YtjapnbghnnbamaaDoorR
import Derived.Test.YtjapnbghnnbamaaDoorAp
namespace Go.Proofs.YtjapnbghnnbamaaDoor.SQ
open Go.RowKit Go.Proofs.YtjapnbghnnbamaaDoorW.PrintWords Go.Proofs.YtjapnbghnnbamaaDoorW.PrintLast Go.Proofs.YtjapnbghnnbamaaDoor.Ext Go.Proofs.YtjapnbghnnbamaaDoor.Q Go.Proofs.YtjapnbghnnbamaaDoor.S Go.Proofs.YtjapnbghnnbamaaDoor.L Go.Proofs.YtjapnbghnnbamaaDoor.U Go.Proofs.YtjapnbghnnbamaaDoor.Kn Go.Proofs.YtjapnbghnnbamaaDoor.Ap Go.Proofs.YtjapnbghnnbamaaDoor.PScriptQuotes
open Go.Proofs.YtjapnbghnnbamaaDoor.Plain (quote quote_inj)
set_option linter.unusedVariables false
set_option linter.unusedSimpArgs false
theorem bstep {a b c : World} (h1 : Below a.heap.size a b) (h2 : Below b.heap.size b c) : Below a.heap.size a c := h1.trans (h2.mono h1.size)
/-- A row of bytes that is read. -/
def RB (w : World) (A : Option Addr) (c : Nat) (l : List Int) : Prop := l.length ≤ c ∧ Kd.C (Kd.int .u8) w A l.length l
theorem RB.below {w w1 : World} {A : Option Addr} {c : Nat} {l : List Int} (h : RB w A c l) (hb : Below w.heap.size w w1) : RB w1 A c l := ⟨h.1, Kd.C_below h.2 hb⟩
theorem RB.str {w : World} {A : Option Addr} {c : Nat} {l : List Int} (h : RB w A c l) : (convert 22 9 (.slice A l.length c)).run Tryd.prog w = .ok (.string (strOfNums l)) w := C_string0 (P := Tryd.prog) (c := c) Tryd.underlying22 Tryd.underlying5 Tryd.underlying9 h.2 _ rfl
theorem RB.byt {w : World} {A : Option Addr} {c : Nat} {b : List UInt8} (h : RB w A c (nb b)) : Byt w (.slice A b.length c) b := ⟨A, c, rfl, by rw [← nb_length]; exact h.1, by have := Kd.reads_of_C (d := (0 : Int)) h.2; rwa [nb_length] at this⟩
theorem rb_of_R {w : World} {base : Nat} {v : Value} {l : List Int} (h : Kd.R (Kd.int .u8) 5 w base (fun _ => True) v l) : ∃ A c, v = .slice A l.length c ∧ RB w A c l := by
  obtain ⟨A, c, rfl⟩ := Kd.R_slice h
  obtain ⟨_, h2, h3⟩ := Kd.R_reads' h
  exact ⟨A, c, rfl, h2, h3⟩
/-- What a call of an Unquote answers of s. -/
abbrev UC (f : Nat) (s : ByteArray) (is : Bool) (l : List Int) : Prop :=
  ∀ w, Glob w → Calls Tryd.prog f #[.string s] w fun e w' => ∃ A c, e = .returned (.tuple #[.slice A l.length c, .bool is]) ∧ RB w' A c l ∧ Below w.heap.size w w'
theorem uc_of (s : ByteArray) (hm : s.size ≤ 1000000) (is : Bool) (l : List Int) (h : (is = true ∧ ∃ b, quote b = s.data.toList ∧ l = nb b) ∨ (is = false ∧ l = [] ∧ ∀ b, quote b ≠ s.data.toList)) : UC 6 s is l := fun w hG => by
  refine (unq_calls s (by omega) w hG).mono ?_
  rintro e w' ⟨hb, h2⟩
  rcases h with ⟨rfl, b, hq, rfl⟩ | ⟨rfl, rfl, hn⟩
  · rcases h2 with ⟨v, os, rfl, hos, hR⟩ | ⟨_, hn⟩
    · obtain rfl := quote_inj (hos.trans hq.symm)
      obtain ⟨A, c, rfl, hr⟩ := rb_of_R hR
      exact ⟨A, c, rfl, hr, hb⟩
    · exact absurd hq (hn b)
  · rcases h2 with ⟨v, os, rfl, hos, hR⟩ | ⟨rfl, _⟩
    · exact absurd hos (hn os)
    · exact ⟨none, 0, rfl, ⟨Nat.le_refl _, Kd.C_of_reads (d := (0 : Int)) (h1 := fun _ => rfl) (ReadsInt.nil w' .u8)⟩, hb⟩
theorem uc_ref (s : ByteArray) (hm : s.size ≤ 1000000) : ∃ (l : List Int) (is : Bool), UC 7 s is l ∧ ((is = true ∧ ∃ b, quote b = s.data.toList ∧ l = nb b) ∨ (is = false ∧ l = [] ∧ ∀ b, quote b ≠ s.data.toList)) := by
  obtain ⟨l, is, hev, h⟩ := R.unq_ev s hm
  obtain ⟨k, hk⟩ := hev.rounds
  refine ⟨l, is, fun w _ => ?_, h⟩
  refine (odometerref23_Unquote.calls k s l is w hk).mono ?_
  rintro e w' ⟨v, rfl, hR, hb⟩
  obtain ⟨A, c, rfl, hr⟩ := rb_of_R hR
  exact ⟨A, c, rfl, hr, hb⟩
theorem quote_ref (A : Option Addr) (c : Nat) (bs : List UInt8) (hl : bs.length ≤ 1000000) (w : World) (h : RB w A c (nb bs)) : Calls Tryd.prog 8 #[.slice A (nb bs).length c] w fun e w' => e = .returned (.string (ba (quote bs))) ∧ Below w.heap.size w w' := by
  obtain ⟨k, hk⟩ := (R.quote_ev bs hl).rounds
  exact odometerref23_Quote.calls k A c (nb bs) _ w h.2 h.1 hk
theorem quote_own (A : Option Addr) (c : Nat) (bs : List UInt8) (hl : bs.length ≤ 1000000) (w : World) (hG : Glob w) (h : RB w A c (nb bs)) : Calls Tryd.prog 5 #[.slice A (nb bs).length c] w fun e w' => e = .returned (.string (ba (quote bs))) ∧ Below w.heap.size w w' :=
  quote_calls2 A c bs w (by have := Kd.reads_of_C (d := (0 : Int)) h.2; rwa [nb_length] at this) (by have := h.1; rwa [nb_length] at this) (by omega) hG.t15
theorem nb_of (l : List Int) (hw : ∀ x ∈ l, (Lit.int .u8 x).wf = true) : ∃ bs, l = nb bs := by
  refine ⟨l.map fun x => UInt8.ofNat x.toNat, ?_⟩
  unfold nb
  rw [List.map_map]
  refine ((List.map_congr_left (fun x hx => ?_)).trans (List.map_id l)).symm
  have h := hw x hx
  simp [Lit.wf, IntKind.min, IntKind.max, IntKind.bits, IntKind.signed] at h
  simp
  omega
theorem str_nb (bs : List UInt8) : (strOfNums (nb bs)).data.toList = bs := by
  rw [strOfNums_data]
  unfold nb
  rw [List.map_map]
  exact (List.map_congr_left (fun c _ => by simp)).trans (List.map_id bs)
theorem bytes_nb (s : ByteArray) : bytesOf s = nb s.data.toList := by
  unfold bytesOf nb
  rfl
theorem byt_nb {w : World} {A : Option Addr} {c : Nat} {b : List UInt8} (h : RB w A c (nb b)) : Byt w (.slice A (nb b).length c) b := by have := h.byt; rwa [← nb_length b] at this
def odometerlaw23_ScriptQuotes.Pure : Prop := True
set_option maxHeartbeats 4000000 in
set_option maxRecDepth 100000 in
theorem big_calls (A0 : Option Addr) (c0 n : Nat) (s : ByteArray) (w : World) (hG : Glob w) (h : 2000 < n ∨ 2000 < s.size) (hn : n ≤ 9223372036854775807) (hs : s.size ≤ 9223372036854775807) :
    Calls Tryd.prog 3 #[.slice A0 n c0, .string s] w fun e w' => e = .returned (.bool true) ∧ Below w.heap.size w w' := by
  have HK := Aside0.mk (known_calls w hG)
  clear hG
  by_cases h1 : 2000 < n
  · have d1 : decide ((n : Int) > 2000) = true := decide_eq_true (by omega)
    have d2 : decide (2000 < n) = true := decide_eq_true h1
    clear h h1
    go_enter Tryd.func3, Tryd.ntmps3
    go_wp2_with (first | (go_at_call 4; (with_reducible refine HK.out.mono ?_); rintro x w1 ⟨rfl, hb⟩; have HB := Aside0.mk hb; clear hb))
    go_ret
    exact ⟨rfl, HB.out⟩
  · have h2 : 2000 < s.size := h.resolve_left h1
    have d1 : decide ((n : Int) > 2000) = false := decide_eq_false (by omega)
    have d2 : decide (2000 < n) = false := decide_eq_false h1
    have d3 : decide ((s.size : Int) > 2000) = true := decide_eq_true (by omega)
    have d4 : decide (2000 < s.size) = true := decide_eq_true h2
    clear h h1 h2
    go_enter Tryd.func3, Tryd.ntmps3
    go_wp2_with (first | (go_at_call 4; (with_reducible refine HK.out.mono ?_); rintro x w1 ⟨rfl, hb⟩; have HB := Aside0.mk hb; clear hb))
    go_ret
    exact ⟨rfl, HB.out⟩
set_option maxHeartbeats 16000000 in
set_option maxRecDepth 100000 in
theorem law_calls (A0 : Option Addr) (c0 : Nat) (bs : List UInt8) (s : ByteArray) (w : World) (hR : RB w A0 c0 (nb bs)) (hG : Glob w) (hb : bs.length ≤ 2000) (hs : s.size ≤ 2000) :
    Calls Tryd.prog 3 #[.slice A0 (nb bs).length c0, .string s] w fun e w' => e = .returned (.bool true) ∧ Below w.heap.size w w' := by
  obtain ⟨ls, is, hU7, hres⟩ := uc_ref s (by omega)
  have HU7 := Aside0.mk hU7
  have HU6 := Aside0.mk (uc_of s (by omega) is ls hres)
  have hQl := quote_len bs
  have HUQ := Aside0.mk (uc_of (ba (quote bs)) (by rw [ba_size]; omega) true (nb bs) (.inl ⟨rfl, bs, rfl, rfl⟩))
  have HQO := Aside0.mk (fun (A : Option Addr) (c : Nat) (W : World) => quote_own A c bs (by omega) W)
  have HQR := Aside0.mk (fun (A : Option Addr) (c : Nat) (W : World) => quote_ref A c bs (by omega) W)
  have HLB := Aside0.mk (show (nb bs).length ≤ 2000 from by rw [nb_length]; exact hb)
  have HLS := Aside0.mk hs
  have hn0 : (0 : Int) ≤ ((nb bs).length : Int) := by omega
  have d1 : decide (((nb bs).length : Int) > 2000) = false := decide_eq_false (by have := HLB.out; omega)
  have d2 : decide (2000 < (nb bs).length) = false := decide_eq_false (by have := HLB.out; omega)
  have d3 : decide ((s.size : Int) > 2000) = false := decide_eq_false (by omega)
  have d4 : decide (2000 < s.size) = false := decide_eq_false (by omega)
  have HR0 := Aside0.mk hR
  have HG := Aside0.mk hG
  obtain ⟨Q, hQ⟩ : ∃ Q, Q = ba (quote bs) := ⟨_, rfl⟩
  rw [← hQ] at HUQ HQO HQR
  obtain ⟨L, hL⟩ : ∃ L, L = nb bs := ⟨_, rfl⟩
  rw [← hL] at HUQ HQO HQR HLB hn0 d1 d2 HR0 ⊢
  have HLN := Aside0.mk hL
  clear hU7 hres hQl hR hG hb hs hQ hL
  go_enter Tryd.func3, Tryd.ntmps3
  go_upto_region 10 with (first | ((with_reducible refine gate_dst (N := 25) rfl ?_); refine list_of_step (by rfl) (step_row w.heap.size (by rfl) (.const (.slice none 0 0)) (.tmp 24) 22 5 rfl Tryd.underlying22 info_u8 (.slice none 0 0) [] L A0 L.length c0 rfl rfl (own_nil _ _ _ _) (Kd.reads_of_C (d := (0 : Int)) HR0.out.2) (Nat.le_refl _) (by have := HLB.out; simp only [List.length_nil]; omega) ?_); intro v1 w1 ho hg; have HB := Aside0.mk (show Below w.heap.size w w1 from (Below.refl _ _).grown hg (Nat.le_refl _) (fun k hk => by simp [Value.ownBlock] at hk)); obtain ⟨A1, c1, e1, hr1⟩ := rb_of_R (Kd.R_of_own (enc := Value.int .u8) (h1 := fun _ => rfl) (ok := fun _ => True) (show w1.ownsRow w.heap.size 5 1 v1 L.length (encs (Value.int .u8) L) from ho) (fun _ _ => trivial)); subst e1; have HR1 := Aside0.mk hr1; have n0 := Aside0.mk (HR0.out.below HB.out); clear HR0; have HR0 := n0; clear n0; clear ho hg hr1) | (go_at_call 5; (with_reducible refine (HQO.out A1 c1 _ (HG.out.below HB.out) HR1.out).mono ?_); rintro e w2 ⟨rfl, hb⟩; have n0 := Aside0.mk (HR0.out.below hb); have n1 := Aside0.mk (HR1.out.below hb); clear HR0 HR1; have HR0 := n0; have HR1 := n1; clear n0 n1; have m0 := Aside0.mk (bstep HB.out hb); clear HB hb; have HB := m0; clear m0) | (go_at_call 6; (with_reducible refine (HUQ.out _ (HG.out.below HB.out)).mono ?_); rintro e w3 ⟨A3, c3, rfl, hr, hb⟩; have HR3 := Aside0.mk hr; clear hr; have n0 := Aside0.mk (HR0.out.below hb); have n1 := Aside0.mk (HR1.out.below hb); clear HR0 HR1; have HR0 := n0; have HR1 := n1; clear n0 n1; have m0 := Aside0.mk (bstep HB.out hb); clear HB hb; have HB := m0; clear m0) | (go_at_call 6; (with_reducible refine (HU6.out _ (HG.out.below HB.out)).mono ?_); rintro e w4 ⟨A4, c4, rfl, hr, hb⟩; have HR4 := Aside0.mk hr; clear hr; have n0 := Aside0.mk (HR0.out.below hb); have n1 := Aside0.mk (HR1.out.below hb); have n2 := Aside0.mk (HR3.out.below hb); clear HR0 HR1 HR3; have HR0 := n0; have HR1 := n1; have HR3 := n2; clear n0 n1 n2; have m0 := Aside0.mk (bstep HB.out hb); clear HB hb; have HB := m0; clear m0) | (go_at_call 7; (with_reducible refine (HU7.out _ (HG.out.below HB.out)).mono ?_); rintro e w5 ⟨A5, c5, rfl, hr, hb⟩; have HR5 := Aside0.mk hr; clear hr; have n0 := Aside0.mk (HR0.out.below hb); have n1 := Aside0.mk (HR1.out.below hb); have n2 := Aside0.mk (HR3.out.below hb); have n3 := Aside0.mk (HR4.out.below hb); clear HR0 HR1 HR3 HR4; have HR0 := n0; have HR1 := n1; have HR3 := n2; have HR4 := n3; clear n0 n1 n2 n3; have m0 := Aside0.mk (bstep HB.out hb); clear HB hb; have HB := m0; clear m0) | (go_at_call 8; (with_reducible refine (HQR.out A0 c0 _ HR0.out).mono ?_); rintro e w6 ⟨rfl, hb⟩; have n0 := Aside0.mk (HR0.out.below hb); have n1 := Aside0.mk (HR1.out.below hb); have n2 := Aside0.mk (HR3.out.below hb); have n3 := Aside0.mk (HR4.out.below hb); have n4 := Aside0.mk (HR5.out.below hb); clear HR0 HR1 HR3 HR4 HR5; have HR0 := n0; have HR1 := n1; have HR3 := n2; have HR4 := n3; have HR5 := n4; clear n0 n1 n2 n3 n4; have m0 := Aside0.mk (bstep HB.out hb); clear HB hb; have HB := m0; clear m0; have hv0 := HR0.out.str; have hv1 := HR1.out.str; have hv3 := HR3.out.str; have hv4 := HR4.out.str; have hv5 := HR5.out.str))
  have hA : bytesConv.f s = some (nb s.data.toList) := by unfold bytesConv.f; rw [if_pos (by have := HLS.out; omega), bytes_nb]
  have HA := Aside0.mk hA
  clear hA hv0 hv1 hv3 hv4 hv5 HR1 HR3 HR4 HR5
  go_upto_region 11 with (first | ((with_reducible refine conv_upon Tryd.underlying9 Tryd.underlying22 Tryd.underlying5 _ (nb s.data.toList) HA.out ?_); intro v7 w7 ho0 hb; obtain ⟨A7, c7, e7⟩ := Kd.V_slice ho0; subst e7; have HR7 := Aside0.mk (show RB w7 A7 c7 (nb s.data.toList) from (Kd.V_reads' ho0).2); have HB7 := Aside0.mk hb; clear ho0 hb))
  obtain ⟨W, hW⟩ : ∃ W, W = w7.alloc (Obj.cells #[.int .i64 6, .int .i64 0, .int .i64 0, .slice A7 (nb s.data.toList).length c7] 29) := ⟨_, rfl⟩
  have HW7 := Aside0.mk (show Below w7.heap.size w7 W from by rw [hW]; exact below_alloc (Below.refl _ _) _)
  have HQE := Aside0.mk (show ER W (some ⟨w7.heap.size, 0, none⟩) 1 [⟨6, 0, 0, s.data.toList⟩] from by rw [hW]; exact er_one w7 ⟨6, 0, 0, s.data.toList⟩ _ (byt_nb HR7.out))
  rw [← hW]
  have HP6 := Aside0.mk (er_one w6 ⟨6, 0, 0, bs⟩ (.slice A0 L.length c0) (by rw [HLN.out]; exact byt_nb (HLN.out ▸ HR0.out)))
  have HPE := Aside0.mk ((HP6.out.below HB7.out).below HW7.out)
  have HBW := Aside0.mk (bstep (bstep HB.out (show Below w6.heap.size w6 w7 from bstep (show Below w6.heap.size w6 _ from below_alloc (Below.refl _ _) _) HB7.out)) HW7.out)
  have HRW := Aside0.mk (((HR0.out.below (show Below w6.heap.size w6 _ from below_alloc (Below.refl _ _) (.cells #[.int .i64 6, .int .i64 0, .int .i64 0, .slice A0 L.length c0] 29))).below HB7.out).below HW7.out)
  clear hW HW7 HB7 HP6 HR0 HR7 HB
  obtain ⟨gp, hgp⟩ : ∃ gp, gp = w6.heap.size := ⟨_, rfl⟩
  obtain ⟨gq, hgq⟩ : ∃ gq, gq = w7.heap.size := ⟨_, rfl⟩
  rw [← hgp] at HPE ⊢
  rw [← hgq] at HQE ⊢
  clear hgp hgq
  obtain ⟨Bs, hBs⟩ : ∃ Bs, Bs = strOfNums L := ⟨_, rfl⟩
  obtain ⟨r, hr⟩ : ∃ r, r = (Bs.toList == s.toList) := ⟨_, rfl⟩
  have HRR := Aside0.mk (show sameB [⟨6, 0, 0, bs⟩] [⟨6, 0, 0, s.data.toList⟩] = r from by rw [hr, hBs, Lib.toList_data, Lib.toList_data, HLN.out, str_nb]; simp [sameB, En.eqB])
  have HS1 := Aside0.mk (fun (W' : World) (h : Below W.heap.size W W') => show Calls Tryd.prog 9 #[.slice (some ⟨gp, 0, none⟩) 1 1, .slice (some ⟨gq, 0, none⟩) 1 1] W' fun e w' => e = .returned (.bool r) ∧ Below W'.heap.size W' w' from HRR.out ▸ same_calls _ _ 1 1 [⟨6, 0, 0, bs⟩] [⟨6, 0, 0, s.data.toList⟩] W' (HPE.out.below h) (HQE.out.below h))
  have HS2 := Aside0.mk (fun (W' : World) (h : Below W.heap.size W W') => show Calls Tryd.prog 9 #[.slice (some ⟨gp, 0, none⟩) 1 1, .slice (some ⟨gp, 0, none⟩) 1 1] W' fun e w' => e = .returned (.bool true) ∧ Below W'.heap.size W' w' from (sameB_iff [⟨6, 0, 0, bs⟩] [⟨6, 0, 0, bs⟩]).2 rfl ▸ same_calls _ _ 1 1 [⟨6, 0, 0, bs⟩] [⟨6, 0, 0, bs⟩] W' (HPE.out.below h) (HPE.out.below h))
  have HS3 := Aside0.mk (fun (W' : World) (h : Below W.heap.size W W') => show Calls Tryd.prog 9 #[.slice (some ⟨gp, 0, none⟩) 1 1, .slice none 0 0] W' fun e w' => e = .returned (.bool false) ∧ Below W'.heap.size W' w' from same_calls _ _ 1 0 [⟨6, 0, 0, bs⟩] [] W' (HPE.out.below h) ⟨rfl, by decide, fun h => absurd h (Nat.lt_irrefl 0)⟩)
  have HKN := Aside0.mk (fun (W' : World) (h : Below W.heap.size W W') => known_calls W' ((HG.out.below HBW.out).below h))
  have HST := Aside0.mk (fun (W' : World) (h : Below W.heap.size W W') => show (convert 22 9 (.slice A0 L.length c0)).run Tryd.prog W' = .ok (.string Bs) W' from hBs ▸ (HRW.out.below h).str)
  clear hBs HRR HPE HQE
  refine start_ (n := 22) (S := fun w' => Below W.heap.size W w') (ds := []) #[false, false, false, false, false, false, false, false, false, false, false, false, false, false, false, false, false, false, false, false, false, false] (by kernel_rfl) rfl rfl (below_drew1 (Below.refl _ _)) (fun hHeld => ?_)
  have hS0 := Aside0.mk (show Below W.heap.size W W.drew from below_drew1 (Below.refl _ _))
  refine pure_ (i := 0) (N := some 84) (v := ?_) (a' := ?_) #[true, false, false, false, false, false, false, false, false, false, false, false, false, false, false, false, false, false, false, false, false, false] rfl rfl (by kernel_rfl) (fun _ _ _ h => h) (Or.inl ⟨by rfl, ?_⟩) ?_ ?_
  rotate_left
  · intro w'
    go_simp
    with_reducible rfl
  rotate_left
  · simp only [Act.put, List.setIfInBounds_toArray, List.set_cons_zero, List.set_cons_succ, i64_w, i32_w]
    rfl
  refine pure_ (i := 1) (N := some 85) (v := ?_) (a' := ?_) #[true, true, false, false, false, false, false, false, false, false, false, false, false, false, false, false, false, false, false, false, false, false] rfl rfl (by kernel_rfl) (fun _ _ _ h => h) (Or.inl ⟨by rfl, ?_⟩) ?_ ?_
  rotate_left
  · intro w'
    go_simp
    with_reducible rfl
  rotate_left
  · simp only [Act.put, List.setIfInBounds_toArray, List.set_cons_zero, List.set_cons_succ, i64_w, i32_w]
    rfl
  refine pure_ (i := 3) (N := some 87) (v := ?_) (a' := ?_) #[true, true, false, true, false, false, false, false, false, false, false, false, false, false, false, false, false, false, false, false, false, false] rfl rfl (by kernel_rfl) (fun _ _ _ h => h) (Or.inl ⟨by rfl, ?_⟩) ?_ ?_
  rotate_left
  · intro w'
    go_simp
    with_reducible rfl
  rotate_left
  · simp only [Act.put, List.setIfInBounds_toArray, List.set_cons_zero, List.set_cons_succ, i64_w, i32_w]
    rfl
  refine pure_ (i := 5) (N := some 89) (v := ?_) (a' := ?_) #[true, true, false, true, false, true, false, false, false, false, false, false, false, false, false, false, false, false, false, false, false, false] rfl rfl (by kernel_rfl) (fun _ _ _ h => h) (Or.inl ⟨by rfl, ?_⟩) ?_ ?_
  rotate_left
  · intro w'
    go_simp
    with_reducible rfl
  rotate_left
  · simp only [Act.put, List.setIfInBounds_toArray, List.set_cons_zero, List.set_cons_succ, i64_w, i32_w]
    rfl
  refine take_ (i := 4) (N := some 88) (v := ?_) (a' := ?_) #[true, true, false, true, true, true, false, false, false, false, false, false, false, false, false, false, false, false, false, false, false, false] rfl rfl (by kernel_rfl) (fun _ _ _ h => h) (Or.inl ⟨by rfl, ?_⟩) hHeld ?_ ?_
  rotate_left
  · intro w' hS'
    have cv := HST.out w' hS'
    go_simp
    with_reducible rfl
  rotate_left
  · simp only [Act.put, List.setIfInBounds_toArray, List.set_cons_zero, List.set_cons_succ, i64_w, i32_w]
    rfl
  refine pure_ (i := 6) (N := some 90) (v := ?_) (a' := ?_) #[true, true, false, true, true, true, true, false, false, false, false, false, false, false, false, false, false, false, false, false, false, false] rfl rfl (by kernel_rfl) (fun _ _ _ h => h) (Or.inl ⟨by rfl, ?_⟩) ?_ ?_
  rotate_left
  · intro w'
    go_simp
    with_reducible rfl
  rotate_left
  · simp only [Act.put, List.setIfInBounds_toArray, List.set_cons_zero, List.set_cons_succ, i64_w, i32_w]
    rfl
  rw [← hr]
  refine one_ (i := 2) (N := some 86) #[true, true, true, true, true, true, true, false, false, false, false, false, false, false, false, false, false, false, false, false, false, false] rfl rfl (by kernel_rfl) (by decide) (fun K hK => ?_)
  refine goes_ Tryd.func9 (by kernel_rfl) rfl #[.slice (some ⟨gp, 0, none⟩) 1 1, .slice (some ⟨gq, 0, none⟩) 1 1] (by rfl) rfl rfl (by simp [Act.eval]) ?_
  refine (HS1.out _ hS0.out).mono ?_
  rintro e x2 ⟨rfl, hb⟩
  refine ⟨_, rfl, ?_⟩
  have hSa := Aside0.mk (hS0.out.trans (hb.mono hS0.out.size))
  refine hK.out _ _ hSa.out (fun hHeld => ?_)
  clear hK K
  refine norm_ (a' := ?_) ?_ ?_
  rotate_left
  · show Act.put _ (some 86) _ = _
    simp only [Act.put, List.setIfInBounds_toArray, List.set_cons_zero, List.set_cons_succ, i64_w, i32_w]
    rfl
  have hrr : (r == r) = true := beq_self_eq_true r
  refine pure_ (i := 7) (N := some 91) (v := ?_) (a' := ?_) #[true, true, true, true, true, true, true, true, false, false, false, false, false, false, false, false, false, false, false, false, false, false] rfl rfl (by kernel_rfl) (fun _ _ _ h => h) (Or.inl ⟨by rfl, ?_⟩) ?_ ?_
  rotate_left
  · intro w'
    go_simp
    with_reducible rfl
  rotate_left
  · simp only [Act.put, List.setIfInBounds_toArray, List.set_cons_zero, List.set_cons_succ, i64_w, i32_w]
    rfl
  refine pure_ (i := 8) (N := some 92) (v := ?_) (a' := ?_) #[true, true, true, true, true, true, true, true, true, false, false, false, false, false, false, false, false, false, false, false, false, false] rfl rfl (by kernel_rfl) (fun _ _ _ h => h) (Or.inl ⟨by rfl, ?_⟩) ?_ ?_
  rotate_left
  · intro w'
    go_simp
    with_reducible rfl
  rotate_left
  · simp only [Act.put, List.setIfInBounds_toArray, List.set_cons_zero, List.set_cons_succ, i64_w, i32_w]
    rfl
  refine pure_ (i := 9) (N := some 93) (v := ?_) (a' := ?_) #[true, true, true, true, true, true, true, true, true, true, false, false, false, false, false, false, false, false, false, false, false, false] rfl rfl (by kernel_rfl) (fun _ _ _ h => h) (Or.inl ⟨by rfl, ?_⟩) ?_ ?_
  rotate_left
  · intro w'
    go_simp
    with_reducible rfl
  rotate_left
  · simp only [Act.put, List.setIfInBounds_toArray, List.set_cons_zero, List.set_cons_succ, i64_w, i32_w]
    rfl
  refine pure_ (i := 10) (N := some 94) (v := ?_) (a' := ?_) #[true, true, true, true, true, true, true, true, true, true, true, false, false, false, false, false, false, false, false, false, false, false] rfl rfl (by kernel_rfl) (fun _ _ _ h => h) (Or.inl ⟨by rfl, ?_⟩) ?_ ?_
  rotate_left
  · intro w'
    go_simp
    with_reducible rfl
  rotate_left
  · simp only [Act.put, List.setIfInBounds_toArray, List.set_cons_zero, List.set_cons_succ, i64_w, i32_w]
    rfl
  refine one_ (i := 11) (N := some 95) #[true, true, true, true, true, true, true, true, true, true, true, true, false, false, false, false, false, false, false, false, false, false] rfl rfl (by kernel_rfl) (by decide) (fun K hK => ?_)
  refine goes_ Tryd.func9 (by kernel_rfl) rfl #[.slice (some ⟨gp, 0, none⟩) 1 1, .slice (some ⟨gp, 0, none⟩) 1 1] (by rfl) rfl rfl (by simp [Act.eval]) ?_
  refine (HS2.out _ hSa.out).mono ?_
  rintro e x11 ⟨rfl, hb⟩
  refine ⟨_, rfl, ?_⟩
  have hSb := Aside0.mk (hSa.out.trans (hb.mono hSa.out.size))
  refine hK.out _ _ hSb.out (fun hHeld => ?_)
  clear hK K
  refine norm_ (a' := ?_) ?_ ?_
  rotate_left
  · show Act.put _ (some 95) _ = _
    simp only [Act.put, List.setIfInBounds_toArray, List.set_cons_zero, List.set_cons_succ, i64_w, i32_w]
    rfl
  refine pure_ (i := 12) (N := some 96) (v := ?_) (a' := ?_) #[true, true, true, true, true, true, true, true, true, true, true, true, true, false, false, false, false, false, false, false, false, false] rfl rfl (by kernel_rfl) (fun _ _ _ h => h) (Or.inl ⟨by rfl, ?_⟩) ?_ ?_
  rotate_left
  · intro w'
    go_simp
    with_reducible rfl
  rotate_left
  · simp only [Act.put, List.setIfInBounds_toArray, List.set_cons_zero, List.set_cons_succ, i64_w, i32_w]
    rfl
  refine pure_ (i := 13) (N := some 97) (v := ?_) (a' := ?_) #[true, true, true, true, true, true, true, true, true, true, true, true, true, true, false, false, false, false, false, false, false, false] rfl rfl (by kernel_rfl) (fun _ _ _ h => h) (Or.inl ⟨by rfl, ?_⟩) ?_ ?_
  rotate_left
  · intro w'
    go_simp
    with_reducible rfl
  rotate_left
  · simp only [Act.put, List.setIfInBounds_toArray, List.set_cons_zero, List.set_cons_succ, i64_w, i32_w]
    rfl
  refine pure_ (i := 14) (N := some 98) (v := ?_) (a' := ?_) #[true, true, true, true, true, true, true, true, true, true, true, true, true, true, true, false, false, false, false, false, false, false] rfl rfl (by kernel_rfl) (fun _ _ _ h => h) (Or.inl ⟨by rfl, ?_⟩) ?_ ?_
  rotate_left
  · intro w'
    go_simp
    with_reducible rfl
  rotate_left
  · simp only [Act.put, List.setIfInBounds_toArray, List.set_cons_zero, List.set_cons_succ, i64_w, i32_w]
    rfl
  refine one_ (i := 15) (N := some 99) #[true, true, true, true, true, true, true, true, true, true, true, true, true, true, true, true, false, false, false, false, false, false] rfl rfl (by kernel_rfl) (by decide) (fun K hK => ?_)
  refine goes_ Tryd.func9 (by kernel_rfl) rfl #[.slice (some ⟨gp, 0, none⟩) 1 1, .slice none 0 0] (by rfl) rfl rfl (by simp [Act.eval]) ?_
  refine (HS3.out _ hSb.out).mono ?_
  rintro e x15 ⟨rfl, hb⟩
  refine ⟨_, rfl, ?_⟩
  have hSc := Aside0.mk (hSb.out.trans (hb.mono hSb.out.size))
  refine hK.out _ _ hSc.out (fun hHeld => ?_)
  clear hK K
  refine norm_ (a' := ?_) ?_ ?_
  rotate_left
  · show Act.put _ (some 99) _ = _
    simp only [Act.put, List.setIfInBounds_toArray, List.set_cons_zero, List.set_cons_succ, i64_w, i32_w]
    rfl
  refine pure_ (i := 16) (N := some 100) (v := ?_) (a' := ?_) #[true, true, true, true, true, true, true, true, true, true, true, true, true, true, true, true, true, false, false, false, false, false] rfl rfl (by kernel_rfl) (fun _ _ _ h => h) (Or.inl ⟨by rfl, ?_⟩) ?_ ?_
  rotate_left
  · intro w'
    go_simp
    with_reducible rfl
  rotate_left
  · simp only [Act.put, List.setIfInBounds_toArray, List.set_cons_zero, List.set_cons_succ, i64_w, i32_w]
    rfl
  refine pure_ (i := 17) (N := some 101) (v := ?_) (a' := ?_) #[true, true, true, true, true, true, true, true, true, true, true, true, true, true, true, true, true, true, false, false, false, false] rfl rfl (by kernel_rfl) (fun _ _ _ h => h) (Or.inl ⟨by rfl, ?_⟩) ?_ ?_
  rotate_left
  · intro w'
    go_simp
    with_reducible rfl
  rotate_left
  · simp only [Act.put, List.setIfInBounds_toArray, List.set_cons_zero, List.set_cons_succ, i64_w, i32_w]
    rfl
  refine pure_ (i := 18) (N := some 102) (v := ?_) (a' := ?_) #[true, true, true, true, true, true, true, true, true, true, true, true, true, true, true, true, true, true, true, false, false, false] rfl rfl (by kernel_rfl) (fun _ _ _ h => h) (Or.inl ⟨by rfl, ?_⟩) ?_ ?_
  rotate_left
  · intro w'
    go_simp
    with_reducible rfl
  rotate_left
  · simp only [Act.put, List.setIfInBounds_toArray, List.set_cons_zero, List.set_cons_succ, i64_w, i32_w]
    rfl
  refine one_ (i := 19) (N := some 103) #[true, true, true, true, true, true, true, true, true, true, true, true, true, true, true, true, true, true, true, true, false, false] rfl rfl (by kernel_rfl) (by decide) (fun K hK => ?_)
  refine goes_ Tryd.func4 (by kernel_rfl) rfl #[] (by rfl) rfl rfl (by simp [Act.eval]) ?_
  refine (HKN.out _ hSc.out).mono ?_
  rintro e x19 ⟨rfl, hb⟩
  refine ⟨_, rfl, ?_⟩
  have hSd := Aside0.mk (hSc.out.trans (hb.mono hSc.out.size))
  refine hK.out _ _ hSd.out (fun hHeld => ?_)
  clear hK K
  refine norm_ (a' := ?_) ?_ ?_
  rotate_left
  · show Act.put _ (some 103) _ = _
    simp only [Act.put, List.setIfInBounds_toArray, List.set_cons_zero, List.set_cons_succ, i64_w, i32_w]
    rfl
  refine pure_ (i := 20) (N := some 104) (v := ?_) (a' := ?_) #[true, true, true, true, true, true, true, true, true, true, true, true, true, true, true, true, true, true, true, true, true, false] rfl rfl (by kernel_rfl) (fun _ _ _ h => h) (Or.inl ⟨by rfl, ?_⟩) ?_ ?_
  rotate_left
  · intro w'
    go_simp
    with_reducible rfl
  rotate_left
  · simp only [Act.put, List.setIfInBounds_toArray, List.set_cons_zero, List.set_cons_succ, i64_w, i32_w]
    rfl
  refine pure_ (i := 21) (N := some 4) (v := ?_) (a' := ?_) #[true, true, true, true, true, true, true, true, true, true, true, true, true, true, true, true, true, true, true, true, true, true] rfl rfl (by kernel_rfl) (fun _ _ _ h => h) (Or.inl ⟨by rfl, ?_⟩) ?_ ?_
  rotate_left
  · intro w'
    go_simp
    with_reducible rfl
  rotate_left
  · simp only [Act.put, List.setIfInBounds_toArray, List.set_cons_zero, List.set_cons_succ, i64_w, i32_w]
    rfl
  refine done_ (by kernel_rfl) ?_
  go_wp2
  go_ret
  exact ⟨rfl, bstep HBW.out hSd.out⟩
theorem odometerlaw23_ScriptQuotes.walk (_P : odometerlaw23_ScriptQuotes.Pure) (a0 : Option Addr) (len0 cap0 : Nat) (z0 : List Int) (a1 : ByteArray) (w : World)
    (w0 : (a0 = none ∧ len0 = 0 ∧ cap0 = 0 ∧ z0 = []) ∨ ∃ x, a0 = some x ∧ len0 ≤ cap0 ∧ cap0 ≤ maxLen ∧ z0.length = cap0 ∧ (∀ i, i < z0.length → w.cell? (x.add i) = some (.int .u8 (z0.getD i 0))) ∧ ∀ n ∈ z0, (Lit.int .u8 n).wf = true) (_y0 : len0 * 1 ≤ 140737488351232) (w1 : a1.size ≤ 140737488351232) (hG : Glob w) :
    Calls Tryd.prog 3 #[.slice a0 len0 cap0, .string a1] w fun e w' => e = .returned (.bool true) ∧ Below w.heap.size w w' := by
  obtain ⟨l0, rfl, hr0, hm0, hw0, hc0⟩ := ReadsInt.ofRowC w0
  obtain ⟨bs, rfl⟩ := nb_of l0 hw0
  by_cases h : 2000 < bs.length ∨ 2000 < a1.size
  · exact big_calls a0 cap0 _ a1 w hG (by rw [nb_length]; exact h) (by omega) (by omega)
  · exact law_calls a0 cap0 bs a1 w ⟨hc0, Kd.C_of_reads (d := (0 : Int)) (h1 := fun _ => rfl) hr0⟩ hG (by omega) (by omega)
end Go.Proofs.YtjapnbghnnbamaaDoor.SQ
