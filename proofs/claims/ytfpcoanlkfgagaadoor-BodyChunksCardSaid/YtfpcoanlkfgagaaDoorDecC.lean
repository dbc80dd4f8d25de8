/- The law BodyChunks: its walk: what is sent in chunks of any sizes is what is sent by its length. -/
import Derived.Test.YtfpcoanlkfgagaaDoorDecK
import Derived.Test.YtfpcoanlkfgagaaDoorDecH
import Derived.Test.YtfpcoanlkfgagaaDoorDecY
import Derived.Laws.DeepStrings4
import Derived.Lib.SlBytesConst
import Derived.Below
import Derived.Deep.Draws
import Derived.Deep.AppendLies
import Derived.Maps.AppendAt
import Derived.OwnWalk
import Derived.Laws.BytesArg
import Derived.Laws.MakeOwn
import Derived.Laws.OwnMore
import Derived.Deep.OwnRows
import Derived.Tactics
import Derived.Lib.ConvBytes
import Derived.Laws.Slices
import Derived.WalkKit
import Derived.KernelRfl
import Derived.RowKit3
import Derived.Deep.LoopGhost
import Derived.Deep.QuietTactic
import Derived.BigQuiet
import Derived.WideLaws
import Derived.Deep.DeepCutAuto
import Derived.Deep.CutBlock
import Derived.Deep.RegionHeld3
import Derived.Laws.Rows
import Derived.Lib.AppendStr
import Derived.ArgAppend
import Derived.Laws.IdiomCopy
import Derived.OrdersHeld
import Derived.Laws.BitsLemmas
import Derived.RowKit
import Derived.WalkMore
import Derived.Test.YtfpcoanlkfgagaaDoorWWords
import Derived.Test.YtfpcoanlkfgagaaDoorWLast
import Derived.Test.YtfpcoanlkfgagaaDoorWMore
import Derived.Test.YtfpcoanlkfgagaaDoorWTab
namespace Go.Proofs.YtfpcoanlkfgagaaDoor.DecC
open Go.RowKit Go.Proofs.YtfpcoanlkfgagaaDoorW.PrintWords Go.Proofs.YtfpcoanlkfgagaaDoorW.PrintLast Go.Proofs.YtfpcoanlkfgagaaDoor.Ext Go.Proofs.YtfpcoanlkfgagaaDoor.Dec Go.Proofs.YtfpcoanlkfgagaaDoor.DecW Go.Proofs.YtfpcoanlkfgagaaDoor.DecA Go.Proofs.YtfpcoanlkfgagaaDoor.DecS Go.Proofs.YtfpcoanlkfgagaaDoor.DecR Go.Proofs.YtfpcoanlkfgagaaDoor.DecP Go.Proofs.YtfpcoanlkfgagaaDoor.DecQ Go.Proofs.YtfpcoanlkfgagaaDoor.DecK Go.Proofs.YtfpcoanlkfgagaaDoor.DecX Go.Proofs.YtfpcoanlkfgagaaDoor.DecY
set_option linter.unusedVariables false
set_option linter.unusedSimpArgs false
/-! ### two decoders -/
structure Two (B : Nat) (w : World) (F1 F2 : Nat → Prop) (g1 g2 : Nat) (d1 d2 : D) : Prop where
  D1 : IsD w F1 g1 d1
  D2 : IsD w F2 g2 d2
  s12 : ∀ i, F1 i → ¬ F2 i
  b1 : ∀ i, F1 i → B ≤ i
  b2 : ∀ i, F2 i → B ≤ i
  l1 : ∀ i, F1 i → i < w.heap.size
  l2 : ∀ i, F2 i → i < w.heap.size
  hB : B ≤ w.heap.size
section
variable {B : Nat} {w w' : World} {F1 F2 : Nat → Prop} {g1 g2 : Nat} {d1 d2 r : D}
theorem Two.swap (h : Two B w F1 F2 g1 g2 d1 d2) : Two B w F2 F1 g2 g1 d2 d1 := ⟨h.D2, h.D1, fun i a b => h.s12 i b a, h.b2, h.b1, h.l2, h.l1, h.hB⟩
theorem Two.below (h : Two B w F1 F2 g1 g2 d1 d2) (k : Below w.heap.size w w') : Two B w' F1 F2 g1 g2 d1 d2 :=
  ⟨h.D1.below k, h.D2.below k, h.s12, h.b1, h.b2, fun i hi => Nat.lt_of_lt_of_le (h.l1 i hi) k.size, fun i hi => Nat.lt_of_lt_of_le (h.l2 i hi) k.size, Nat.le_trans h.hB k.size⟩
theorem Two.push (h : Two B w F1 F2 g1 g2 d1 d2) (p : Pushed w w' F1 g1 r) : (∃ F1', Two B w' F1' F2 g1 g2 r d2) ∧ Below B w w' := by
  obtain ⟨F', hD, hF', hk⟩ := p
  refine ⟨⟨fun i => F' i ∧ i < w'.heap.size, DecK.IsD.bound hD, h.D2.keep hk fun i _ hi h1 => h.s12 i h1 hi, ?_, ?_, h.b2, fun i hi => hi.2, fun i hi => Nat.lt_of_lt_of_le (h.l2 i hi) hk.size, Nat.le_trans h.hB hk.size⟩, hk.below h.b1 h.hB⟩
  · rintro i ⟨h1, _⟩ h2
    rcases hF' i h1 with h1 | h1
    · exact h.s12 i h1 h2
    · have := h.l2 i h2; omega
  · rintro i ⟨h1, _⟩
    rcases hF' i h1 with h1 | h1
    · exact h.b1 i h1
    · have := h.hB; omega
/-- Push to the first of two, of a row that lies behind both. -/
theorem Two.pushes {A : Option Addr} {c k : Nat} {xs : List Int} (h : Two B w F1 F2 g1 g2 d1 d2) (hB : 0 < B) (hG : Glob w) (W0 : World) (hW : W0.heap.size ≤ w.heap.size) (hl : ∀ i, F1 i → i < W0.heap.size) (hm : d1.line.length + d1.body.length + xs.length ≤ 1099511627776) (hx : xs.length ≤ c) (hr : Kd.C (Kd.int .u8) w A xs.length xs) (hA : ∀ ad, A = some ad → W0.heap.size ≤ ad.block) (hp : Dec.push num tr d1 xs = some (r, k)) {n : Nat} (hn : n = xs.length) :
    Calls Tryd.prog 14 #[.pointer (some ⟨g1, 0, none⟩), .slice A n c] w fun e w' => e = .returned (.int .i64 k) ∧ (∃ F1', Two B w' F1' F2 g1 g2 r d2) ∧ Below B w w' := by
  subst hn
  refine (push_calls h.D1 (fun h0 => by have := h.b1 0 h0; omega) (fun ad e _ hf => by have := hl _ hf; have := hA ad e; omega) hG hm hx hr hp).mono ?_
  rintro e w' ⟨he, hp⟩
  exact ⟨he, h.push hp⟩
end
theorem beq_bytes (B : ByteArray) : (B == B) = true := by
  cases B with
  | mk l => show (l == l) = true; simp
theorem max_len (n : Nat) : max (n : Int) 0 = n := by omega
theorem o_law (l0 l2 : List Int) (h : l0.length ≤ 5000) : ∃ d, push num tr (newD false l0.length (max (l0.length : Int) 0)) (l0 ++ l2) = some (d, l0.length) ∧ d.done = true ∧ d.body = l0 := by
  rw [max_len]
  unfold newD
  rw [if_neg (by decide), if_pos (by omega), if_neg (by omega)]
  by_cases h0 : l0 = []
  · subst h0
    exact ⟨_, push_nil rfl _, rfl, rfl⟩
  · have h1 : 1 ≤ l0.length := List.length_pos_iff.2 h0
    rw [if_neg (by omega)]
    exact whole_law l0 l2 h1 h
theorem d_law (ps : List (List Int)) (l2 : List Int) (h : ∀ p ∈ ps, 1 ≤ p.length ∧ p.length ≤ 5000) (hb : ps.flatten.length ≤ 5000) :
    ∃ d, push num tr (newD true (-1) (max (ps.flatten.length : Int) 0)) (enc ps ++ [48, 13, 10, 13, 10] ++ l2) = some (d, (enc ps ++ [48, 13, 10, 13, 10]).length) ∧ d.done = true ∧ d.body = ps.flatten := by
  rw [max_len]
  obtain ⟨d, h1, h2, h3⟩ := chunks_law DecH.num_hex num_0 tr_end ps l2 h hb
  exact ⟨d, by rw [List.length_append]; exact h1, h2, h3⟩
theorem new_small (ch : Bool) (len m : Int) : (newD ch len m).line.length + (newD ch len m).body.length = 0 := by
  unfold newD
  repeat' split
  all_goals rfl
theorem own_below {w w' : World} {base : Nat} {v : Value} {xs : List Int} (h : w.ownsRow base 5 1 v xs.length (nums .u8 xs)) (k : Below w.heap.size w w') : w'.ownsRow base 5 1 v xs.length (nums .u8 xs) := own_move h fun b hb => k.block b (World.ownsRow.lt h b hb).2
theorem below_grown {w W w1 : World} {row : Option Nat} (h : Below w.heap.size w W) (hg : W.grownBy w1 row) (hr : ∀ k, row = some k → w.heap.size ≤ k) : Below w.heap.size w w1 := h.grown hg h.size hr
theorem piece_len (l0 : List Int) (a N : Nat) (h : a + N ≤ l0.length) : ((l0.drop a).take N).length = N := by
  rw [List.length_take, List.length_drop]; omega
theorem piece_eq (ps : List (List Int)) (l0 : List Int) (a N : Nat) (h : a + N ≤ l0.length) : enc (ps ++ [(l0.drop a).take N]) = (((enc ps ++ hexL N) ++ [13, 10]) ++ (l0.drop a).take N) ++ [13, 10] := by
  rw [enc_snoc, piece_len l0 a N h]
  simp
theorem piece_all (ps : List (List Int)) (l0 : List Int) (a N : Nat) (h : 1 ≤ N ∧ a + N ≤ l0.length) (hl : l0.length ≤ 5000) (hp : ∀ p ∈ ps, 1 ≤ p.length ∧ p.length ≤ 5000) : ∀ p ∈ ps ++ [(l0.drop a).take N], 1 ≤ p.length ∧ p.length ≤ 5000 := by
  intro p hp2
  rcases List.mem_append.1 hp2 with hp2 | hp2
  · exact hp p hp2
  · rw [List.mem_singleton.1 hp2, piece_len l0 a N h.2]; omega
theorem piece_flat (ps : List (List Int)) (l0 : List Int) (a N : Nat) (h : a + N ≤ l0.length) (hp : ps.flatten = l0.take a) : (ps ++ [(l0.drop a).take N]).flatten = l0.take (a + N) := by
  rw [List.flatten_append, hp, List.take_add]
  simp
theorem sub_row {w : World} {A : Option Addr} {n c : Nat} {xs : List Int} (h : ReadsInt w .u8 A n xs) (at_ N : Nat) (h1 : at_ + N ≤ n) (hc : n ≤ c) : ReadsInt w .u8 (if c = at_ then A else A.map (·.add at_)) N ((xs.drop at_).take N) :=
  (h.drop_ at_ (by omega) hc).take_ N (by omega)

set_option maxHeartbeats 16000000 in
set_option maxRecDepth 100000 in
theorem chunks_calls (A0 : Option Addr) (c0 : Nat) (l0 : List Int) (A1 : Option Addr) (c1 : Nat) (l1 : List Int) (A2 : Option Addr) (c2 : Nat) (l2 : List Int) (w : World) (hr0 : ReadsInt w .u8 A0 l0.length l0) (hc0 : l0.length ≤ c0) (hr1 : ReadsInt w .i64 A1 l1.length l1) (hc1 : l1.length ≤ c1) (hr2 : ReadsInt w .u8 A2 l2.length l2) (hc2 : l2.length ≤ c2) (hG : Glob w) (hy1 : ∀ n ∈ l1, (Lit.int .i64 n).wf = true) :
    Calls Tryd.prog 3 #[.slice A0 l0.length c0, .slice A1 l1.length c1, .slice A2 l2.length c2] w fun e w' => e = .returned (.bool true) ∧ Below w.heap.size w w' := by
  have HG := Aside0.mk hG
  have R0 := Aside0.mk hr0
  have R1 := Aside0.mk hr1
  have R2 := Aside0.mk hr2
  have C0 := Aside0.mk hc0
  have C1 := Aside0.mk hc1
  have C2 := Aside0.mk hc2
  have Y1 := Aside0.mk hy1
  clear hG hr0 hr1 hr2 hc0 hc1 hc2 hy1
  by_cases hbad : 5000 < l0.length ∨ 200 < l1.length ∨ 100 < l2.length
  · have hs : (decide (5000 < l0.length) = true ∧ decide ((l0.length : Int) > 5000) = true) ∨ (decide (5000 < l0.length) = false ∧ decide ((l0.length : Int) > 5000) = false ∧ decide (200 < l1.length) = true ∧ decide ((l1.length : Int) > 200) = true) ∨ (decide (5000 < l0.length) = false ∧ decide ((l0.length : Int) > 5000) = false ∧ decide (200 < l1.length) = false ∧ decide ((l1.length : Int) > 200) = false ∧ decide (100 < l2.length) = true ∧ decide ((l2.length : Int) > 100) = true) := by
      simp only [decide_eq_true_eq, decide_eq_false_iff_not]
      omega
    clear hbad R0 R1 R2 C0 C1 C2 Y1
    rcases hs with ⟨d0, d1⟩ | ⟨d0, d1, d2, d3⟩ | ⟨d0, d1, d2, d3, d4, d5⟩ <;> (go_enter Tryd.func3, Tryd.ntmps3; go_wp2_with (first | (go_at_call 10; (with_reducible refine (known_calls _ HG.out).mono ?_); rintro e w1 ⟨rfl, hb⟩; have HB := Aside0.mk hb; clear hb)); go_ret; exact ⟨rfl, HB.out⟩)
  · have L := Aside0.mk (show l0.length ≤ 5000 ∧ l1.length ≤ 200 ∧ l2.length ≤ 100 by omega)
    have d0 : decide (5000 < l0.length) = false := decide_eq_false (by omega)
    have d1 : decide ((l0.length : Int) > 5000) = false := decide_eq_false (by omega)
    have d2 : decide (200 < l1.length) = false := decide_eq_false (by omega)
    have d3 : decide ((l1.length : Int) > 200) = false := decide_eq_false (by omega)
    have d4 : decide (100 < l2.length) = false := decide_eq_false (by omega)
    have d5 : decide ((l2.length : Int) > 100) = false := decide_eq_false (by omega)
    clear hbad
    go_enter Tryd.func3, Tryd.ntmps3
    go_wp2
    clear d0 d1 d2 d3 d4 d5
    go_loopg [7, 8, 9] l0.length (fun kq v7 v8 v9 w' => ∃ (at_ i : Nat) (ps : List (List Int)), v8 = .int .i64 (at_ : Int) ∧ v9 = .int .i64 (i : Int) ∧ Aside0 (kq + at_ = l0.length ∧ i ≤ at_ ∧ (∀ p ∈ ps, 1 ≤ p.length ∧ p.length ≤ 5000) ∧ ps.flatten = l0.take at_) ∧ Aside0 (w'.ownsRow w.heap.size 5 1 v7 (enc ps).length (nums .u8 (enc ps))) ∧ Aside0 (Below w.heap.size w w'))
    case atStart => exact ⟨0, 0, [], rfl, rfl, ⟨by omega, by omega, by simp, by simp⟩, ⟨own_nil _ _ _ _⟩, ⟨Below.refl _ _⟩⟩
    case round =>
      obtain ⟨at_, i, ps, rfl, rfl, HI, HO, HB⟩ := hrel
      by_cases hat : at_ < l0.length
      · have c1' : decide (at_ < l0.length) = true := decide_eq_true hat
        have c2' : decide ((at_ : Int) < (l0.length : Int)) = true := decide_eq_true (by omega)
        have HAT := Aside0.mk hat
        clear hat
        by_cases hi : i < l1.length
        · have c3' : decide (i < l1.length) = true := decide_eq_true hi
          have c4' : decide ((i : Int) < (l1.length : Int)) = true := decide_eq_true (by omega)
          obtain ⟨ad, hA1, hcells⟩ := R1.out.2.2 (by omega)
          have hcell := hcells i hi
          obtain ⟨y, hy⟩ : ∃ y, y = l1.getD i 0 := ⟨_, rfl⟩
          rw [← hy] at hcell
          have hpl := plain_addr (hcells 0 (by omega))
          have h0 : ad = ⟨ad.block, ad.off, none⟩ := by
            cases ad with
            | mk b o s =>
              cases s with
              | none => rfl
              | some x => simp [Addr.add] at hpl
          obtain ⟨b1, o1, hbo⟩ : ∃ b1 o1, ad = ⟨b1, o1, none⟩ := ⟨_, _, h0⟩
          subst hbo
          rw [add_plain2] at hcell
          have hcell2 : wr.cell? ⟨b1, o1 + i, none⟩ = some (.int .i64 y) := pw_cell_below HB.out hcell
          subst hA1
          have hc0' : ((i : Int) < (l1.length : Int)) = True := eq_true (Int.ofNat_lt.2 hi)
          obtain ⟨N, hN⟩ : ∃ N : Nat, N = (min (max y 1) ((l0.length : Int) - (at_ : Int))).toNat := ⟨_, rfl⟩
          have HN := Aside0.mk (show 1 ≤ N ∧ at_ + N ≤ l0.length by have := HAT.out; omega)
          have HMIN := Aside0.mk (show min (max y 1) ((l0.length : Int) - (at_ : Int)) = (N : Int) by have := HAT.out; omega)
          have hl5 : (l0.length : Int) ≤ 5000 := by have := L.out.1; omega
          have hlt : (at_ : Int) < l0.length := by have := HAT.out; omega
          clear hN hcells hcell hy hpl h0
          have hq : at_ + N ≤ c0 := by have := HN.out.2; have := C0.out; omega
          have hn0 : (0 : Int) ≤ N := by omega
          have hn1 : (at_ : Int) + N ≤ 5000 := by have := HN.out.2; have := L.out.1; omega
          have ha0 : (0 : Int) ≤ at_ := by omega
          have HADD := Aside0.mk (show wrap64 ((at_ : Int) + (N : Int)) = (at_ : Int) + (N : Int) by unfold wrap64; omega)
          go_upto_region 11 with (fail)
          rw [HMIN.out]
          clear hi hcell2 hc0' c1' c2' c3' c4' hl5 hlt

          have HSR := Aside0.mk (show ReadsInt wr .u8 (if c0 = at_ then A0 else A0.map (·.add at_)) N ((l0.drop at_).take N) from sub_row (R0.out.below HB.out) at_ N HN.out.2 C0.out)
          have HOd := Aside0.mk (show (wr.drew).ownsRow w.heap.size 5 1 u7 (enc ps).length (nums .u8 (enc ps)) from HO.out)
          have HBd := Aside0.mk (below_drew1 HB.out)
          have HSd := Aside0.mk (show ReadsInt (wr.drew) .u8 (if c0 = at_ then A0 else A0.map (·.add at_)) N ((l0.drop at_).take N) from HSR.out)
          have HLE := Aside0.mk (show (enc ps).length ≤ 45000 by have h1 := enc_len ps fun p hp => (HI.out.2.2.1 p hp).1; have h2 : ps.flatten.length ≤ 5000 := (by rw [HI.out.2.2.2, List.length_take]; have := L.out.1; omega); omega)
          clear HO HB HSR
          refine start_ (n := 14) (S := fun _ => True) (ds := []) #[false, false, false, false, false, false, false, false, false, false, false, false, false, false] (by kernel_rfl) rfl rfl trivial (fun hHeld => ?_)
          obtain ⟨wd, hwd⟩ : ∃ wd, wd = wr.drew := ⟨_, rfl⟩
          rw [← hwd] at HOd HBd HSd ⊢
          clear hwd hHeld
          have hHeld : True := trivial
          refine pure_ (i := 0) (N := some 50) (v := ?_) (a' := ?_) #[true, false, false, false, false, false, false, false, false, false, false, false, false, false] rfl rfl (by kernel_rfl) (fun _ _ _ h => h) (Or.inl ⟨by rfl, ?_⟩) ?_ ?_
          rotate_left
          · intro w'
            go_simp
            with_reducible rfl
          rotate_left
          · simp only [Act.put, List.setIfInBounds_toArray, List.set_cons_zero, List.set_cons_succ, i64_w, i32_w]
            rfl
          refine pure_ (i := 1) (N := some 51) (v := ?_) (a' := ?_) #[true, true, false, false, false, false, false, false, false, false, false, false, false, false] rfl rfl (by kernel_rfl) (fun _ _ _ h => h) (Or.inl ⟨by rfl, ?_⟩) ?_ ?_
          rotate_left
          · intro w'
            go_simp
            with_reducible rfl
          rotate_left
          · simp only [Act.put, List.setIfInBounds_toArray, List.set_cons_zero, List.set_cons_succ, i64_w, i32_w]
            rfl
          refine pure_ (i := 5) (N := some 55) (v := ?_) (a' := ?_) #[true, true, false, false, false, true, false, false, false, false, false, false, false, false] rfl rfl (by kernel_rfl) (fun _ _ _ h => h) (Or.inl ⟨by rfl, ?_⟩) ?_ ?_
          rotate_left
          · intro w'
            go_simp
            with_reducible rfl
          rotate_left
          · simp only [Act.put, List.setIfInBounds_toArray, List.set_cons_zero, List.set_cons_succ, i64_w, i32_w]
            rfl
          refine pure_ (i := 6) (N := some 56) (v := ?_) (a' := ?_) #[true, true, false, false, false, true, true, false, false, false, false, false, false, false] rfl rfl (by kernel_rfl) (fun _ _ _ h => h) (Or.inl ⟨by rfl, ?_⟩) ?_ ?_
          rotate_left
          · intro w'
            go_simp
            with_reducible rfl
          rotate_left
          · simp only [Act.put, List.setIfInBounds_toArray, List.set_cons_zero, List.set_cons_succ, i64_w, i32_w]
            rfl
          refine pure_ (i := 7) (N := some 57) (v := ?_) (a' := ?_) #[true, true, false, false, false, true, true, true, false, false, false, false, false, false] rfl rfl (by kernel_rfl) (fun _ _ _ h => h) (Or.inl ⟨by rfl, ?_⟩) ?_ ?_
          rotate_left
          · intro w'
            go_simp
            with_reducible rfl
          rotate_left
          · simp only [Act.put, List.setIfInBounds_toArray, List.set_cons_zero, List.set_cons_succ, i64_w, i32_w]
            rfl
          refine pure_ (i := 8) (N := some 58) (v := ?_) (a' := ?_) #[true, true, false, false, false, true, true, true, true, false, false, false, false, false] rfl rfl (by kernel_rfl) (fun _ _ _ h => h) (Or.inl ⟨by rfl, ?_⟩) ?_ ?_
          rotate_left
          · intro w'
            go_simp
            with_reducible rfl
          rotate_left
          · simp only [Act.put, List.setIfInBounds_toArray, List.set_cons_zero, List.set_cons_succ, i64_w, i32_w]
            rfl
          refine pure_ (i := 9) (N := some 59) (v := ?_) (a' := ?_) #[true, true, false, false, false, true, true, true, true, true, false, false, false, false] rfl rfl (by kernel_rfl) (fun _ _ _ h => h) (Or.inl ⟨by rfl, ?_⟩) ?_ ?_
          rotate_left
          · intro w'
            go_simp
            with_reducible rfl
          rotate_left
          · simp only [Act.put, List.setIfInBounds_toArray, List.set_cons_zero, List.set_cons_succ, i64_w, i32_w]
            rfl
          rw [HADD.out]
          refine pure_ (i := 10) (N := some 60) (v := ?_) (a' := ?_) #[true, true, false, false, false, true, true, true, true, true, true, false, false, false] rfl rfl (by kernel_rfl) (fun _ _ _ h => h) (Or.inl ⟨by rfl, ?_⟩) ?_ ?_
          rotate_left
          · intro w'
            go_simp
            rw [if_pos (show (0 : Int) ≤ (at_ : Int) + (N : Int) ∧ (at_ : Int) + (N : Int) ≤ (c0 : Int) from ⟨by omega, by omega⟩), if_pos (show at_ ≤ ((at_ : Int) + (N : Int)).toNat by omega), show ((at_ : Int) + (N : Int)).toNat - at_ = N by omega]
            all_goals with_reducible rfl
          rotate_left
          · simp only [Act.put, List.setIfInBounds_toArray, List.set_cons_zero, List.set_cons_succ, i64_w, i32_w]
            rfl
          obtain ⟨X, hX⟩ : ∃ X, X = (if c0 = at_ then A0 else A0.map (·.add at_)) := ⟨_, rfl⟩
          rw [← hX] at HSd ⊢
          have HX := Aside0.mk hX
          clear hq hX
          refine one_ (i := 2) (N := some 52) #[true, true, true, false, false, true, true, true, true, true, true, false, false, false] rfl rfl (by kernel_rfl) (by decide) (fun K hK => ?_)
          refine goes_ Tryd.func11 (by kernel_rfl) rfl #[.int .i64 (N : Int)] (by rfl) rfl rfl (by simp [Act.eval]) ?_
          refine (hex_calls N _ HN.out.1 (by have := HN.out.2; have := L.out.1; omega)).mono ?_
          rintro e w_ ⟨rfl, rfl⟩
          refine ⟨_, rfl, ?_⟩
          refine hK.out _ _ trivial (fun _ => ?_)
          clear hK K
          refine norm_ (a' := ?_) ?_ ?_
          rotate_left
          · show Act.put _ (some 52) _ = _
            simp only [Act.put, List.setIfInBounds_toArray, List.set_cons_zero, List.set_cons_succ, i64_w, i32_w]
            rfl
          refine one_ (i := 3) (N := some 53) #[true, true, true, true, false, true, true, true, true, true, true, false, false, false] rfl rfl (by kernel_rfl) (by decide) (fun K hK => ?_)
          refine step_str w.heap.size (by rfl) (.tmp 50) (.tmp 52) 22 9 5 rfl Tryd.underlying22 Tryd.underlying9 info5 u7 (enc ps) (strOfNums (hexL N)) rfl rfl HOd.out HBd.out.size (by have h1 := HLE.out; have h2 := hexF_len 4 N; have h3 := HN.out.2; have h4 := L.out.1; simp only [List.length_append, List.length_take, List.length_drop, DecX.str_size, hexL, size_mk_, List.size_toArray, List.length_cons, List.length_nil]; omega) ?_
          intro z1 y1 ho hg
          have HO1 := Aside0.mk (show y1.ownsRow w.heap.size 5 1 z1 (enc ps ++ hexL N).length (nums .u8 (enc ps ++ hexL N)) from by have h := ho; rw [bytes_hex] at h; exact h)
          have HB1 := Aside0.mk (below_grown HBd.out hg (own_base HOd.out))
          have HS1 := Aside0.mk (show ReadsInt y1 .u8 X N ((l0.drop at_).take N) by rw [HX.out]; exact sub_row (R0.out.below HB1.out) at_ N HN.out.2 C0.out)
          clear ho hg
          refine hK.out _ _ trivial (fun _ => ?_)
          clear hK K
          refine norm_ (a' := ?_) ?_ ?_
          rotate_left
          · show Act.put _ (some 53) _ = _
            simp only [Act.put, List.setIfInBounds_toArray, List.set_cons_zero, List.set_cons_succ, i64_w, i32_w]
            rfl
          refine one_ (i := 4) (N := some 54) #[true, true, true, true, true, true, true, true, true, true, true, false, false, false] rfl rfl (by kernel_rfl) (by decide) (fun K hK => ?_)
          refine step_str w.heap.size (by rfl) (.tmp 53) (.const (.string ⟨#[13, 10]⟩)) 22 9 5 rfl Tryd.underlying22 Tryd.underlying9 info5 z1 (enc ps ++ hexL N) ⟨#[13, 10]⟩ rfl rfl HO1.out HB1.out.size (by have h1 := HLE.out; have h2 := hexF_len 4 N; have h3 := HN.out.2; have h4 := L.out.1; simp only [List.length_append, List.length_take, List.length_drop, DecX.str_size, hexL, size_mk_, List.size_toArray, List.length_cons, List.length_nil]; omega) ?_
          intro z2 y2 ho hg
          have HO2 := Aside0.mk (show y2.ownsRow w.heap.size 5 1 z2 ((enc ps ++ hexL N) ++ [13, 10]).length (nums .u8 ((enc ps ++ hexL N) ++ [13, 10])) from ho)
          have HB2 := Aside0.mk (below_grown HB1.out hg (own_base HO1.out))
          have HS2 := Aside0.mk (show ReadsInt y2 .u8 X N ((l0.drop at_).take N) by rw [HX.out]; exact sub_row (R0.out.below HB2.out) at_ N HN.out.2 C0.out)
          clear ho hg
          refine hK.out _ _ trivial (fun _ => ?_)
          clear hK K
          refine norm_ (a' := ?_) ?_ ?_
          rotate_left
          · show Act.put _ (some 54) _ = _
            simp only [Act.put, List.setIfInBounds_toArray, List.set_cons_zero, List.set_cons_succ, i64_w, i32_w]
            rfl
          refine one_ (i := 11) (N := some 61) #[true, true, true, true, true, true, true, true, true, true, true, true, false, false] rfl rfl (by kernel_rfl) (by decide) (fun K hK => ?_)
          refine step_row w.heap.size (by rfl) (.tmp 54) (.tmp 60) 22 5 rfl Tryd.underlying22 info5 z2 ((enc ps ++ hexL N) ++ [13, 10]) ((l0.drop at_).take N) X N (c0 - at_) rfl rfl HO2.out HS2.out HB2.out.size (by have h1 := HLE.out; have h2 := hexF_len 4 N; have h3 := HN.out.2; have h4 := L.out.1; simp only [List.length_append, List.length_take, List.length_drop, DecX.str_size, hexL, size_mk_, List.size_toArray, List.length_cons, List.length_nil]; omega) ?_
          intro z3 y3 ho hg
          have HO3 := Aside0.mk (show y3.ownsRow w.heap.size 5 1 z3 (((enc ps ++ hexL N) ++ [13, 10]) ++ (l0.drop at_).take N).length (nums .u8 (((enc ps ++ hexL N) ++ [13, 10]) ++ (l0.drop at_).take N)) from ho)
          have HB3 := Aside0.mk (below_grown HB2.out hg (own_base HO2.out))
          clear ho hg
          refine hK.out _ _ trivial (fun _ => ?_)
          clear hK K
          refine norm_ (a' := ?_) ?_ ?_
          rotate_left
          · show Act.put _ (some 61) _ = _
            simp only [Act.put, List.setIfInBounds_toArray, List.set_cons_zero, List.set_cons_succ, i64_w, i32_w]
            rfl
          refine one_ (i := 12) (N := some 62) #[true, true, true, true, true, true, true, true, true, true, true, true, true, false] rfl rfl (by kernel_rfl) (by decide) (fun K hK => ?_)
          refine step_str w.heap.size (by rfl) (.tmp 61) (.const (.string ⟨#[13, 10]⟩)) 22 9 5 rfl Tryd.underlying22 Tryd.underlying9 info5 z3 (((enc ps ++ hexL N) ++ [13, 10]) ++ (l0.drop at_).take N) ⟨#[13, 10]⟩ rfl rfl HO3.out HB3.out.size (by have h1 := HLE.out; have h2 := hexF_len 4 N; have h3 := HN.out.2; have h4 := L.out.1; simp only [List.length_append, List.length_take, List.length_drop, DecX.str_size, hexL, size_mk_, List.size_toArray, List.length_cons, List.length_nil]; omega) ?_
          intro z4 y4 ho hg
          have HO4 := Aside0.mk (show y4.ownsRow w.heap.size 5 1 z4 ((((enc ps ++ hexL N) ++ [13, 10]) ++ (l0.drop at_).take N) ++ [13, 10]).length (nums .u8 ((((enc ps ++ hexL N) ++ [13, 10]) ++ (l0.drop at_).take N) ++ [13, 10])) from ho)
          have HB4 := Aside0.mk (below_grown HB3.out hg (own_base HO3.out))
          clear ho hg
          refine hK.out _ _ trivial (fun _ => ?_)
          clear hK K
          refine norm_ (a' := ?_) ?_ ?_
          rotate_left
          · show Act.put _ (some 62) _ = _
            simp only [Act.put, List.setIfInBounds_toArray, List.set_cons_zero, List.set_cons_succ, i64_w, i32_w]
            rfl
          refine pure_ (i := 13) (N := some 7) (v := ?_) (a' := ?_) #[true, true, true, true, true, true, true, true, true, true, true, true, true, true] rfl rfl (by kernel_rfl) (fun _ _ _ h => h) (Or.inl ⟨by rfl, ?_⟩) ?_ ?_
          rotate_left
          · intro w'
            go_simp
            with_reducible rfl
          rotate_left
          · simp only [Act.put, List.setIfInBounds_toArray, List.set_cons_zero, List.set_cons_succ, i64_w, i32_w]
            rfl
          refine done_ (by kernel_rfl) ?_
          have HE := Aside0.mk (show y4.ownsRow w.heap.size 5 1 z4 (enc (ps ++ [(l0.drop at_).take N])).length (nums .u8 (enc (ps ++ [(l0.drop at_).take N]))) by rw [piece_eq ps l0 at_ N HN.out.2]; exact HO4.out)
          have hinc : wrap64 ((i : Int) + 1) = ((i + 1 : Nat) : Int) := wrap64_next i (by have := HI.out.2.1; have := HAT.out; have := L.out.1; omega)
          go_wp2
          go_roundg (gk - N)
          case measure => have := HI.out.1; have := HAT.out; have := HN.out.1; omega
          case rel => exact ⟨at_ + N, i + 1, ps ++ [(l0.drop at_).take N], by first | rfl | (congr 1; omega), by first | rfl | (congr 1; omega) | rw [hinc], ⟨by have := HI.out.1; have := HN.out.2; omega, by have := HI.out.2.1; have := HN.out.1; omega, piece_all ps l0 at_ N HN.out L.out.1 HI.out.2.2.1, piece_flat ps l0 at_ N HN.out.2 HI.out.2.2.2⟩, HE, HB4⟩
        · have c3' : decide (i < l1.length) = false := decide_eq_false hi
          have c4' : decide ((i : Int) < (l1.length : Int)) = false := decide_eq_false (by omega)
          clear hi
          obtain ⟨N, hN⟩ : ∃ N : Nat, N = l0.length - at_ := ⟨_, rfl⟩
          have HN := Aside0.mk (show 1 ≤ N ∧ at_ + N ≤ l0.length by have := HAT.out; omega)
          have HSUB := Aside0.mk (show (l0.length : Int) - (at_ : Int) = (N : Int) by have := HAT.out; omega)
          have hl5 : (l0.length : Int) ≤ 5000 := by have := L.out.1; omega
          have hlt : (at_ : Int) < l0.length := by have := HAT.out; omega
          clear hN
          have hq : at_ + N ≤ c0 := by have := HN.out.2; have := C0.out; omega
          have hn0 : (0 : Int) ≤ N := by omega
          have hn1 : (at_ : Int) + N ≤ 5000 := by have := HN.out.2; have := L.out.1; omega
          have ha0 : (0 : Int) ≤ at_ := by omega
          have HADD := Aside0.mk (show wrap64 ((at_ : Int) + (N : Int)) = (at_ : Int) + (N : Int) by unfold wrap64; omega)
          go_upto_region 11 with (fail)
          rw [HSUB.out]
          clear c1' c2' c3' c4' hl5 hlt

          have HSR := Aside0.mk (show ReadsInt wr .u8 (if c0 = at_ then A0 else A0.map (·.add at_)) N ((l0.drop at_).take N) from sub_row (R0.out.below HB.out) at_ N HN.out.2 C0.out)
          have HOd := Aside0.mk (show (wr.drew).ownsRow w.heap.size 5 1 u7 (enc ps).length (nums .u8 (enc ps)) from HO.out)
          have HBd := Aside0.mk (below_drew1 HB.out)
          have HSd := Aside0.mk (show ReadsInt (wr.drew) .u8 (if c0 = at_ then A0 else A0.map (·.add at_)) N ((l0.drop at_).take N) from HSR.out)
          have HLE := Aside0.mk (show (enc ps).length ≤ 45000 by have h1 := enc_len ps fun p hp => (HI.out.2.2.1 p hp).1; have h2 : ps.flatten.length ≤ 5000 := (by rw [HI.out.2.2.2, List.length_take]; have := L.out.1; omega); omega)
          clear HO HB HSR
          refine start_ (n := 14) (S := fun _ => True) (ds := []) #[false, false, false, false, false, false, false, false, false, false, false, false, false, false] (by kernel_rfl) rfl rfl trivial (fun hHeld => ?_)
          obtain ⟨wd, hwd⟩ : ∃ wd, wd = wr.drew := ⟨_, rfl⟩
          rw [← hwd] at HOd HBd HSd ⊢
          clear hwd hHeld
          have hHeld : True := trivial
          refine pure_ (i := 0) (N := some 50) (v := ?_) (a' := ?_) #[true, false, false, false, false, false, false, false, false, false, false, false, false, false] rfl rfl (by kernel_rfl) (fun _ _ _ h => h) (Or.inl ⟨by rfl, ?_⟩) ?_ ?_
          rotate_left
          · intro w'
            go_simp
            with_reducible rfl
          rotate_left
          · simp only [Act.put, List.setIfInBounds_toArray, List.set_cons_zero, List.set_cons_succ, i64_w, i32_w]
            rfl
          refine pure_ (i := 1) (N := some 51) (v := ?_) (a' := ?_) #[true, true, false, false, false, false, false, false, false, false, false, false, false, false] rfl rfl (by kernel_rfl) (fun _ _ _ h => h) (Or.inl ⟨by rfl, ?_⟩) ?_ ?_
          rotate_left
          · intro w'
            go_simp
            with_reducible rfl
          rotate_left
          · simp only [Act.put, List.setIfInBounds_toArray, List.set_cons_zero, List.set_cons_succ, i64_w, i32_w]
            rfl
          refine pure_ (i := 5) (N := some 55) (v := ?_) (a' := ?_) #[true, true, false, false, false, true, false, false, false, false, false, false, false, false] rfl rfl (by kernel_rfl) (fun _ _ _ h => h) (Or.inl ⟨by rfl, ?_⟩) ?_ ?_
          rotate_left
          · intro w'
            go_simp
            with_reducible rfl
          rotate_left
          · simp only [Act.put, List.setIfInBounds_toArray, List.set_cons_zero, List.set_cons_succ, i64_w, i32_w]
            rfl
          refine pure_ (i := 6) (N := some 56) (v := ?_) (a' := ?_) #[true, true, false, false, false, true, true, false, false, false, false, false, false, false] rfl rfl (by kernel_rfl) (fun _ _ _ h => h) (Or.inl ⟨by rfl, ?_⟩) ?_ ?_
          rotate_left
          · intro w'
            go_simp
            with_reducible rfl
          rotate_left
          · simp only [Act.put, List.setIfInBounds_toArray, List.set_cons_zero, List.set_cons_succ, i64_w, i32_w]
            rfl
          refine pure_ (i := 7) (N := some 57) (v := ?_) (a' := ?_) #[true, true, false, false, false, true, true, true, false, false, false, false, false, false] rfl rfl (by kernel_rfl) (fun _ _ _ h => h) (Or.inl ⟨by rfl, ?_⟩) ?_ ?_
          rotate_left
          · intro w'
            go_simp
            with_reducible rfl
          rotate_left
          · simp only [Act.put, List.setIfInBounds_toArray, List.set_cons_zero, List.set_cons_succ, i64_w, i32_w]
            rfl
          refine pure_ (i := 8) (N := some 58) (v := ?_) (a' := ?_) #[true, true, false, false, false, true, true, true, true, false, false, false, false, false] rfl rfl (by kernel_rfl) (fun _ _ _ h => h) (Or.inl ⟨by rfl, ?_⟩) ?_ ?_
          rotate_left
          · intro w'
            go_simp
            with_reducible rfl
          rotate_left
          · simp only [Act.put, List.setIfInBounds_toArray, List.set_cons_zero, List.set_cons_succ, i64_w, i32_w]
            rfl
          refine pure_ (i := 9) (N := some 59) (v := ?_) (a' := ?_) #[true, true, false, false, false, true, true, true, true, true, false, false, false, false] rfl rfl (by kernel_rfl) (fun _ _ _ h => h) (Or.inl ⟨by rfl, ?_⟩) ?_ ?_
          rotate_left
          · intro w'
            go_simp
            with_reducible rfl
          rotate_left
          · simp only [Act.put, List.setIfInBounds_toArray, List.set_cons_zero, List.set_cons_succ, i64_w, i32_w]
            rfl
          rw [HADD.out]
          refine pure_ (i := 10) (N := some 60) (v := ?_) (a' := ?_) #[true, true, false, false, false, true, true, true, true, true, true, false, false, false] rfl rfl (by kernel_rfl) (fun _ _ _ h => h) (Or.inl ⟨by rfl, ?_⟩) ?_ ?_
          rotate_left
          · intro w'
            go_simp
            rw [if_pos (show (0 : Int) ≤ (at_ : Int) + (N : Int) ∧ (at_ : Int) + (N : Int) ≤ (c0 : Int) from ⟨by omega, by omega⟩), if_pos (show at_ ≤ ((at_ : Int) + (N : Int)).toNat by omega), show ((at_ : Int) + (N : Int)).toNat - at_ = N by omega]
            all_goals with_reducible rfl
          rotate_left
          · simp only [Act.put, List.setIfInBounds_toArray, List.set_cons_zero, List.set_cons_succ, i64_w, i32_w]
            rfl
          obtain ⟨X, hX⟩ : ∃ X, X = (if c0 = at_ then A0 else A0.map (·.add at_)) := ⟨_, rfl⟩
          rw [← hX] at HSd ⊢
          have HX := Aside0.mk hX
          clear hq hX
          refine one_ (i := 2) (N := some 52) #[true, true, true, false, false, true, true, true, true, true, true, false, false, false] rfl rfl (by kernel_rfl) (by decide) (fun K hK => ?_)
          refine goes_ Tryd.func11 (by kernel_rfl) rfl #[.int .i64 (N : Int)] (by rfl) rfl rfl (by simp [Act.eval]) ?_
          refine (hex_calls N _ HN.out.1 (by have := HN.out.2; have := L.out.1; omega)).mono ?_
          rintro e w_ ⟨rfl, rfl⟩
          refine ⟨_, rfl, ?_⟩
          refine hK.out _ _ trivial (fun _ => ?_)
          clear hK K
          refine norm_ (a' := ?_) ?_ ?_
          rotate_left
          · show Act.put _ (some 52) _ = _
            simp only [Act.put, List.setIfInBounds_toArray, List.set_cons_zero, List.set_cons_succ, i64_w, i32_w]
            rfl
          refine one_ (i := 3) (N := some 53) #[true, true, true, true, false, true, true, true, true, true, true, false, false, false] rfl rfl (by kernel_rfl) (by decide) (fun K hK => ?_)
          refine step_str w.heap.size (by rfl) (.tmp 50) (.tmp 52) 22 9 5 rfl Tryd.underlying22 Tryd.underlying9 info5 u7 (enc ps) (strOfNums (hexL N)) rfl rfl HOd.out HBd.out.size (by have h1 := HLE.out; have h2 := hexF_len 4 N; have h3 := HN.out.2; have h4 := L.out.1; simp only [List.length_append, List.length_take, List.length_drop, DecX.str_size, hexL, size_mk_, List.size_toArray, List.length_cons, List.length_nil]; omega) ?_
          intro z1 y1 ho hg
          have HO1 := Aside0.mk (show y1.ownsRow w.heap.size 5 1 z1 (enc ps ++ hexL N).length (nums .u8 (enc ps ++ hexL N)) from by have h := ho; rw [bytes_hex] at h; exact h)
          have HB1 := Aside0.mk (below_grown HBd.out hg (own_base HOd.out))
          have HS1 := Aside0.mk (show ReadsInt y1 .u8 X N ((l0.drop at_).take N) by rw [HX.out]; exact sub_row (R0.out.below HB1.out) at_ N HN.out.2 C0.out)
          clear ho hg
          refine hK.out _ _ trivial (fun _ => ?_)
          clear hK K
          refine norm_ (a' := ?_) ?_ ?_
          rotate_left
          · show Act.put _ (some 53) _ = _
            simp only [Act.put, List.setIfInBounds_toArray, List.set_cons_zero, List.set_cons_succ, i64_w, i32_w]
            rfl
          refine one_ (i := 4) (N := some 54) #[true, true, true, true, true, true, true, true, true, true, true, false, false, false] rfl rfl (by kernel_rfl) (by decide) (fun K hK => ?_)
          refine step_str w.heap.size (by rfl) (.tmp 53) (.const (.string ⟨#[13, 10]⟩)) 22 9 5 rfl Tryd.underlying22 Tryd.underlying9 info5 z1 (enc ps ++ hexL N) ⟨#[13, 10]⟩ rfl rfl HO1.out HB1.out.size (by have h1 := HLE.out; have h2 := hexF_len 4 N; have h3 := HN.out.2; have h4 := L.out.1; simp only [List.length_append, List.length_take, List.length_drop, DecX.str_size, hexL, size_mk_, List.size_toArray, List.length_cons, List.length_nil]; omega) ?_
          intro z2 y2 ho hg
          have HO2 := Aside0.mk (show y2.ownsRow w.heap.size 5 1 z2 ((enc ps ++ hexL N) ++ [13, 10]).length (nums .u8 ((enc ps ++ hexL N) ++ [13, 10])) from ho)
          have HB2 := Aside0.mk (below_grown HB1.out hg (own_base HO1.out))
          have HS2 := Aside0.mk (show ReadsInt y2 .u8 X N ((l0.drop at_).take N) by rw [HX.out]; exact sub_row (R0.out.below HB2.out) at_ N HN.out.2 C0.out)
          clear ho hg
          refine hK.out _ _ trivial (fun _ => ?_)
          clear hK K
          refine norm_ (a' := ?_) ?_ ?_
          rotate_left
          · show Act.put _ (some 54) _ = _
            simp only [Act.put, List.setIfInBounds_toArray, List.set_cons_zero, List.set_cons_succ, i64_w, i32_w]
            rfl
          refine one_ (i := 11) (N := some 61) #[true, true, true, true, true, true, true, true, true, true, true, true, false, false] rfl rfl (by kernel_rfl) (by decide) (fun K hK => ?_)
          refine step_row w.heap.size (by rfl) (.tmp 54) (.tmp 60) 22 5 rfl Tryd.underlying22 info5 z2 ((enc ps ++ hexL N) ++ [13, 10]) ((l0.drop at_).take N) X N (c0 - at_) rfl rfl HO2.out HS2.out HB2.out.size (by have h1 := HLE.out; have h2 := hexF_len 4 N; have h3 := HN.out.2; have h4 := L.out.1; simp only [List.length_append, List.length_take, List.length_drop, DecX.str_size, hexL, size_mk_, List.size_toArray, List.length_cons, List.length_nil]; omega) ?_
          intro z3 y3 ho hg
          have HO3 := Aside0.mk (show y3.ownsRow w.heap.size 5 1 z3 (((enc ps ++ hexL N) ++ [13, 10]) ++ (l0.drop at_).take N).length (nums .u8 (((enc ps ++ hexL N) ++ [13, 10]) ++ (l0.drop at_).take N)) from ho)
          have HB3 := Aside0.mk (below_grown HB2.out hg (own_base HO2.out))
          clear ho hg
          refine hK.out _ _ trivial (fun _ => ?_)
          clear hK K
          refine norm_ (a' := ?_) ?_ ?_
          rotate_left
          · show Act.put _ (some 61) _ = _
            simp only [Act.put, List.setIfInBounds_toArray, List.set_cons_zero, List.set_cons_succ, i64_w, i32_w]
            rfl
          refine one_ (i := 12) (N := some 62) #[true, true, true, true, true, true, true, true, true, true, true, true, true, false] rfl rfl (by kernel_rfl) (by decide) (fun K hK => ?_)
          refine step_str w.heap.size (by rfl) (.tmp 61) (.const (.string ⟨#[13, 10]⟩)) 22 9 5 rfl Tryd.underlying22 Tryd.underlying9 info5 z3 (((enc ps ++ hexL N) ++ [13, 10]) ++ (l0.drop at_).take N) ⟨#[13, 10]⟩ rfl rfl HO3.out HB3.out.size (by have h1 := HLE.out; have h2 := hexF_len 4 N; have h3 := HN.out.2; have h4 := L.out.1; simp only [List.length_append, List.length_take, List.length_drop, DecX.str_size, hexL, size_mk_, List.size_toArray, List.length_cons, List.length_nil]; omega) ?_
          intro z4 y4 ho hg
          have HO4 := Aside0.mk (show y4.ownsRow w.heap.size 5 1 z4 ((((enc ps ++ hexL N) ++ [13, 10]) ++ (l0.drop at_).take N) ++ [13, 10]).length (nums .u8 ((((enc ps ++ hexL N) ++ [13, 10]) ++ (l0.drop at_).take N) ++ [13, 10])) from ho)
          have HB4 := Aside0.mk (below_grown HB3.out hg (own_base HO3.out))
          clear ho hg
          refine hK.out _ _ trivial (fun _ => ?_)
          clear hK K
          refine norm_ (a' := ?_) ?_ ?_
          rotate_left
          · show Act.put _ (some 62) _ = _
            simp only [Act.put, List.setIfInBounds_toArray, List.set_cons_zero, List.set_cons_succ, i64_w, i32_w]
            rfl
          refine pure_ (i := 13) (N := some 7) (v := ?_) (a' := ?_) #[true, true, true, true, true, true, true, true, true, true, true, true, true, true] rfl rfl (by kernel_rfl) (fun _ _ _ h => h) (Or.inl ⟨by rfl, ?_⟩) ?_ ?_
          rotate_left
          · intro w'
            go_simp
            with_reducible rfl
          rotate_left
          · simp only [Act.put, List.setIfInBounds_toArray, List.set_cons_zero, List.set_cons_succ, i64_w, i32_w]
            rfl
          refine done_ (by kernel_rfl) ?_
          have HE := Aside0.mk (show y4.ownsRow w.heap.size 5 1 z4 (enc (ps ++ [(l0.drop at_).take N])).length (nums .u8 (enc (ps ++ [(l0.drop at_).take N]))) by rw [piece_eq ps l0 at_ N HN.out.2]; exact HO4.out)
          have hinc : wrap64 ((i : Int) + 1) = ((i + 1 : Nat) : Int) := wrap64_next i (by have := HI.out.2.1; have := HAT.out; have := L.out.1; omega)
          go_wp2
          go_roundg (gk - N)
          case measure => have := HI.out.1; have := HAT.out; have := HN.out.1; omega
          case rel => exact ⟨at_ + N, i + 1, ps ++ [(l0.drop at_).take N], by first | rfl | (congr 1; omega), by first | rfl | (congr 1; omega) | rw [hinc], ⟨by have := HI.out.1; have := HN.out.2; omega, by have := HI.out.2.1; have := HN.out.1; omega, piece_all ps l0 at_ N HN.out L.out.1 HI.out.2.2.1, piece_flat ps l0 at_ N HN.out.2 HI.out.2.2.2⟩, HE, HB4⟩
      · have hae : at_ = l0.length := by have := HI.out.1; omega
        have c1' : decide (at_ < l0.length) = false := decide_eq_false hat
        have c2' : decide ((at_ : Int) < (l0.length : Int)) = false := decide_eq_false (by omega)
        have hfl : ps.flatten = l0 := by have h := HI.out.2.2.2; rw [hae, List.take_length] at h; exact h
        obtain ⟨r1, hp1, hd1, hb1⟩ := d_law ps l2 HI.out.2.2.1 (by rw [hfl]; exact L.out.1)
        rw [hfl] at hp1 hb1
        obtain ⟨r2, hp2, hd2, hb2⟩ := o_law l0 l2 L.out.1
        have HLE := Aside0.mk (show (enc ps ++ [48, 13, 10, 13, 10]).length ≤ 45005 by have h1 := enc_len ps fun p hp => (HI.out.2.2.1 p hp).1; rw [hfl] at h1; have h2 := L.out.1; rw [List.length_append]; simp only [List.length_cons, List.length_nil]; omega)
        have HLE2 := Aside0.mk (show (enc ps).length ≤ 45000 by have h1 := enc_len ps fun p hp => (HI.out.2.2.1 p hp).1; rw [hfl] at h1; have h2 := L.out.1; omega)
        have P1 := Aside0.mk hp1
        have P2 := Aside0.mk hp2
        have DN1 := Aside0.mk hd1
        have DN2 := Aside0.mk hd2
        have BD1 := Aside0.mk hb1
        have BD2 := Aside0.mk hb2
        clear hat hae hfl hp1 hp2 hd1 hd2 hb1 hb2 HI
        go_upto_region 14 with (first | (at_builtin; refine print_append_str (w0 := w) w.heap.size rfl (.tmp 66) (.const (.string ⟨#[48, 13, 10, 13, 10]⟩)) 22 9 5 rfl Tryd.underlying22 Tryd.underlying9 info5 u7 (enc ps) ⟨#[48, 13, 10, 13, 10]⟩ rfl rfl HO.out HB.out HB.out.size (by have := HLE2.out; have h5 : (⟨#[48, 13, 10, 13, 10]⟩ : ByteArray).size = 5 := rfl; omega) ?_; intro v1 w1 ho hb _; have HO1 := Aside0.mk (show w1.ownsRow w.heap.size 5 1 v1 (enc ps ++ [48, 13, 10, 13, 10]).length (nums .u8 (enc ps ++ [48, 13, 10, 13, 10])) from ho); have HB1 := Aside0.mk hb; clear ho hb))
        clear c1' c2' HO HB HLE2
        generalize enc ps ++ [48, 13, 10, 13, 10] = outL at HO1 P1 HLE
        obtain ⟨AO, cO, hv, _, hRO, _⟩ := own_read HO1.out
        subst hv
        have RO := Aside0.mk hRO
        have HB := HB1
        clear hRO HB1 HO1
        have t1 : True := trivial
        go_upto_region 15 with (first | (go_at_call 13; (with_reducible refine (chunked_calls _).mono ?_); rintro e w2 ⟨rfl, hb⟩; have n1 := Aside0.mk (RO.out.below hb); have n2 := Aside0.mk (below_step HB.out hb); clear RO HB hb; have RO := n1; have HB := n2; clear n1 n2) | (go_at_call 12; (with_reducible refine (new_calls 200 (-1) (l0.length : Int) true false _).mono ?_); rintro e w3 ⟨g1, rfl, h1, hg1, hb⟩; have D1 := Aside0.mk h1; have G1 := Aside0.mk (Nat.le_trans HB.out.size hg1); have n1 := Aside0.mk (RO.out.below hb); have n2 := Aside0.mk (below_step HB.out hb); clear RO HB hb h1 hg1; have RO := n1; have HB := n2; clear n1 n2))
        go_upto_region 16 with (first | (go_at_call 12; (with_reducible refine (new_calls 0 (l0.length : Int) (l0.length : Int) false false _).mono ?_); rintro e w4 ⟨g2, rfl, h2, hg2, hb⟩; have D2 := Aside0.mk h2; have N12 := Aside0.mk (show g1 < g2 by have := D1.out.lt; omega); have G2 := Aside0.mk (Nat.le_trans HB.out.size hg2); have n1 := Aside0.mk (RO.out.below hb); have n2 := Aside0.mk (below_step HB.out hb); have n3 := Aside0.mk (D1.out.below hb); clear RO HB D1 hb h2 hg2; have RO := n1; have HB := n2; have D1 := n3; clear n1 n2 n3))
        have HZ := Aside0.mk (show 0 < w.heap.size by obtain ⟨m, hm⟩ := HG.out; exact World.block_lt_of_cell? w ⟨0, 0, none⟩ hm)
        have T := Aside0.mk (show Two w.heap.size w4 (fun k => k = g1) (fun k => k = g2) g1 g2 (newD true (-1) (max (l0.length : Int) 0)) (newD false (l0.length : Int) (max (l0.length : Int) 0)) from ⟨D1.out, D2.out, fun i h => by have := N12.out; omega, fun i h => by rw [h]; exact G1.out, fun i h => by rw [h]; exact G2.out, fun i h => by rw [h]; exact D1.out.lt, fun i h => by rw [h]; exact D2.out.lt, HB.out.size⟩)
        clear D1 D2 N12 G1 G2 t1
        have u1_ : True := trivial
        go_upto_region 18 with (first | ((with_reducible refine gate_dst (N := 87) rfl ?_); refine list_of_step (by rfl) (step_row w4.heap.size (by rfl) (.const (.slice none 0 0)) (.tmp 86) 22 5 rfl Tryd.underlying22 info5 (.slice none 0 0) [] outL AO outL.length cO rfl rfl (own_nil _ _ _ _) RO.out (Nat.le_refl _) (by have h1 := HLE.out; have h2 := L.out.1; have h3 := L.out.2.2; (try simp only [List.length_append, List.length_nil]); omega) ?_); intro x1 y1 ho hg; have HX1 := Aside0.mk (show y1.ownsRow w4.heap.size 5 1 x1 outL.length (nums .u8 outL) from by simpa using ho); have HY1 := Aside0.mk ((Below.refl w4.heap.size w4).grown hg (Nat.le_refl _) (fun k hk => by simp [Value.ownBlock] at hk)); clear ho hg) | ((with_reducible refine gate_dst (N := 89) rfl ?_); refine list_of_step (by rfl) (step_row w4.heap.size (by rfl) (.tmp 87) (.tmp 88) 22 5 rfl Tryd.underlying22 info5 x1 outL l2 A2 l2.length c2 rfl rfl HX1.out (R2.out.below (below_step HB.out HY1.out)) HY1.out.size (by have h1 := HLE.out; have h2 := L.out.1; have h3 := L.out.2.2; (try simp only [List.length_append, List.length_nil]); omega) ?_); intro x2 y2 ho hg; obtain ⟨AX, cX, hx2, hcx, _, hCx⟩ := own_read ho; have HAX := Aside0.mk (fun (ad : Addr) (e : AX = some ad) => (show w4.heap.size ≤ ad.block from own_base ho ad.block (by rw [hx2, e]; rfl))); subst hx2; have HCX := Aside0.mk hcx; have HRX := Aside0.mk hCx; have HY2 := Aside0.mk (HY1.out.grown hg HY1.out.size (own_base HX1.out)); clear ho hg hcx hCx HX1 HY1) | (go_at_call 14; have t_ := u1_; (with_reducible refine (Two.pushes (T.out.below HY2.out) HZ.out (HG.out.below (below_step HB.out HY2.out)) w4 HY2.out.size T.out.l1 (by have h1 := HLE.out; have h2 := L.out.2.2; rw [List.length_append]; simp only [newD, D0, if_true, List.length_nil]; omega) HCX.out HRX.out HAX.out P1.out (by rw [List.length_append])).mono ?_); rintro e w5 ⟨rfl, ⟨F1, hT⟩, hb⟩; have n1 := Aside0.mk hT; have n2 := Aside0.mk ((below_step HB.out HY2.out).trans hb); clear T HB hT hb HY2 HCX HRX HAX RO u1_ t_; have T := n1; have HB := n2; clear n1 n2; have u2_ : True := trivial) | ((with_reducible refine gate_dst (N := 98) rfl ?_); refine list_of_step (by rfl) (step_row w5.heap.size (by rfl) (.const (.slice none 0 0)) (.tmp 97) 22 5 rfl Tryd.underlying22 info5 (.slice none 0 0) [] l0 A0 l0.length c0 rfl rfl (own_nil _ _ _ _) (R0.out.below HB.out) (Nat.le_refl _) (by have h1 := HLE.out; have h2 := L.out.1; have h3 := L.out.2.2; (try simp only [List.length_append, List.length_nil]); omega) ?_); intro x3 y3 ho hg; have HX1 := Aside0.mk (show y3.ownsRow w5.heap.size 5 1 x3 l0.length (nums .u8 l0) from by simpa using ho); have HY1 := Aside0.mk ((Below.refl w5.heap.size w5).grown hg (Nat.le_refl _) (fun k hk => by simp [Value.ownBlock] at hk)); clear ho hg) | ((with_reducible refine gate_dst (N := 100) rfl ?_); refine list_of_step (by rfl) (step_row w5.heap.size (by rfl) (.tmp 98) (.tmp 99) 22 5 rfl Tryd.underlying22 info5 x3 l0 l2 A2 l2.length c2 rfl rfl HX1.out (R2.out.below (below_step HB.out HY1.out)) HY1.out.size (by have h1 := HLE.out; have h2 := L.out.1; have h3 := L.out.2.2; (try simp only [List.length_append, List.length_nil]); omega) ?_); intro x4 y4 ho hg; obtain ⟨AY, cY, hx2, hcx, _, hCx⟩ := own_read ho; have HAX := Aside0.mk (fun (ad : Addr) (e : AY = some ad) => (show w5.heap.size ≤ ad.block from own_base ho ad.block (by rw [hx2, e]; rfl))); subst hx2; have HCX := Aside0.mk hcx; have HRX := Aside0.mk hCx; have HY2 := Aside0.mk (HY1.out.grown hg HY1.out.size (own_base HX1.out)); clear ho hg hcx hCx HX1 HY1) | (go_at_call 14; have t_ := u2_; (with_reducible refine (Two.pushes (T.out.below HY2.out).swap HZ.out (HG.out.below (below_step HB.out HY2.out)) w5 HY2.out.size T.out.l2 (by have h1 := L.out.1; have h2 := L.out.2.2; have h3 := new_small false (l0.length : Int) (max (l0.length : Int) 0); rw [List.length_append]; omega) HCX.out HRX.out HAX.out P2.out (by rw [List.length_append])).mono ?_); rintro e w6 ⟨rfl, ⟨F2, hT⟩, hb⟩; have n1 := Aside0.mk hT.swap; have n2 := Aside0.mk ((below_step HB.out HY2.out).trans hb); clear T HB hT hb HY2 HCX HRX HAX u2_ t_; have T := n1; have HB := n2; clear n1 n2))
        clear HLE P1 P2
        have hbb := beq_bytes (strOfNums l0)
        have hbn : (strOfNums l0 != strOfNums l0) = false := by simp only [bne, hbb]; rfl
        have HBB := Aside0.mk hbb
        clear hbb hbn
        refine start_ (n := 24) (S := fun w' => Below w6.heap.size w6 w') (ds := []) #[false, false, false, false, false, false, false, false, false, false, false, false, false, false, false, false, false, false, false, false, false, false, false, false] (by kernel_rfl) rfl rfl (below_drew1 (Below.refl _ _)) (fun hHeld => ?_)
        have hS0 := Aside0.mk (show Below w6.heap.size w6 (w6.drew) from below_drew1 (Below.refl _ _))
        refine pure_ (i := 0) (N := some 106) (v := ?_) (a' := ?_) #[true, false, false, false, false, false, false, false, false, false, false, false, false, false, false, false, false, false, false, false, false, false, false, false] rfl rfl (by kernel_rfl) (fun _ _ _ h => h) (Or.inl ⟨by rfl, ?_⟩) ?_ ?_
        rotate_left
        · intro w'
          go_simp
          with_reducible rfl
        rotate_left
        · simp only [Act.put, List.setIfInBounds_toArray, List.set_cons_zero, List.set_cons_succ, i64_w, i32_w]
          rfl
        refine one_ (i := 1) (N := some 107) #[true, true, false, false, false, false, false, false, false, false, false, false, false, false, false, false, false, false, false, false, false, false, false, false] rfl rfl (by kernel_rfl) (by decide) (fun K hK => ?_)
        refine goes_ Tryd.func15 (by kernel_rfl) rfl #[.pointer (some ⟨g1, 0, none⟩)] (by rfl) rfl rfl (by simp [Act.eval]) ?_
        refine (done_calls (T.out.D1.below (hS0.out))).mono ?_
        rintro e w_ ⟨he, rfl⟩
        rw [DN1.out] at he
        subst he
        refine ⟨_, rfl, ?_⟩
        refine hK.out _ _ hS0.out (fun hHeld => ?_)
        clear hK K
        refine norm_ (a' := ?_) ?_ ?_
        rotate_left
        · show Act.put _ (some 107) _ = _
          simp only [Act.put, List.setIfInBounds_toArray, List.set_cons_zero, List.set_cons_succ, i64_w, i32_w]
          rfl
        refine pure_ (i := 2) (N := some 108) (v := ?_) (a' := ?_) #[true, true, true, false, false, false, false, false, false, false, false, false, false, false, false, false, false, false, false, false, false, false, false, false] rfl rfl (by kernel_rfl) (fun _ _ _ h => h) (Or.inl ⟨by rfl, ?_⟩) ?_ ?_
        rotate_left
        · intro w'
          go_simp
          with_reducible rfl
        rotate_left
        · simp only [Act.put, List.setIfInBounds_toArray, List.set_cons_zero, List.set_cons_succ, i64_w, i32_w]
          rfl
        refine pure_ (i := 3) (N := some 109) (v := ?_) (a' := ?_) #[true, true, true, true, false, false, false, false, false, false, false, false, false, false, false, false, false, false, false, false, false, false, false, false] rfl rfl (by kernel_rfl) (fun _ _ _ h => h) (Or.inl ⟨by rfl, ?_⟩) ?_ ?_
        rotate_left
        · intro w'
          go_simp
          with_reducible rfl
        rotate_left
        · simp only [Act.put, List.setIfInBounds_toArray, List.set_cons_zero, List.set_cons_succ, i64_w, i32_w]
          rfl
        refine pure_ (i := 4) (N := some 110) (v := ?_) (a' := ?_) #[true, true, true, true, true, false, false, false, false, false, false, false, false, false, false, false, false, false, false, false, false, false, false, false] rfl rfl (by kernel_rfl) (fun _ _ _ h => h) (Or.inl ⟨by rfl, ?_⟩) ?_ ?_
        rotate_left
        · intro w'
          go_simp
          with_reducible rfl
        rotate_left
        · simp only [Act.put, List.setIfInBounds_toArray, List.set_cons_zero, List.set_cons_succ, i64_w, i32_w]
          rfl
        refine one_ (i := 5) (N := some 111) #[true, true, true, true, true, true, false, false, false, false, false, false, false, false, false, false, false, false, false, false, false, false, false, false] rfl rfl (by kernel_rfl) (by decide) (fun K hK => ?_)
        refine goes_ Tryd.func15 (by kernel_rfl) rfl #[.pointer (some ⟨g2, 0, none⟩)] (by rfl) rfl rfl (by simp [Act.eval]) ?_
        refine (done_calls (T.out.D2.below (hS0.out))).mono ?_
        rintro e w_ ⟨he, rfl⟩
        rw [DN2.out] at he
        subst he
        refine ⟨_, rfl, ?_⟩
        refine hK.out _ _ hS0.out (fun hHeld => ?_)
        clear hK K
        refine norm_ (a' := ?_) ?_ ?_
        rotate_left
        · show Act.put _ (some 111) _ = _
          simp only [Act.put, List.setIfInBounds_toArray, List.set_cons_zero, List.set_cons_succ, i64_w, i32_w]
          rfl
        refine pure_ (i := 6) (N := some 112) (v := ?_) (a' := ?_) #[true, true, true, true, true, true, true, false, false, false, false, false, false, false, false, false, false, false, false, false, false, false, false, false] rfl rfl (by kernel_rfl) (fun _ _ _ h => h) (Or.inl ⟨by rfl, ?_⟩) ?_ ?_
        rotate_left
        · intro w'
          go_simp
          with_reducible rfl
        rotate_left
        · simp only [Act.put, List.setIfInBounds_toArray, List.set_cons_zero, List.set_cons_succ, i64_w, i32_w]
          rfl
        refine pure_ (i := 7) (N := some 113) (v := ?_) (a' := ?_) #[true, true, true, true, true, true, true, true, false, false, false, false, false, false, false, false, false, false, false, false, false, false, false, false] rfl rfl (by kernel_rfl) (fun _ _ _ h => h) (Or.inl ⟨by rfl, ?_⟩) ?_ ?_
        rotate_left
        · intro w'
          go_simp
          with_reducible rfl
        rotate_left
        · simp only [Act.put, List.setIfInBounds_toArray, List.set_cons_zero, List.set_cons_succ, i64_w, i32_w]
          rfl
        refine pure_ (i := 8) (N := some 114) (v := ?_) (a' := ?_) #[true, true, true, true, true, true, true, true, true, false, false, false, false, false, false, false, false, false, false, false, false, false, false, false] rfl rfl (by kernel_rfl) (fun _ _ _ h => h) (Or.inl ⟨by rfl, ?_⟩) ?_ ?_
        rotate_left
        · intro w'
          go_simp
          with_reducible rfl
        rotate_left
        · simp only [Act.put, List.setIfInBounds_toArray, List.set_cons_zero, List.set_cons_succ, i64_w, i32_w]
          rfl
        refine pure_ (i := 9) (N := some 115) (v := ?_) (a' := ?_) #[true, true, true, true, true, true, true, true, true, true, false, false, false, false, false, false, false, false, false, false, false, false, false, false] rfl rfl (by kernel_rfl) (fun _ _ _ h => h) (Or.inl ⟨by rfl, ?_⟩) ?_ ?_
        rotate_left
        · intro w'
          go_simp
          with_reducible rfl
        rotate_left
        · simp only [Act.put, List.setIfInBounds_toArray, List.set_cons_zero, List.set_cons_succ, i64_w, i32_w]
          rfl
        refine pure_ (i := 12) (N := some 118) (v := ?_) (a' := ?_) #[true, true, true, true, true, true, true, true, true, true, false, false, true, false, false, false, false, false, false, false, false, false, false, false] rfl rfl (by kernel_rfl) (fun _ _ _ h => h) (Or.inl ⟨by rfl, ?_⟩) ?_ ?_
        rotate_left
        · intro w'
          go_simp
          with_reducible rfl
        rotate_left
        · simp only [Act.put, List.setIfInBounds_toArray, List.set_cons_zero, List.set_cons_succ, i64_w, i32_w]
          rfl
        refine take_ (i := 13) (N := some 119) (v := ?_) (a' := ?_) #[true, true, true, true, true, true, true, true, true, true, false, false, true, true, false, false, false, false, false, false, false, false, false, false] rfl rfl (by kernel_rfl) (fun _ _ _ h => h) (Or.inl ⟨by rfl, ?_⟩) hHeld ?_ ?_
        rotate_left
        · intro w' hS'
          have hcv := C_string0 (P := Tryd.prog) (c := c0) Tryd.underlying22 Tryd.underlying5 Tryd.underlying9 (show Kd.C (Kd.int .u8) w' A0 l0.length l0 from Kd.C_of_reads (d := (0 : Int)) (h1 := fun _ => rfl) ((R0.out.below HB.out).below hS'))
          go_simp
          with_reducible rfl
        rotate_left
        · simp only [Act.put, List.setIfInBounds_toArray, List.set_cons_zero, List.set_cons_succ, i64_w, i32_w]
          rfl
        refine one_ (i := 10) (N := some 116) #[true, true, true, true, true, true, true, true, true, true, true, false, true, true, false, false, false, false, false, false, false, false, false, false] rfl rfl (by kernel_rfl) (by decide) (fun K hK => ?_)
        refine goes_ Tryd.func16 (by kernel_rfl) rfl #[.pointer (some ⟨g1, 0, none⟩)] (by rfl) rfl rfl (by simp [Act.eval]) ?_
        refine (body_calls (T.out.D1.below (hS0.out)) (by rw [BD1.out]; have := L.out.1; omega)).mono ?_
        rintro e bk1 ⟨v_, rfl, ho, _, hb⟩
        rw [BD1.out] at ho
        obtain ⟨Ak1, ck1, hv, _, _, hCk1⟩ := own_read (show bk1.ownsRow 0 5 1 v_ l0.length (nums .u8 l0) from ho)
        subst hv
        refine ⟨_, rfl, ?_⟩
        have HCk1 := Aside0.mk hCk1
        have hS1 := Aside0.mk (below_step hS0.out hb)
        clear ho hb hCk1 hS0
        have hS0 := hS1
        clear hS1
        refine hK.out _ _ hS0.out (fun hHeld => ?_)
        clear hK K
        refine norm_ (a' := ?_) ?_ ?_
        rotate_left
        · show Act.put _ (some 116) _ = _
          simp only [Act.put, List.setIfInBounds_toArray, List.set_cons_zero, List.set_cons_succ, i64_w, i32_w]
          rfl
        refine one_ (i := 11) (N := some 117) #[true, true, true, true, true, true, true, true, true, true, true, true, true, true, false, false, false, false, false, false, false, false, false, false] rfl rfl (by kernel_rfl) (by decide) (fun K hK => ?_)
        have hcv := C_string0 (P := Tryd.prog) (c := ck1) Tryd.underlying22 Tryd.underlying5 Tryd.underlying9 (show Kd.C (Kd.int .u8) bk1 Ak1 l0.length l0 from HCk1.out)
        refine value_ (w1 := bk1) (v := .string (strOfNums l0)) (by rfl) rfl (by go_simp) ?_
        refine hK.out _ _ hS0.out (fun hHeld => ?_)
        clear hK K hcv HCk1
        refine norm_ (a' := ?_) ?_ ?_
        rotate_left
        · show Act.put _ (some 117) _ = _
          simp only [Act.put, List.setIfInBounds_toArray, List.set_cons_zero, List.set_cons_succ, i64_w, i32_w]
          rfl
        have hbb := HBB.out
        have hbn : (strOfNums l0 != strOfNums l0) = false := by simp only [bne, hbb]; rfl
        refine pure_ (i := 14) (N := some 120) (v := ?_) (a' := ?_) #[true, true, true, true, true, true, true, true, true, true, true, true, true, true, true, false, false, false, false, false, false, false, false, false] rfl rfl (by kernel_rfl) (fun _ _ _ h => h) (Or.inl ⟨by rfl, ?_⟩) ?_ ?_
        rotate_left
        · intro w'
          go_simp
          with_reducible rfl
        rotate_left
        · simp only [Act.put, List.setIfInBounds_toArray, List.set_cons_zero, List.set_cons_succ, i64_w, i32_w]
          rfl
        clear hbb hbn
        refine pure_ (i := 15) (N := some 121) (v := ?_) (a' := ?_) #[true, true, true, true, true, true, true, true, true, true, true, true, true, true, true, true, false, false, false, false, false, false, false, false] rfl rfl (by kernel_rfl) (fun _ _ _ h => h) (Or.inl ⟨by rfl, ?_⟩) ?_ ?_
        rotate_left
        · intro w'
          go_simp
          with_reducible rfl
        rotate_left
        · simp only [Act.put, List.setIfInBounds_toArray, List.set_cons_zero, List.set_cons_succ, i64_w, i32_w]
          rfl
        refine pure_ (i := 16) (N := some 122) (v := ?_) (a' := ?_) #[true, true, true, true, true, true, true, true, true, true, true, true, true, true, true, true, true, false, false, false, false, false, false, false] rfl rfl (by kernel_rfl) (fun _ _ _ h => h) (Or.inl ⟨by rfl, ?_⟩) ?_ ?_
        rotate_left
        · intro w'
          go_simp
          with_reducible rfl
        rotate_left
        · simp only [Act.put, List.setIfInBounds_toArray, List.set_cons_zero, List.set_cons_succ, i64_w, i32_w]
          rfl
        refine pure_ (i := 17) (N := some 123) (v := ?_) (a' := ?_) #[true, true, true, true, true, true, true, true, true, true, true, true, true, true, true, true, true, true, false, false, false, false, false, false] rfl rfl (by kernel_rfl) (fun _ _ _ h => h) (Or.inl ⟨by rfl, ?_⟩) ?_ ?_
        rotate_left
        · intro w'
          go_simp
          with_reducible rfl
        rotate_left
        · simp only [Act.put, List.setIfInBounds_toArray, List.set_cons_zero, List.set_cons_succ, i64_w, i32_w]
          rfl
        refine pure_ (i := 20) (N := some 126) (v := ?_) (a' := ?_) #[true, true, true, true, true, true, true, true, true, true, true, true, true, true, true, true, true, true, false, false, true, false, false, false] rfl rfl (by kernel_rfl) (fun _ _ _ h => h) (Or.inl ⟨by rfl, ?_⟩) ?_ ?_
        rotate_left
        · intro w'
          go_simp
          with_reducible rfl
        rotate_left
        · simp only [Act.put, List.setIfInBounds_toArray, List.set_cons_zero, List.set_cons_succ, i64_w, i32_w]
          rfl
        refine take_ (i := 21) (N := some 127) (v := ?_) (a' := ?_) #[true, true, true, true, true, true, true, true, true, true, true, true, true, true, true, true, true, true, false, false, true, true, false, false] rfl rfl (by kernel_rfl) (fun _ _ _ h => h) (Or.inl ⟨by rfl, ?_⟩) hHeld ?_ ?_
        rotate_left
        · intro w' hS'
          have hcv := C_string0 (P := Tryd.prog) (c := c0) Tryd.underlying22 Tryd.underlying5 Tryd.underlying9 (show Kd.C (Kd.int .u8) w' A0 l0.length l0 from Kd.C_of_reads (d := (0 : Int)) (h1 := fun _ => rfl) ((R0.out.below HB.out).below hS'))
          go_simp
          with_reducible rfl
        rotate_left
        · simp only [Act.put, List.setIfInBounds_toArray, List.set_cons_zero, List.set_cons_succ, i64_w, i32_w]
          rfl
        refine one_ (i := 18) (N := some 124) #[true, true, true, true, true, true, true, true, true, true, true, true, true, true, true, true, true, true, true, false, true, true, false, false] rfl rfl (by kernel_rfl) (by decide) (fun K hK => ?_)
        refine goes_ Tryd.func16 (by kernel_rfl) rfl #[.pointer (some ⟨g2, 0, none⟩)] (by rfl) rfl rfl (by simp [Act.eval]) ?_
        refine (body_calls (T.out.D2.below (hS0.out)) (by rw [BD2.out]; have := L.out.1; omega)).mono ?_
        rintro e bk2 ⟨v_, rfl, ho, _, hb⟩
        rw [BD2.out] at ho
        obtain ⟨Ak2, ck2, hv, _, _, hCk2⟩ := own_read (show bk2.ownsRow 0 5 1 v_ l0.length (nums .u8 l0) from ho)
        subst hv
        refine ⟨_, rfl, ?_⟩
        have HCk2 := Aside0.mk hCk2
        have hS1 := Aside0.mk (below_step hS0.out hb)
        clear ho hb hCk2 hS0
        have hS0 := hS1
        clear hS1
        refine hK.out _ _ hS0.out (fun hHeld => ?_)
        clear hK K
        refine norm_ (a' := ?_) ?_ ?_
        rotate_left
        · show Act.put _ (some 124) _ = _
          simp only [Act.put, List.setIfInBounds_toArray, List.set_cons_zero, List.set_cons_succ, i64_w, i32_w]
          rfl
        refine one_ (i := 19) (N := some 125) #[true, true, true, true, true, true, true, true, true, true, true, true, true, true, true, true, true, true, true, true, true, true, false, false] rfl rfl (by kernel_rfl) (by decide) (fun K hK => ?_)
        have hcv := C_string0 (P := Tryd.prog) (c := ck2) Tryd.underlying22 Tryd.underlying5 Tryd.underlying9 (show Kd.C (Kd.int .u8) bk2 Ak2 l0.length l0 from HCk2.out)
        refine value_ (w1 := bk2) (v := .string (strOfNums l0)) (by rfl) rfl (by go_simp) ?_
        refine hK.out _ _ hS0.out (fun hHeld => ?_)
        clear hK K hcv HCk2
        refine norm_ (a' := ?_) ?_ ?_
        rotate_left
        · show Act.put _ (some 125) _ = _
          simp only [Act.put, List.setIfInBounds_toArray, List.set_cons_zero, List.set_cons_succ, i64_w, i32_w]
          rfl
        have hbb := HBB.out
        have hbn : (strOfNums l0 != strOfNums l0) = false := by simp only [bne, hbb]; rfl
        refine pure_ (i := 22) (N := some 128) (v := ?_) (a' := ?_) #[true, true, true, true, true, true, true, true, true, true, true, true, true, true, true, true, true, true, true, true, true, true, true, false] rfl rfl (by kernel_rfl) (fun _ _ _ h => h) (Or.inl ⟨by rfl, ?_⟩) ?_ ?_
        rotate_left
        · intro w'
          go_simp
          with_reducible rfl
        rotate_left
        · simp only [Act.put, List.setIfInBounds_toArray, List.set_cons_zero, List.set_cons_succ, i64_w, i32_w]
          rfl
        clear hbb hbn
        refine pure_ (i := 23) (N := some 129) (v := ?_) (a' := ?_) #[true, true, true, true, true, true, true, true, true, true, true, true, true, true, true, true, true, true, true, true, true, true, true, true] rfl rfl (by kernel_rfl) (fun _ _ _ h => h) (Or.inl ⟨by rfl, ?_⟩) ?_ ?_
        rotate_left
        · intro w'
          go_simp
          with_reducible rfl
        rotate_left
        · simp only [Act.put, List.setIfInBounds_toArray, List.set_cons_zero, List.set_cons_succ, i64_w, i32_w]
          rfl
        refine done_ (by kernel_rfl) ?_
        have n1 := Aside0.mk (T.out.below hS0.out)
        have n2 := Aside0.mk (below_step HB.out hS0.out)
        clear T HB hS0
        have T := n1
        have HB := n2
        clear n1 n2
        go_wp2_with (first | (go_at_call 16; (with_reducible refine (body_calls T.out.D1 (by rw [BD1.out]; have := L.out.1; omega)).mono ?_); rintro e x5 ⟨v_, rfl, ho, hfr, hb⟩; rw [BD1.out] at ho; obtain ⟨AX, cX, hv, _, _, _⟩ := own_read (show x5.ownsRow 0 5 1 v_ l0.length (nums .u8 l0) from ho); subst hv; have HOX := Aside0.mk (show x5.ownsRow 0 5 1 (.slice AX l0.length cX) l0.length (nums .u8 l0) from ho); have FX := Aside0.mk hfr; have HD := Aside0.mk (T.out.D1.below hb); have HBX := Aside0.mk (below_step HB.out hb); clear ho hfr hb))
        go_loopg [14] l0.length (fun kq v14 w' => ∃ (i : Nat) (zs : List Int), v14 = .int .i64 (i : Int) ∧ Aside0 (kq + i = l0.length ∧ zs.length = l0.length) ∧ Aside0 (w'.ownsRow 0 5 1 (.slice AX zs.length cX) zs.length (nums .u8 zs)) ∧ Aside0 (IsD w' F1 g1 r1) ∧ Aside0 (Below w.heap.size w w'))
        case atStart => exact ⟨0, l0, rfl, ⟨by omega, rfl⟩, HOX, HD, HBX⟩
        case round =>
          clear HOX HD HBX
          obtain ⟨ix, zs, rfl, HI, HO, HD, HBW⟩ := hrel
          by_cases hi : ix < l0.length
          · have c3' : decide (ix < l0.length) = true := decide_eq_true hi
            have c4' : decide ((ix : Int) < (l0.length : Int)) = true := decide_eq_true (by omega)
            have hc0' : ((ix : Int) < (l0.length : Int)) = True := eq_true (Int.ofNat_lt.2 hi)
            obtain ⟨gx, hgx⟩ : ∃ gx, AX = some ⟨gx, 0, none⟩ := by
              rcases HO.out.2 with ⟨_, h0⟩ | ⟨g, cap, cur, he, _⟩
              · have := HI.out.2; omega
              · injection he with he; exact ⟨g, he⟩
            subst hgx
            have hat := own_at HO.out (ix : Int) (by omega) (by have := HI.out.2; omega)
            rw [Int.toNat_natCast] at hat
            obtain ⟨x, hx⟩ : ∃ x, x = rd zs (ix : Int) := ⟨_, rfl⟩
            rw [← hx] at hat
            have hcell := hat.1
            have hfz := hat.2
            have hwi : wrap64 ((ix : Int) + 1) = ((ix + 1 : Nat) : Int) := wrap64_next ix (by have := L.out.1; omega)
            have HPUT := Aside0.mk (fun (u : Int) => (show (wr.setCell ⟨gx, ix, none⟩ (.int .u8 u)).ownsRow 0 5 1 (.slice (some ⟨gx, 0, none⟩) (zs.set ix u).length cX) (zs.set ix u).length (nums .u8 (zs.set ix u)) from by have h := own_put HO.out (ix : Int) u; rw [Int.toNat_natCast] at h; rwa [List.length_set] at h ⊢))
            have HGX := Aside0.mk (FX.out gx rfl)
            have HWI := Aside0.mk hwi
            have HI2 := Aside0.mk hi
            clear hat hx hwi hi
            go_wp2
            go_roundg (gk - 1)
            case measure => have := HI.out.1; have := HI2.out; omega
            case rel => exact ⟨ix + 1, _, by first | rfl | (congr 1; omega) | rw [HWI.out], ⟨by have := HI.out.1; have := HI2.out; omega, by rw [List.length_set]; exact HI.out.2⟩, ⟨HPUT.out _⟩, ⟨HD.out.keep ((Keep.refl (fun k => k = gx) wr).set (g := gx) rfl ix _) fun k _ hk e => by have h1 := T.out.l1 k hk; have h2 := HGX.out; omega⟩, ⟨HBW.out.setCell (by have := HB.out.size; have := HGX.out; show w.heap.size ≤ gx; omega) _⟩⟩
          · have c3' : decide (ix < l0.length) = false := decide_eq_false hi
            have c4' : decide ((ix : Int) < (l0.length : Int)) = false := decide_eq_false (by omega)
            clear hi
            have HB0 := HB
            clear HB HI HO
            have HB := HBW
            clear HBW
            go_upto_region 25 with (fail)

            refine start_ (n := 10) (S := fun w' => Below wr.heap.size wr w') (ds := []) #[false, false, false, false, false, false, false, false, false, false] (by kernel_rfl) rfl rfl (below_drew1 (Below.refl _ _)) (fun hHeld => ?_)
            have hS0 := Aside0.mk (show Below wr.heap.size wr (wr.drew) from below_drew1 (Below.refl _ _))
            refine pure_ (i := 0) (N := some 144) (v := ?_) (a' := ?_) #[true, false, false, false, false, false, false, false, false, false] rfl rfl (by kernel_rfl) (fun _ _ _ h => h) (Or.inl ⟨by rfl, ?_⟩) ?_ ?_
            rotate_left
            · intro w'
              go_simp
              with_reducible rfl
            rotate_left
            · simp only [Act.put, List.setIfInBounds_toArray, List.set_cons_zero, List.set_cons_succ, i64_w, i32_w]
              rfl
            refine pure_ (i := 3) (N := some 147) (v := ?_) (a' := ?_) #[true, false, false, true, false, false, false, false, false, false] rfl rfl (by kernel_rfl) (fun _ _ _ h => h) (Or.inl ⟨by rfl, ?_⟩) ?_ ?_
            rotate_left
            · intro w'
              go_simp
              with_reducible rfl
            rotate_left
            · simp only [Act.put, List.setIfInBounds_toArray, List.set_cons_zero, List.set_cons_succ, i64_w, i32_w]
              rfl
            refine take_ (i := 4) (N := some 148) (v := ?_) (a' := ?_) #[true, false, false, true, true, false, false, false, false, false] rfl rfl (by kernel_rfl) (fun _ _ _ h => h) (Or.inl ⟨by rfl, ?_⟩) hHeld ?_ ?_
            rotate_left
            · intro w' hS'
              have hcv := C_string0 (P := Tryd.prog) (c := c0) Tryd.underlying22 Tryd.underlying5 Tryd.underlying9 (show Kd.C (Kd.int .u8) w' A0 l0.length l0 from Kd.C_of_reads (d := (0 : Int)) (h1 := fun _ => rfl) ((R0.out.below HB.out).below hS'))
              go_simp
              with_reducible rfl
            rotate_left
            · simp only [Act.put, List.setIfInBounds_toArray, List.set_cons_zero, List.set_cons_succ, i64_w, i32_w]
              rfl
            refine one_ (i := 1) (N := some 145) #[true, true, false, true, true, false, false, false, false, false] rfl rfl (by kernel_rfl) (by decide) (fun K hK => ?_)
            refine goes_ Tryd.func16 (by kernel_rfl) rfl #[.pointer (some ⟨g1, 0, none⟩)] (by rfl) rfl rfl (by simp [Act.eval]) ?_
            refine (body_calls (HD.out.below (hS0.out)) (by rw [BD1.out]; have := L.out.1; omega)).mono ?_
            rintro e bk3 ⟨v_, rfl, ho, _, hb⟩
            rw [BD1.out] at ho
            obtain ⟨Ak3, ck3, hv, _, _, hCk3⟩ := own_read (show bk3.ownsRow 0 5 1 v_ l0.length (nums .u8 l0) from ho)
            subst hv
            refine ⟨_, rfl, ?_⟩
            have HCk3 := Aside0.mk hCk3
            have hS1 := Aside0.mk (below_step hS0.out hb)
            clear ho hb hCk3 hS0
            have hS0 := hS1
            clear hS1
            refine hK.out _ _ hS0.out (fun hHeld => ?_)
            clear hK K
            refine norm_ (a' := ?_) ?_ ?_
            rotate_left
            · show Act.put _ (some 145) _ = _
              simp only [Act.put, List.setIfInBounds_toArray, List.set_cons_zero, List.set_cons_succ, i64_w, i32_w]
              rfl
            refine one_ (i := 2) (N := some 146) #[true, true, true, true, true, false, false, false, false, false] rfl rfl (by kernel_rfl) (by decide) (fun K hK => ?_)
            have hcv := C_string0 (P := Tryd.prog) (c := ck3) Tryd.underlying22 Tryd.underlying5 Tryd.underlying9 (show Kd.C (Kd.int .u8) bk3 Ak3 l0.length l0 from HCk3.out)
            refine value_ (w1 := bk3) (v := .string (strOfNums l0)) (by rfl) rfl (by go_simp) ?_
            refine hK.out _ _ hS0.out (fun hHeld => ?_)
            clear hK K hcv HCk3
            refine norm_ (a' := ?_) ?_ ?_
            rotate_left
            · show Act.put _ (some 146) _ = _
              simp only [Act.put, List.setIfInBounds_toArray, List.set_cons_zero, List.set_cons_succ, i64_w, i32_w]
              rfl
            have hbb := HBB.out
            have hbn : (strOfNums l0 != strOfNums l0) = false := by simp only [bne, hbb]; rfl
            refine pure_ (i := 5) (N := some 149) (v := ?_) (a' := ?_) #[true, true, true, true, true, true, false, false, false, false] rfl rfl (by kernel_rfl) (fun _ _ _ h => h) (Or.inl ⟨by rfl, ?_⟩) ?_ ?_
            rotate_left
            · intro w'
              go_simp
              with_reducible rfl
            rotate_left
            · simp only [Act.put, List.setIfInBounds_toArray, List.set_cons_zero, List.set_cons_succ, i64_w, i32_w]
              rfl
            clear hbb hbn
            refine pure_ (i := 6) (N := some 150) (v := ?_) (a' := ?_) #[true, true, true, true, true, true, true, false, false, false] rfl rfl (by kernel_rfl) (fun _ _ _ h => h) (Or.inl ⟨by rfl, ?_⟩) ?_ ?_
            rotate_left
            · intro w'
              go_simp
              with_reducible rfl
            rotate_left
            · simp only [Act.put, List.setIfInBounds_toArray, List.set_cons_zero, List.set_cons_succ, i64_w, i32_w]
              rfl
            refine one_ (i := 7) (N := some 151) #[true, true, true, true, true, true, true, true, false, false] rfl rfl (by kernel_rfl) (by decide) (fun K hK => ?_)
            refine goes_ Tryd.func10 (by kernel_rfl) rfl #[] (by rfl) rfl rfl (by simp) ?_
            refine (known_calls _ (HG.out.below (below_step HB.out hS0.out))).mono ?_
            rintro e b9 ⟨rfl, hb⟩
            refine ⟨_, rfl, ?_⟩
            have hS1 := Aside0.mk (below_step hS0.out hb)
            clear hb hS0
            refine hK.out _ _ hS1.out (fun hHeld => ?_)
            clear hK K
            refine norm_ (a' := ?_) ?_ ?_
            rotate_left
            · show Act.put _ (some 151) _ = _
              simp only [Act.put, List.setIfInBounds_toArray, List.set_cons_zero, List.set_cons_succ, i64_w, i32_w]
              rfl
            refine pure_ (i := 8) (N := some 152) (v := ?_) (a' := ?_) #[true, true, true, true, true, true, true, true, true, false] rfl rfl (by kernel_rfl) (fun _ _ _ h => h) (Or.inl ⟨by rfl, ?_⟩) ?_ ?_
            rotate_left
            · intro w'
              go_simp
              with_reducible rfl
            rotate_left
            · simp only [Act.put, List.setIfInBounds_toArray, List.set_cons_zero, List.set_cons_succ, i64_w, i32_w]
              rfl
            refine pure_ (i := 9) (N := some 6) (v := ?_) (a' := ?_) #[true, true, true, true, true, true, true, true, true, true] rfl rfl (by kernel_rfl) (fun _ _ _ h => h) (Or.inl ⟨by rfl, ?_⟩) ?_ ?_
            rotate_left
            · intro w'
              go_simp
              with_reducible rfl
            rotate_left
            · simp only [Act.put, List.setIfInBounds_toArray, List.set_cons_zero, List.set_cons_succ, i64_w, i32_w]
              rfl
            refine done_ (by kernel_rfl) ?_
            go_wp2
            go_ret
            exact ⟨rfl, below_step HB.out hS1.out⟩
end Go.Proofs.YtfpcoanlkfgagaaDoor.DecC
