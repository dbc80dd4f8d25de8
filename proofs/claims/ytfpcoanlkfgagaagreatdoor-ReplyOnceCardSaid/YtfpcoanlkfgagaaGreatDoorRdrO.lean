/- The law ReplyOnce: its walk. -/
import Derived.Test.YtfpcoanlkfgagaaGreatDoorRdrU
import Derived.Test.YtfpcoanlkfgagaaGreatDoorRdrK
import Derived.Test.YtfpcoanlkfgagaaGreatDoorPAx3
import Derived.Laws.EntriesVeiled
import Derived.Below
import Derived.Deep.Draws
import Derived.Deep.AppendLies
import Derived.Maps.AppendAt
import Derived.OwnWalk
import Derived.Laws.BytesArg
import Derived.Laws.MakeOwn
import Derived.Laws.OwnMore
import Derived.Deep.OwnRows
import Derived.Tactics
import Derived.Lib.ConvBytes
import Derived.Laws.Slices
import Derived.WalkKit
import Derived.KernelRfl
import Derived.RowKit3
import Derived.Deep.LoopGhost
import Derived.Deep.QuietTactic
import Derived.BigQuiet
import Derived.WideLaws
import Derived.Deep.DeepCutAuto
import Derived.Deep.CutBlock
import Derived.Deep.RegionHeld3
import Derived.Laws.Rows
import Derived.Lib.AppendStr
import Derived.ArgAppend
import Derived.Laws.IdiomCopy
import Derived.OrdersHeld
import Derived.Laws.BitsLemmas
import Derived.RowKit
import Derived.WalkMore
import Derived.Test.YtfpcoanlkfgagaaGreatDoorWWords
import Derived.Test.YtfpcoanlkfgagaaGreatDoorWLast
import Derived.Test.YtfpcoanlkfgagaaGreatDoorWMore
import Derived.Test.YtfpcoanlkfgagaaGreatDoorWTab
namespace Go.Proofs.YtfpcoanlkfgagaaGreatDoor.RdrO
open Go.RowKit Go.Proofs.YtfpcoanlkfgagaaGreatDoorW.PrintWords Go.Proofs.YtfpcoanlkfgagaaGreatDoorW.PrintLast Go.Proofs.YtfpcoanlkfgagaaGreatDoor.Ext Go.Proofs.YtfpcoanlkfgagaaGreatDoor.Dec Go.Proofs.YtfpcoanlkfgagaaGreatDoor.DecW Go.Proofs.YtfpcoanlkfgagaaGreatDoor.DecA Go.Proofs.YtfpcoanlkfgagaaGreatDoor.DecB Go.Proofs.YtfpcoanlkfgagaaGreatDoor.DecN Go.Proofs.YtfpcoanlkfgagaaGreatDoor.DecS Go.Proofs.YtfpcoanlkfgagaaGreatDoor.DecR Go.Proofs.YtfpcoanlkfgagaaGreatDoor.DecP Go.Proofs.YtfpcoanlkfgagaaGreatDoor.DecQ Go.Proofs.YtfpcoanlkfgagaaGreatDoor.DecE Go.Proofs.YtfpcoanlkfgagaaGreatDoor.Is Go.Proofs.YtfpcoanlkfgagaaGreatDoor.Rdr Go.Proofs.YtfpcoanlkfgagaaGreatDoor.RdrP Go.Proofs.YtfpcoanlkfgagaaGreatDoor.RdrW Go.Proofs.YtfpcoanlkfgagaaGreatDoor.RdrQ Go.Proofs.YtfpcoanlkfgagaaGreatDoor.RdrY Go.Proofs.YtfpcoanlkfgagaaGreatDoor.RdrK Go.Proofs.YtfpcoanlkfgagaaGreatDoor.RdrL Go.Proofs.YtfpcoanlkfgagaaGreatDoor.RdrU
set_option linter.unusedVariables false
set_option linter.unusedSimpArgs false
/-- Two readers, apart from one another and from what lies below block B. -/
structure Two (B : Nat) (w : World) (F1 F2 : Nat → Prop) (g1 g2 : Nat) (r1 r2 : R) : Prop where
  D1 : IsR w F1 g1 r1
  D2 : IsR w F2 g2 r2
  s : ∀ i, F1 i → ¬ F2 i
  b1 : ∀ i, F1 i → B ≤ i
  b2 : ∀ i, F2 i → B ≤ i
  l1 : ∀ i, F1 i → i < w.heap.size
  l2 : ∀ i, F2 i → i < w.heap.size
  hB : B ≤ w.heap.size
section
variable {B : Nat} {w w' : World} {F1 F2 : Nat → Prop} {g1 g2 : Nat} {r1 r2 r : R}
theorem Two.swap (h : Two B w F1 F2 g1 g2 r1 r2) : Two B w F2 F1 g2 g1 r2 r1 := ⟨h.D2, h.D1, fun i a b => h.s i b a, h.b2, h.b1, h.l2, h.l1, h.hB⟩
theorem Two.below (h : Two B w F1 F2 g1 g2 r1 r2) (k : Below w.heap.size w w') : Two B w' F1 F2 g1 g2 r1 r2 :=
  ⟨h.D1.below k, h.D2.below k, h.s, h.b1, h.b2, fun i hi => Nat.lt_of_lt_of_le (h.l1 i hi) k.size, fun i hi => Nat.lt_of_lt_of_le (h.l2 i hi) k.size, Nat.le_trans h.hB k.size⟩
theorem Two.push (h : Two B w F1 F2 g1 g2 r1 r2) (p : RPushed w w' F1 g1 r) : (∃ F1', Two B w' F1' F2 g1 g2 r r2) ∧ Below B w w' := by
  obtain ⟨F', hR, hF', hK⟩ := p
  refine ⟨⟨fun i => F' i ∧ i < w'.heap.size, IsR.bound hR, h.D2.keep hK fun i _ hf h1 => h.s i h1 hf, ?_, ?_, h.b2, fun i hi => hi.2, fun i hi => Nat.lt_of_lt_of_le (h.l2 i hi) hK.size, Nat.le_trans h.hB hK.size⟩, hK.below h.b1 h.hB⟩
  · rintro i ⟨h1, _⟩ h2
    rcases hF' i h1 with h3 | h3
    · exact h.s i h3 h2
    · have := h.l2 i h2; omega
  · rintro i ⟨h1, _⟩
    rcases hF' i h1 with h3 | h3
    · exact h.b1 i h3
    · have := h.hB; omega
end
theorem pushR_at {P P' : List Int → Option Ans} {r : R} {bs : List Int} (h : P' (r.ahead ++ bs) = P (r.ahead ++ bs)) : pushR P' r bs = pushR P r bs := by unfold pushR; rw [h]
theorem push_two {B : Nat} {w : World} {F1 F2 : Nat → Prop} {g1 g2 n c : Nat} {r1 r2 r' : R} {A : Option Addr} {bs : List Int} (T : Two B w F1 F2 g1 g2 r1 r2) (hB0 : 0 < B) (hG : Glob w) (hA : ∀ ad, A = some ad → 0 < bs.length → ad.block < B) (hw : Byts (r1.ahead ++ bs)) (hz : sizeR r1 + bs.length ≤ 24000) (hn : n = bs.length) (hx : n ≤ c)
    (hr : Kd.C (Kd.int .u8) w A bs.length bs) (hp : pushR Pt r1 bs = some r') :
    Calls Tryz.prog 7 #[.pointer (some ⟨g1, 0, none⟩), .slice A n c] w fun x w' => x = .returned (.tuple #[]) ∧ (∃ F1', Two B w' F1' F2 g1 g2 r' r2) ∧ Below B w w' := by
  subst hn
  have hl : (r1.ahead ++ bs).length ≤ 100000000 := by
    have : r1.ahead.length ≤ sizeR r1 := by unfold sizeR; omega
    rw [List.length_append]; omega
  have hP : ∀ l t, (fun l => if l = r1.ahead ++ bs then Pt l else none) l = some t → ∃ k, PA.head_Parse.f k l = some t := by
    intro l t h
    simp only at h
    split at h
    · rename_i e
      subst e
      exact pt_prog hw hl h
    · cases h
  have hp2 : pushR (fun l => if l = r1.ahead ++ bs then Pt l else none) r1 bs = some r' := (pushR_at (if_pos rfl)).trans hp
  refine (pushR_calls hP T.D1 (fun h => by have := T.b1 0 h; omega) (fun ad e hl hf => by have h1 := T.b1 _ hf; have h2 := hA ad e hl; omega) hG (by omega) hx hr hp2).mono ?_
  rintro x w' ⟨hx, hpu⟩
  exact ⟨hx, T.push hpu⟩
theorem end_two {B : Nat} {w : World} {F1 F2 : Nat → Prop} {g1 g2 : Nat} {r1 r2 : R} (T : Two B w F1 F2 g1 g2 r1 r2) (hi : InvR r1) :
    Calls Tryz.prog 8 #[.pointer (some ⟨g1, 0, none⟩)] w fun x w' => x = .returned (.tuple #[]) ∧ (∃ F1', Two B w' F1' F2 g1 g2 (endR r1) r2) ∧ Below B w w' := by
  refine (endR_calls T.D1 fun h1 _ h2 => hi.wb h1 h2).mono ?_
  rintro x w' ⟨hx, hpu⟩
  exact ⟨hx, T.push hpu⟩
theorem reads_block {w : World} {A : Option Addr} {n : Nat} {xs : List Int} (h : ReadsInt w .u8 A n xs) (h0 : 0 < n) {ad : Addr} (ha : A = some ad) : ad.block < w.heap.size := by
  obtain ⟨a1, h1, h2⟩ := h.2.2 h0
  rw [ha] at h1
  injection h1 with h1
  subst h1
  have h3 := World.block_lt_of_cell? w _ (h2 0 h0)
  have h4 : (ad.add 0).block = ad.block := rfl
  rw [h4] at h3
  exact h3
theorem C_len {w : World} {A : Option Addr} {n : Nat} {xs : List Int} (h : ReadsInt w .u8 A n xs) (hn : n = xs.length) : Kd.C (Kd.int .u8) w A xs.length xs := by
  subst hn
  exact Kd.C_of_reads (d := (0 : Int)) (h1 := fun _ => rfl) h
theorem same_true (st : Int) (bl : List Int) (re : Bool) : PA.odometerref08_Same.f st bl re st bl re = some true := by
  unfold PA.odometerref08_Same.f
  rw [if_pos rfl, if_pos rfl, beq_self_eq_true]

set_option maxHeartbeats 16000000 in
set_option maxRecDepth 100000 in
theorem once_bad (most at_ also : Int) (A : Option Addr) (c : Nat) (l0 : List Int) (w : World) (hG : Glob w) (hb : 12000 < l0.length ∨ at_ < 0 ∨ (l0.length : Int) < at_ ∨ also < at_ ∨ (l0.length : Int) < also) :
    Calls Tryz.prog 3 #[.int .i64 most, .slice A l0.length c, .int .i64 at_, .int .i64 also] w fun e w' => e = .returned (.bool true) ∧ Below w.heap.size w w' := by
  have HG := Aside0.mk hG
  have hs : (decide (12000 < l0.length) = true ∧ decide ((l0.length : Int) > 12000) = true) ∨ (decide (12000 < l0.length) = false ∧ decide ((l0.length : Int) > 12000) = false ∧ decide (at_ < 0) = true) ∨ (decide (12000 < l0.length) = false ∧ decide ((l0.length : Int) > 12000) = false ∧ decide (at_ < 0) = false ∧ decide ((l0.length : Int) < at_) = true ∧ decide (at_ > (l0.length : Int)) = true) ∨ (decide (12000 < l0.length) = false ∧ decide ((l0.length : Int) > 12000) = false ∧ decide (at_ < 0) = false ∧ decide ((l0.length : Int) < at_) = false ∧ decide (at_ > (l0.length : Int)) = false ∧ decide (also < at_) = true) ∨ (decide (12000 < l0.length) = false ∧ decide ((l0.length : Int) > 12000) = false ∧ decide (at_ < 0) = false ∧ decide ((l0.length : Int) < at_) = false ∧ decide (at_ > (l0.length : Int)) = false ∧ decide (also < at_) = false ∧ decide ((l0.length : Int) < also) = true ∧ decide (also > (l0.length : Int)) = true) := by
    simp only [decide_eq_true_eq, decide_eq_false_iff_not]
    omega
  clear hG hb
  rcases hs with ⟨d0, d1⟩ | ⟨d0, d1, d2⟩ | ⟨d0, d1, d2, d3, d4⟩ | ⟨d0, d1, d2, d3, d4, d5⟩ | ⟨d0, d1, d2, d3, d4, d5, d6, d7⟩ <;> (go_enter Tryz.func3, Tryz.ntmps3; go_wp2_with (first | (go_at_call 5; (with_reducible refine (known_calls _ HG.out).mono ?_); rintro e w1 ⟨rfl, hb⟩; have HB := Aside0.mk hb; clear hb)); go_ret; exact ⟨rfl, HB.out⟩)

set_option maxHeartbeats 16000000 in
set_option maxRecDepth 100000 in
theorem once_good (most : Int) (a b : Nat) (A : Option Addr) (c : Nat) (l0 : List Int) (w : World) (hr : ReadsInt w .u8 A l0.length l0) (hc : l0.length ≤ c) (hw : Byts l0) (hG : Glob w) (hl : l0.length ≤ 12000) (hab : a ≤ b) (hb : b ≤ l0.length) :
    Calls Tryz.prog 3 #[.int .i64 most, .slice A l0.length c, .int .i64 (a : Int), .int .i64 (b : Int)] w fun e w' => e = .returned (.bool true) ∧ Below w.heap.size w w' := by
  obtain ⟨R1, q1, q2, p0, p1, p2, p3, i3, n3, z3, z1, z2, w1, w2⟩ := once_plain most l0 hl hw a b hab hb
  obtain ⟨E, hE⟩ : ∃ E, E = endR R1 := ⟨_, rfl⟩
  have hEA := endR_all i3 n3
  rw [← hE] at hEA
  obtain ⟨⟨st, bl, re, er⟩, hRA⟩ : ∃ t, replyA E = t := ⟨_, rfl⟩
  have HZ := Aside0.mk (show 0 < w.heap.size by obtain ⟨m, hm⟩ := hG; exact World.block_lt_of_cell? w ⟨0, 0, none⟩ hm)
  have HLL := Aside0.mk (show l0.length ≤ 12000 ∧ a ≤ b ∧ b ≤ l0.length from ⟨hl, hab, hb⟩)
  have s1 : (l0.take a).length = a := by rw [List.length_take]; omega
  have s2 : ((l0.drop a).take (b - a)).length = b - a := by rw [List.length_take, List.length_drop]; omega
  have s3 : (l0.drop b).length = l0.length - b := List.length_drop
  have y1 : Byts (q1.ahead ++ (l0.drop a).take (b - a)) := fun x hx => (List.mem_append.1 hx).elim (w1 x) fun h => hw x (List.mem_of_mem_drop (List.mem_of_mem_take h))
  have y2 : Byts (q2.ahead ++ l0.drop b) := fun x hx => (List.mem_append.1 hx).elim (w2 x) fun h => hw x (List.mem_of_mem_drop h)
  have y0 : Byts ((newR most).ahead ++ l0) := hw
  have y3 : Byts ((newR most).ahead ++ l0.take a) := fun x hx => hw x (List.mem_of_mem_take hx)
  have P0 := Aside0.mk p0
  have P1 := Aside0.mk p1
  have P2 := Aside0.mk p2
  have P3 := Aside0.mk p3
  have I3 := Aside0.mk i3
  have Z1 := Aside0.mk z1
  have Z2 := Aside0.mk z2
  have S1 := Aside0.mk s1
  have S2 := Aside0.mk s2
  have S3 := Aside0.mk s3
  have Y0 := Aside0.mk y0
  have Y1 := Aside0.mk y1
  have Y2 := Aside0.mk y2
  have Y3 := Aside0.mk y3
  have HE := Aside0.mk hE
  have HEA := Aside0.mk hEA
  have HRA := Aside0.mk hRA
  have RR := Aside0.mk hr
  have CC := Aside0.mk hc
  have HG := Aside0.mk hG
  have Z3 := Aside0.mk z3
  clear p0 p1 p2 p3 i3 n3 z1 z2 z3 s1 s2 s3 y0 y1 y2 y3 w1 w2 hE hEA hRA hr hw hG
  have d0 : decide (12000 < l0.length) = false := decide_eq_false (by omega)
  have d1 : decide ((l0.length : Int) > 12000) = false := decide_eq_false (by omega)
  have d2 : decide ((12000 : Int) < (l0.length : Int)) = false := decide_eq_false (by omega)
  have d3 : decide ((a : Int) < 0) = false := decide_eq_false (by omega)
  have d4 : decide ((a : Int) > (l0.length : Int)) = false := decide_eq_false (by omega)
  have d5 : decide ((l0.length : Int) < (a : Int)) = false := decide_eq_false (by omega)
  have d6 : decide (l0.length < a) = false := decide_eq_false (by omega)
  have d7 : decide ((b : Int) < (a : Int)) = false := decide_eq_false (by omega)
  have d8 : decide (b < a) = false := decide_eq_false (by omega)
  have d9 : decide ((b : Int) > (l0.length : Int)) = false := decide_eq_false (by omega)
  have d10 : decide ((l0.length : Int) < (b : Int)) = false := decide_eq_false (by omega)
  have d11 : decide (l0.length < b) = false := decide_eq_false (by omega)
  go_enter Tryz.func3, Tryz.ntmps3
  have t1 : True := trivial
  go_upto_region 6 with (first | (go_at_call 6; have t_ := t1; (with_reducible refine (new_calls_ most _).mono ?_); rintro x w1 ⟨g1, rfl, h1, hg1, hb1⟩; have D1 := Aside0.mk h1; have G1 := Aside0.mk hg1; have HB := Aside0.mk hb1; clear h1 hg1 hb1 t1 t_; have t2 : True := trivial) | (go_at_call 6; have t_ := t2; (with_reducible refine (new_calls_ most _).mono ?_); rintro x w2 ⟨g2, rfl, h2, hg2, hb2⟩; have T := Aside0.mk (show Two w.heap.size w2 (fun k => k = g1) (fun k => k = g2) g1 g2 (newR most) (newR most) from ⟨D1.out.below hb2, h2, fun i h1 h3 => by have h4 := D1.out.lt; subst h1; subst h3; omega, fun i h => h ▸ G1.out, fun i h => h ▸ Nat.le_trans HB.out.size hg2, fun i h => h ▸ Nat.lt_of_lt_of_le D1.out.lt hb2.size, fun i h => h ▸ h2.lt, Nat.le_trans HB.out.size hb2.size⟩); have n1 := Aside0.mk (below_step HB.out hb2); clear D1 G1 HB h2 hg2 hb2 t2 t_; have HB := n1; clear n1))
  clear d0 d1 d2 d3 d4 d5 d6 d7 d8 d9 d10 d11
  have hA := fun (ad : Addr) (e : A = some ad) (h0 : 0 < l0.length) => reads_block RR.out h0 e
  have HA := Aside0.mk hA
  clear hA
  have hq1 : (a : Int) ≤ (b : Int) := by omega
  have hq2 : (a : Int) ≤ (c : Int) := by omega
  have hq3 : (b : Int) ≤ (c : Int) := by omega
  have hq4 : (0 : Int) ≤ (a : Int) := by omega
  have hq5 : (0 : Int) ≤ (b : Int) := by omega
  have hq6 : (b : Int) ≤ (l0.length : Int) := by omega
  have hq7 : a ≤ c := by omega
  have hq8 : b ≤ c := by omega
  have HPC := Aside0.mk (push_two T.out HZ.out (HG.out.below HB.out) HA.out Y0.out (by have h1 := HLL.out; have h2 : sizeR (newR most) = 0 := rfl; omega) rfl CC.out (C_len (RR.out.below HB.out) rfl) P0.out)
  go_upto_region 7 with (first | (go_at_call 7; (with_reducible refine HPC.out.mono ?_); rintro x w3 ⟨rfl, ⟨Fw3, hT⟩, hb⟩; have n1 := Aside0.mk hT; have n2 := Aside0.mk (HB.out.trans hb); clear T HB HPC hT hb; have T := n1; have HB := n2; clear n1 n2))
  have HPC := Aside0.mk (end_two T.out I3.out)
  go_upto_region 8 with (first | (go_at_call 8; (with_reducible refine HPC.out.mono ?_); rintro x w4 ⟨rfl, ⟨Fw4, hT⟩, hb⟩; have n1 := Aside0.mk hT; have n2 := Aside0.mk (HB.out.trans hb); clear T HB HPC hT hb; have T := n1; have HB := n2; clear n1 n2))
  have n1 := Aside0.mk T.out.swap
  clear T
  have T := n1
  clear n1
  have HPC := Aside0.mk (push_two T.out HZ.out (HG.out.below HB.out) (fun ad e h0 => HA.out ad e (by have h1 := HLL.out; have h2 := S1.out; omega)) Y3.out (by have h1 := HLL.out; have h2 : sizeR (newR most) = 0 := rfl; have h3 := S1.out; omega) S1.out.symm hq7 (C_len ((RR.out.below HB.out).take_ a (by omega)) S1.out.symm) P1.out)
  go_upto_region 9 with (first | (go_at_call 7; (with_reducible refine HPC.out.mono ?_); rintro x w5 ⟨rfl, ⟨Fw5, hT⟩, hb⟩; have n1 := Aside0.mk hT; have n2 := Aside0.mk (HB.out.trans hb); clear T HB HPC hT hb; have T := n1; have HB := n2; clear n1 n2))
  have HPC := Aside0.mk (push_two (A := (if c = a then A else A.map (fun x => x.add a))) (n := b - a) (c := c - a) T.out HZ.out (HG.out.below HB.out) (fun ad e h0 => by obtain ⟨a1, h1, h2⟩ := cut_block rfl e; rw [h2]; exact HA.out a1 h1 (by have h3 := HLL.out; have h4 := S2.out; omega)) Y1.out (by have h1 := HLL.out; have h2 := Z1.out; have h3 := S2.out; omega) S2.out.symm (by omega) (C_len (((RR.out.below HB.out).drop_ a (by omega) CC.out).take_ (b - a) (by omega)) S2.out.symm) P2.out)
  go_upto_region 10 with (first | (go_at_call 7; (with_reducible refine HPC.out.mono ?_); rintro x w6 ⟨rfl, ⟨Fw6, hT⟩, hb⟩; have n1 := Aside0.mk hT; have n2 := Aside0.mk (HB.out.trans hb); clear T HB HPC hT hb; have T := n1; have HB := n2; clear n1 n2))
  have HPC := Aside0.mk (push_two (A := (if c = b then A else A.map (fun x => x.add b))) (n := l0.length - b) (c := c - b) T.out HZ.out (HG.out.below HB.out) (fun ad e h0 => by obtain ⟨a1, h1, h2⟩ := cut_block rfl e; rw [h2]; exact HA.out a1 h1 (by have h3 := S3.out; omega)) Y2.out (by have h1 := HLL.out; have h2 := Z2.out; have h3 := S3.out; omega) S3.out.symm (by omega) (C_len ((RR.out.below HB.out).drop_ b (by omega) CC.out) S3.out.symm) P3.out)
  go_upto_region 11 with (first | (go_at_call 7; (with_reducible refine HPC.out.mono ?_); rintro x w7 ⟨rfl, ⟨Fw7, hT⟩, hb⟩; have n1 := Aside0.mk hT; have n2 := Aside0.mk (HB.out.trans hb); clear T HB HPC hT hb; have T := n1; have HB := n2; clear n1 n2))
  have HPC := Aside0.mk (end_two T.out I3.out)
  go_upto_region 12 with (first | (go_at_call 8; (with_reducible refine HPC.out.mono ?_); rintro x w8 ⟨rfl, ⟨Fw8, hT⟩, hb⟩; have n1 := Aside0.mk hT; have n2 := Aside0.mk (HB.out.trans hb); clear T HB HPC hT hb; have T := n1; have HB := n2; clear n1 n2))
  have n1 := Aside0.mk (show Two w.heap.size w8 _ _ g2 g1 E E from by rw [HE.out]; exact T.out)
  clear T
  have T := n1
  clear n1 hq1 hq2 hq3 hq4 hq5 hq6 hq7 hq8
  go_upto_region 13 with (first | (go_at_call 9; (with_reducible refine (reply_calls T.out.D2 ⟨HEA.out.2.1, HEA.out.2.2.1⟩ (fun d hd => by have h1 := HEA.out.2.2.2 d hd; have h2 := Z3.out; omega)).mono ?_); rintro x w9 ⟨v, hx, ho, hfr, hbb⟩; rw [HRA.out] at hx ho; dsimp only at hx ho; subst hx; obtain ⟨A3, n3, rfl, hn3⟩ := own_slice2 ho; have HO3 := Aside0.mk ho; have HBB := Aside0.mk hbb; clear ho hfr hbb))
  obtain ⟨x3, hx3⟩ : ∃ g, g = w9.heap.size := ⟨_, rfl⟩
  obtain ⟨w10, hw3⟩ : ∃ w_, w_ = w9.alloc (Obj.cells #[.int .i64 st, .slice A3 bl.length n3, .bool re] 28) := ⟨_, rfl⟩
  have HL3 := Aside0.mk (show w10.heap[x3]? = some (.cells #[.int .i64 st, .slice A3 bl.length n3, .bool re] 28 (0, 0)) from by rw [hw3, hx3]; exact blk_new w9 _)
  have HBC := Aside0.mk (show Below w8.heap.size w8 w10 from by rw [hw3]; exact below_alloc HBB.out _)
  have HC3 := Aside0.mk (show Below w9.heap.size w9 w10 from by rw [hw3]; exact below_alloc (Below.refl _ _) _)
  rw [← hx3, ← hw3]
  clear hx3 hw3
  have n1 := Aside0.mk (T.out.below HBC.out)
  have n2 := Aside0.mk (below_step HB.out HBC.out)
  have n3_ := Aside0.mk (show Own w10 (.slice A3 bl.length n3) bl from Own.keep HO3.out (Keep.of_below (F := fun _ => False) HC3.out) fun _ _ => id)
  clear T HB HO3 HBB
  have T := n1
  have HB := n2
  have HO3 := n3_
  clear n1 n2 n3_
  clear HBC HC3
  go_upto_region 14 with (first | (go_at_call 9; (with_reducible refine (reply_calls T.out.D1 ⟨HEA.out.2.1, HEA.out.2.2.1⟩ (fun d hd => by have h1 := HEA.out.2.2.2 d hd; have h2 := Z3.out; omega)).mono ?_); rintro x w11 ⟨v, hx, ho, hfr, hbb⟩; rw [HRA.out] at hx ho; dsimp only at hx ho; subst hx; obtain ⟨A4, n4, rfl, hn4⟩ := own_slice2 ho; have HO4 := Aside0.mk ho; have HBB := Aside0.mk hbb; clear ho hfr hbb))
  obtain ⟨x4, hx4⟩ : ∃ g, g = w11.heap.size := ⟨_, rfl⟩
  obtain ⟨w12, hw4⟩ : ∃ w_, w_ = w11.alloc (Obj.cells #[.int .i64 st, .slice A4 bl.length n4, .bool re] 28) := ⟨_, rfl⟩
  have HL4 := Aside0.mk (show w12.heap[x4]? = some (.cells #[.int .i64 st, .slice A4 bl.length n4, .bool re] 28 (0, 0)) from by rw [hw4, hx4]; exact blk_new w11 _)
  have HBC := Aside0.mk (show Below w10.heap.size w10 w12 from by rw [hw4]; exact below_alloc HBB.out _)
  have HC4 := Aside0.mk (show Below w11.heap.size w11 w12 from by rw [hw4]; exact below_alloc (Below.refl _ _) _)
  rw [← hx4, ← hw4]
  clear hx4 hw4
  have n1 := Aside0.mk (T.out.below HBC.out)
  have n2 := Aside0.mk (below_step HB.out HBC.out)
  have n3_ := Aside0.mk (show Own w12 (.slice A4 bl.length n4) bl from Own.keep HO4.out (Keep.of_below (F := fun _ => False) HC4.out) fun _ _ => id)
  clear T HB HO4 HBB
  have T := n1
  have HB := n2
  have HO4 := n3_
  clear n1 n2 n3_
  have n1 := Aside0.mk (show Own w12 (.slice A3 bl.length n3) bl from Own.keep HO3.out (Keep.of_below (F := fun _ => False) HBC.out) fun _ _ => id)
  clear HO3
  have HO3 := n1
  clear n1
  have n1 := Aside0.mk (keepL HL3.out HBC.out)
  clear HL3
  have HL3 := n1
  clear n1
  have k30 : w12.cell? ⟨x3, 0, none⟩ = some (.int .i64 st) := (blk_cell HL3.out 0).trans rfl
  have k31 : w12.cell? ⟨x3, 1, none⟩ = some (.slice A3 bl.length n3) := (blk_cell HL3.out 1).trans rfl
  have k32 : w12.cell? ⟨x3, 2, none⟩ = some (.bool re) := (blk_cell HL3.out 2).trans rfl
  obtain ⟨B3, m3, hv3, _, hC3⟩ := own_C HO3.out
  injection hv3 with hv1 _ hv2
  subst hv1 hv2
  have KC3 := Aside0.mk hC3
  clear hC3
  have k40 : w12.cell? ⟨x4, 0, none⟩ = some (.int .i64 st) := (blk_cell HL4.out 0).trans rfl
  have k41 : w12.cell? ⟨x4, 1, none⟩ = some (.slice A4 bl.length n4) := (blk_cell HL4.out 1).trans rfl
  have k42 : w12.cell? ⟨x4, 2, none⟩ = some (.bool re) := (blk_cell HL4.out 2).trans rfl
  obtain ⟨B4, m4, hv4, _, hC4⟩ := own_C HO4.out
  injection hv4 with hv1 _ hv2
  subst hv1 hv2
  have KC4 := Aside0.mk hC4
  clear hC4
  have ye : (er == er) = true := beq_self_eq_true er
  have HOV := Aside0.mk HEA.out.1
  have v1 : True := trivial
  go_wp2_with (first | (go_at_call 10; (with_reducible refine (PA.odometerref08_Same.calls st A3 n3 bl re st A4 n4 bl re true w12 KC3.out hn3 KC4.out hn4 (same_true st bl re)).mono ?_); rintro x w13 ⟨rfl, hbb⟩; have n1 := Aside0.mk (T.out.below hbb); have n2 := Aside0.mk (below_step HB.out hbb); clear T HB hbb; have T := n1; have HB := n2; clear n1 n2) | (go_at_call 11; have t_ := v1; (with_reducible refine (over_calls T.out.D2).mono ?_); rintro x w_ ⟨hx, rfl⟩; rw [HOV.out] at hx; subst hx; clear v1 t_; have v2 : True := trivial) | (go_at_call 11; have t_ := v2; (with_reducible refine (over_calls T.out.D1).mono ?_); rintro x w_ ⟨hx, rfl⟩; rw [HOV.out] at hx; subst hx; clear v2 t_) | (go_at_call 5; (with_reducible refine (known_calls _ (HG.out.below HB.out)).mono ?_); rintro x w14 ⟨rfl, hbb⟩; have HZ9 := Aside0.mk (below_step HB.out hbb); clear hbb))
  all_goals go_ret
  all_goals exact ⟨rfl, HZ9.out⟩
def odometerlaw08_ReplyOnce.Pure : Prop := True
theorem odometerlaw08_ReplyOnce.walk (_P : odometerlaw08_ReplyOnce.Pure) (a0 : Int) (a1 : Option Addr) (len1 cap1 : Nat) (z1 : List Int) (a2 a3 : Int) (w : World) (_w0 : (Lit.int .i64 a0).wf = true)
    (w1 : (a1 = none ∧ len1 = 0 ∧ cap1 = 0 ∧ z1 = []) ∨ ∃ x, a1 = some x ∧ len1 ≤ cap1 ∧ cap1 ≤ maxLen ∧ z1.length = cap1 ∧ (∀ i, i < z1.length → w.cell? (x.add i) = some (.int .u8 (z1.getD i 0))) ∧ ∀ n ∈ z1, (Lit.int .u8 n).wf = true) (_y1 : len1 * 1 ≤ 140737488351232) (_w2 : (Lit.int .i64 a2).wf = true) (_w3 : (Lit.int .i64 a3).wf = true) (hG : Glob w) :
    Calls Tryz.prog 3 #[.int .i64 a0, .slice a1 len1 cap1, .int .i64 a2, .int .i64 a3] w fun e w' => e = .returned (.bool true) ∧ Below w.heap.size w w' := by
  obtain ⟨l1, rfl, hr, _, hw, hc⟩ := ReadsInt.ofRowC w1
  by_cases hb : 12000 < l1.length ∨ a2 < 0 ∨ (l1.length : Int) < a2 ∨ a3 < a2 ∨ (l1.length : Int) < a3
  · exact once_bad a0 a2 a3 a1 cap1 l1 w hG hb
  · obtain ⟨a, rfl⟩ := Int.eq_ofNat_of_zero_le (a := a2) (by omega)
    obtain ⟨b, rfl⟩ := Int.eq_ofNat_of_zero_le (a := a3) (by omega)
    exact once_good a0 a b a1 cap1 l1 w hr hc hw hG (by omega) (by omega) (by omega)

end Go.Proofs.YtfpcoanlkfgagaaGreatDoor.RdrO
