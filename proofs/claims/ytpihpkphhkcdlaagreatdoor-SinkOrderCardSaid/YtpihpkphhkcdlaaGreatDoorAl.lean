/- slices.Sort of the two numbers 1 and 3. -/
import Derived.Test.YtpihpkphhkcdlaaGreatDoorCp
import Derived.Sort.Walk0
import Derived.Deep.QuietTactic
import Derived.RangeFuncNested
import Derived.RangeFuncBound
import Derived.RangeFuncCalls
import Derived.RangeFuncLeaves
import Derived.RangeFuncBox
import Derived.Shelf.Abstract
import Derived.Shelf.RegionOpen
import Derived.WalkKit
import Derived.OwnWalkIn
import Derived.TacticsInMore
import Derived.LoopNIn
import Derived.LoopIn
import Derived.Maps.AppendAt
import Derived.Maps.OwnIn
import Derived.Sort.MapsRangeIn
import Derived.Sort.LoopGhostIn
namespace Go.Proofs.YtpihpkphhkcdlaaGreatDoor.So
open Go.RowKit Go.Proofs.YtpihpkphhkcdlaaGreatDoorW.PrintWords Go.Proofs.YtpihpkphhkcdlaaGreatDoorW.PrintLast Go.Proofs.YtpihpkphhkcdlaaGreatDoor.Tab Go.Proofs.YtpihpkphhkcdlaaGreatDoor.Kp
set_option linter.unusedVariables false
set_option linter.unusedSimpArgs false
theorem nan_calls (x : Int) (w : World) : Calls Tryz.prog 123 #[.int .u64 x] w fun e w' => e = .returned (.bool false) ∧ w' = w := by
  go_enter Tryz.func123, Tryz.ntmps123
  go_wp2
  go_ret
  exact ⟨by simp, rfl⟩
theorem less_calls (x y : Int) (w : World) : Calls Tryz.prog 98 #[.int .u64 x, .int .u64 y] w fun e w' => e = .returned (.bool (decide (x < y))) ∧ w' = w := by
  go_enter Tryz.func98, Tryz.ntmps98
  go_wp2_with (go_at_call 123; refine (nan_calls _ _).mono ?_; rintro e w' ⟨rfl, rfl⟩)
  go_ret
  exact ⟨rfl, rfl⟩
theorem len82 : wrap64 (wrap64 (Lib.len8 2)) = 2 := by decide +kernel
set_option maxHeartbeats 4000000 in
set_option maxRecDepth 100000 in
theorem len64_calls (w : World) : Calls Tryz.prog 90 #[.int .u64 2] w fun e w' => e = .returned (.int .i64 2) ∧ w' = w := by
  go_enter Tryz.func90, Tryz.ntmps90
  go_wp2
  go_ret
  refine ⟨?_, rfl⟩
  have h := len82
  simp [h]
set_option maxHeartbeats 4000000 in
set_option maxRecDepth 100000 in
theorem len_calls (w : World) : Calls Tryz.prog 65 #[.int .u64 2] w fun e w' => e = .returned (.int .i64 2) ∧ w' = w := by
  go_enter Tryz.func65, Tryz.ntmps65
  go_wp2_with (go_at_call 90; refine (len64_calls _).mono ?_; rintro e w' ⟨rfl, rfl⟩)
  go_ret
  exact ⟨rfl, rfl⟩
/-- Two numbers at a block's start. -/
abbrev two (x y : Int) (r : List Value) : Array Value := ⟨.int .u64 x :: .int .u64 y :: r⟩
theorem set0 (x y z : Int) (r : List Value) : (two x y r).setIfInBounds 0 (.int .u64 z) = two z y r := rfl
theorem set1 (x y z : Int) (r : List Value) : (two x y r).setIfInBounds 1 (.int .u64 z) = two x z r := rfl
set_option maxHeartbeats 4000000 in
set_option maxRecDepth 1000000 in
theorem ins13_calls (g cap : Nat) (r : List Value) (w : World) (hb : w.heap[g]? = some (.cells (two 1 3 r) 40 (0, 0))) :
    Calls Tryz.prog 92 #[.slice (some ⟨g, 0, none⟩) 2 cap, .int .i64 0, .int .i64 2] w fun e w' => e = .returned (.tuple #[]) ∧ w'.heap[g]? = some (.cells (two 1 3 r) 40 (0, 0)) ∧ Keep (fun j => j = g) w w' := by
  have HB := Aside0.mk hb
  clear hb
  go_enter Tryz.func92, Tryz.ntmps92
  go_wp2
  go_loopg [6] 1 (fun kq v6 w' => ∃ a b : Int, (v6 = .int .i64 1 ∧ kq = 1 ∧ a = 1 ∧ b = 3 ∨ v6 = .int .i64 2 ∧ kq = 0 ∧ a = 1 ∧ b = 3) ∧ Aside0 (w'.heap[g]? = some (.cells (two a b r) 40 (0, 0))) ∧ Aside0 (Keep (fun j => j = g) w w'))
  case atStart => exact ⟨1, 3, .inl ⟨rfl, rfl, rfl, rfl⟩, HB, ⟨Keep.refl _ _⟩⟩
  case round =>
    obtain ⟨a, b, (⟨rfl, rfl, rfl, rfl⟩ | ⟨rfl, rfl, rfl, rfl⟩), H1, K1⟩ := hrel
    · go_wp2
      go_loopg [7] 1 (fun kq v7 w' => ∃ a b : Int, (v7 = .int .i64 1 ∧ kq = 1 ∧ a = 1 ∧ b = 3 ∨ v7 = .int .i64 0 ∧ kq = 0 ∧ a = 1 ∧ b = 3) ∧ Aside0 (w'.heap[g]? = some (.cells (two a b r) 40 (0, 0))) ∧ Aside0 (Keep (fun j => j = g) w w'))
      case atStart => exact ⟨1, 3, .inl ⟨rfl, rfl, rfl, rfl⟩, H1, K1⟩
      case round =>
        clear H1 K1
        obtain ⟨a, b, (⟨rfl, rfl, rfl, rfl⟩ | ⟨rfl, rfl, rfl, rfl⟩), H2, K2⟩ := hrel
        · have c0 : World.cell? _ ⟨g, 0, none⟩ = some (.int .u64 1) := blk_cell H2.out 0
          have c1 : World.cell? _ ⟨g, 1, none⟩ = some (.int .u64 3) := blk_cell H2.out 1
          go_wp2
          go_quiet (first | (go_at_call 98; refine Calls.quiet_of_same (less_calls _ _ _)))
          go_wp2
          go_roundg 0
          case rel => exact ⟨_, _, .inr ⟨rfl, rfl, rfl, rfl⟩, ⟨(by exact H2.out)⟩, ⟨K2.out.drewN _⟩⟩
          case measure => omega
        · go_wp2
          go_quiet (first | (go_at_call 98; refine Calls.quiet_of_same (less_calls _ _ _)))
          go_wp2
          go_roundg 0
          case rel => exact ⟨_, _, .inr ⟨rfl, rfl, rfl, rfl⟩, ⟨(by exact H2.out)⟩, ⟨K2.out.drewN _⟩⟩
          case measure => omega
    · go_wp2
      go_end0
      exact ⟨rfl, H1.out, K1.out⟩
set_option maxHeartbeats 4000000 in
set_option maxRecDepth 1000000 in
theorem ins31_calls (g cap : Nat) (r : List Value) (w : World) (hb : w.heap[g]? = some (.cells (two 3 1 r) 40 (0, 0))) :
    Calls Tryz.prog 92 #[.slice (some ⟨g, 0, none⟩) 2 cap, .int .i64 0, .int .i64 2] w fun e w' => e = .returned (.tuple #[]) ∧ w'.heap[g]? = some (.cells (two 1 3 r) 40 (0, 0)) ∧ Keep (fun j => j = g) w w' := by
  have HB := Aside0.mk hb
  clear hb
  go_enter Tryz.func92, Tryz.ntmps92
  go_wp2
  go_loopg [6] 1 (fun kq v6 w' => ∃ a b : Int, (v6 = .int .i64 1 ∧ kq = 1 ∧ a = 3 ∧ b = 1 ∨ v6 = .int .i64 2 ∧ kq = 0 ∧ a = 1 ∧ b = 3) ∧ Aside0 (w'.heap[g]? = some (.cells (two a b r) 40 (0, 0))) ∧ Aside0 (Keep (fun j => j = g) w w'))
  case atStart => exact ⟨3, 1, .inl ⟨rfl, rfl, rfl, rfl⟩, HB, ⟨Keep.refl _ _⟩⟩
  case round =>
    obtain ⟨a, b, (⟨rfl, rfl, rfl, rfl⟩ | ⟨rfl, rfl, rfl, rfl⟩), H1, K1⟩ := hrel
    · go_wp2
      go_loopg [7] 1 (fun kq v7 w' => ∃ a b : Int, (v7 = .int .i64 1 ∧ kq = 1 ∧ a = 3 ∧ b = 1 ∨ v7 = .int .i64 0 ∧ kq = 0 ∧ a = 1 ∧ b = 3) ∧ Aside0 (w'.heap[g]? = some (.cells (two a b r) 40 (0, 0))) ∧ Aside0 (Keep (fun j => j = g) w w'))
      case atStart => exact ⟨3, 1, .inl ⟨rfl, rfl, rfl, rfl⟩, H1, K1⟩
      case round =>
        clear H1 K1
        obtain ⟨a, b, (⟨rfl, rfl, rfl, rfl⟩ | ⟨rfl, rfl, rfl, rfl⟩), H2, K2⟩ := hrel
        · have c0 : World.cell? _ ⟨g, 0, none⟩ = some (.int .u64 3) := blk_cell H2.out 0
          have c1 : World.cell? _ ⟨g, 1, none⟩ = some (.int .u64 1) := blk_cell H2.out 1
          go_wp2
          go_quiet (first | (go_at_call 98; refine Calls.quiet_of_same (less_calls _ _ _)))
          go_wp2
          have f0 := blk_frozen H2.out 0
          have f1 := blk_frozen H2.out 1
          go_region
          all_goals go_wp2
          go_roundg 0
          case rel =>
            refine ⟨1, 3, .inr ⟨rfl, rfl, rfl, rfl⟩, ⟨?_⟩, ⟨((K2.out.drewN _).set (g := g) rfl 1 _).set (g := g) rfl 0 _⟩⟩
            have h0 : (wr.drewN (nq + 1)).heap[g]? = some (.cells (two 3 1 r) 40 (0, 0)) := H2.out
            have h1 := blk_put h0 1 (.int .u64 3) (set1 3 1 3 r)
            exact blk_put h1 0 (.int .u64 1) (set0 3 3 1 r)
          case measure => omega
        · go_wp2
          go_quiet (first | (go_at_call 98; refine Calls.quiet_of_same (less_calls _ _ _)))
          go_wp2
          go_roundg 0
          case rel => exact ⟨_, _, .inr ⟨rfl, rfl, rfl, rfl⟩, ⟨(by exact H2.out)⟩, ⟨K2.out.drewN _⟩⟩
          case measure => omega
    · go_wp2
      go_end0
      exact ⟨rfl, H1.out, K1.out⟩
theorem ins_calls (g cap : Nat) (r : List Value) (x y : Int) (h : x = 1 ∧ y = 3 ∨ x = 3 ∧ y = 1) (w : World) (hb : w.heap[g]? = some (.cells (two x y r) 40 (0, 0))) :
    Calls Tryz.prog 92 #[.slice (some ⟨g, 0, none⟩) 2 cap, .int .i64 0, .int .i64 2] w fun e w' => e = .returned (.tuple #[]) ∧ w'.heap[g]? = some (.cells (two 1 3 r) 40 (0, 0)) ∧ Keep (fun j => j = g) w w' := by
  rcases h with ⟨rfl, rfl⟩ | ⟨rfl, rfl⟩
  · exact ins13_calls g cap r w hb
  · exact ins31_calls g cap r w hb
set_option maxHeartbeats 4000000 in
set_option maxRecDepth 1000000 in
theorem pdq_calls (g cap : Nat) (r : List Value) (x y : Int) (h : x = 1 ∧ y = 3 ∨ x = 3 ∧ y = 1) (w : World) (hb : w.heap[g]? = some (.cells (two x y r) 40 (0, 0))) :
    Calls Tryz.prog 69 #[.slice (some ⟨g, 0, none⟩) 2 cap, .int .i64 0, .int .i64 2, .int .i64 2] w fun e w' => e = .returned (.tuple #[]) ∧ w'.heap[g]? = some (.cells (two 1 3 r) 40 (0, 0)) ∧ Keep (fun j => j = g) w w' := by
  have HB := Aside0.mk hb
  have HX := Aside0.mk h
  clear hb h
  go_enter Tryz.func69, Tryz.ntmps69
  go_wp2
  go_loopg [1, 2, 3, 8, 9] 0 (fun kq v1 v2 v3 v8 v9 w' => v1 = .int .i64 0 ∧ v2 = .int .i64 2 ∧ v3 = .int .i64 2 ∧ v8 = .bool true ∧ v9 = .bool true ∧ Aside0 (w'.heap[g]? = some (.cells (two x y r) 40 (0, 0))) ∧ Aside0 (Keep (fun j => j = g) w w'))
  case atStart => exact ⟨rfl, rfl, rfl, rfl, rfl, HB, ⟨Keep.refl _ _⟩⟩
  case round =>
    obtain ⟨rfl, rfl, rfl, rfl, rfl, H1, K1⟩ := hrel
    go_wp2_with (go_at_call 92; (with_reducible refine (ins_calls g cap r x y HX.out _ H1.out).mono ?_); rintro e_ w2 ⟨rfl, h1, h2⟩; have H2 := Aside0.mk (And.intro h1 h2); clear h1 h2)
    refine bodyPost_ret (results_none rfl _ _ _) rfl ?_
    exact ⟨rfl, H2.out.1, K1.out.trans H2.out.2 (fun _ _ => id)⟩
set_option maxHeartbeats 4000000 in
set_option maxRecDepth 1000000 in
theorem sort_calls (g cap : Nat) (r : List Value) (x y : Int) (h : x = 1 ∧ y = 3 ∨ x = 3 ∧ y = 1) (w : World) (hb : w.heap[g]? = some (.cells (two x y r) 40 (0, 0))) :
    Calls Tryz.prog 49 #[.slice (some ⟨g, 0, none⟩) 2 cap] w fun e w' => e = .returned (.tuple #[]) ∧ w'.heap[g]? = some (.cells (two 1 3 r) 40 (0, 0)) ∧ Keep (fun j => j = g) w w' := by
  have HB := Aside0.mk hb
  have HX := Aside0.mk h
  clear hb h
  go_enter Tryz.func49, Tryz.ntmps49
  go_wp2_with (first
    | (go_at_call 65; (with_reducible refine (len_calls _).mono ?_); rintro e_ w2 ⟨rfl, rfl⟩)
    | (go_at_call 69; (with_reducible refine (pdq_calls g cap r x y HX.out _ HB.out).mono ?_); rintro e_ w2 ⟨rfl, h1, h2⟩; have H2 := Aside0.mk (And.intro h1 h2); clear h1 h2))
  go_end0
  exact ⟨rfl, H2.out.1, H2.out.2⟩
end Go.Proofs.YtpihpkphhkcdlaaGreatDoor.So
namespace Go.Proofs.YtpihpkphhkcdlaaGreatDoor.Ku
open Go.RowKit Go.Maps Go.Shelf Go.Sort Go.Proofs.YtpihpkphhkcdlaaGreatDoorW.PrintWords Go.Proofs.YtpihpkphhkcdlaaGreatDoorW.PrintLast Go.Proofs.YtpihpkphhkcdlaaGreatDoor.Tab Go.Proofs.YtpihpkphhkcdlaaGreatDoor.Kp Go.Proofs.YtpihpkphhkcdlaaGreatDoor.Sk Go.Proofs.YtpihpkphhkcdlaaGreatDoor.So
set_option linter.unusedVariables false
set_option linter.unusedSimpArgs false
attribute [local go_sem] Oper.semAt_some
/-- What has come of a map's keys. -/
def Got {H : Type} (D0 : DataW H) (left : Lit → Bool) (ss : List Int) : Prop := ss.Nodup ∧ ∀ x, x ∈ ss ↔ (has D0 (.int .u64 x) = true ∧ left (.int .u64 x) = false)
theorem Got.start {H : Type} (D0 : DataW H) : Got D0 (has D0) [] := ⟨List.nodup_nil, fun x => by cases has D0 (.int .u64 x) <;> simp⟩
theorem Got.step {H : Type} {D0 : DataW H} {left : Lit → Bool} {ss : List Int} (h : Got D0 left ss) {x : Int} {y : DataW H} (hlk : left (.int .u64 x) = true) (hat : ∀ zd, D0.atKey (.int .u64 x) zd = y) : Got D0 (fun z => left z && !z.sameKey (.int .u64 x)) (ss ++ [x]) := by
  have hhas : has D0 (.int .u64 x) = true := has_true_of_atKey hat
  have hnew : x ∉ ss := fun hx => by have := ((h.2 x).1 hx).2; rw [hlk] at this; cases this
  refine ⟨List.nodup_append.2 ⟨h.1, by simp, fun a ha b hb => by simp at hb; subst hb; exact fun e => hnew (e ▸ ha)⟩, fun y => ?_⟩
  by_cases hy : y = x
  · subst hy; simp [hhas, Lit.sameKey]
  · simp [h.2 y, hy, Lit.sameKey]
abbrev encU (x : Int) : Value := .int .u64 x
theorem encU_inj {x y : Int} (h : encU x = encU y) : x = y := by simpa [encU] using h
/-- maps.Keys' iterator, of whatever rounds. -/
theorem keys1_in {F : Fence} (n : Nat) (h10 : F.fn 50) (hro : F.round = none) (hn : 1 ≤ n) (l Bm b nn : Nat) (D0 : DataW Value) (J Jx : List Int → World → Prop)
    (hY : ∀ pre x W, J pre W → pre.length < Maps.size D0 → YieldAt F (n - 1) Tryz.prog l #[encU x] W fun e W' =>
      (e = .returned (.bool true) ∧ J (pre ++ [x]) W' ∧ KeepsWalks W W') ∨ (e = .returned (.bool false) ∧ Jx (pre ++ [x]) W'))
    (W : World) (hJ : AbidesFrom W.heap.size J) (hm : W.cell? ⟨Bm, 0, none⟩ = some (.map (some b))) (hown : W.ownsMap Tryz.prog 40 kR b nn D0) (h0 : J [] W) :
    CallsIn F n Tryz.prog 50 #[.func (.yield l) #[] #[], .pointer (some ⟨Bm, 0, none⟩)] W fun e W' => (∃ v, e = .returned v) ∧
      ((∃ ss : List Int, (ss.Nodup ∧ ∀ x, x ∈ ss ↔ has D0 (.int .u64 x) = true) ∧ J ss W') ∨ (∃ pre : List Int, True ∧ Jx pre W')) := by
  refine callsIn_of_wp Tryz.func50 rfl h10 ?_ hro
  simp only [Tryz.ntmps50, List.size_toArray, List.length_cons, List.length_nil, Nat.reduceAdd, Nat.reduceSub, Array.replicate_succ, Array.replicate_zero, List.push_toArray, List.append_toArray, List.nil_append, List.cons_append]
  gi_wp2_with (first
    | (gi_at_range; refine wpListIn_range_own _ rfl _ 51 rfl 40 71 kL Tryz.underlying51 _ b nn _ rfl hown ?_; intro w0 hrg0 hg0 hs0)
    | gi_in)
  go_frame
  gi_loopw [3] (fun _ wr => ∃ (left : Lit → Bool) (cnt : Nat) (ss : List Int), wr.ranges Tryz.prog 40 kR b W.heap.size nn D0 left cnt ∧ ss.length + cnt ≤ Maps.size D0 ∧ Got D0 left ss ∧ J ss wr)
    (fun _ wr => wr.rangeLeft b W.heap.size)
  case atStart =>
    exact ⟨_, _, [], hrg0, by simp, Got.start D0, hJ [] W w0 none h0 hg0 (fun r e => by cases e)⟩
  case round =>
    obtain ⟨left, cnt, ss, hrg, hcs, hC, hJs⟩ := hrel
    gi_wp2_with (first
      | (gi_at_next; refine wpListIn_next_ranges _ rfl _ rfl 40 kL kR encU id (fun key kl hk => by obtain ⟨x, e, _⟩ := Maps.keyOf_int_inv Tryz.underlying40 hk; exact ⟨x, e⟩) (fun v _ _ => ⟨v, rfl⟩) b W.heap.size nn _ _ _ rfl hrg ?_ ?_)
      | gi_in)
    · intro hc0 hl0
      gi_wp2
      go_end0
      exact ⟨⟨_, rfl⟩, .inl ⟨ss, ⟨hC.1, fun x => by rw [hC.2 x, hl0]; simp⟩, hJs⟩⟩
    · intro x c kl yd yp w2 cnt2 hkey hlk hv hat hrg2 hlt hg2 hs2 hen
      obtain ⟨x', ex, rfl, _⟩ := Maps.keyOf_int_inv Tryz.underlying40 hkey
      obtain rfl : x = x' := encU_inj ex
      have hJ2 : J ss w2 := hJ ss wr w2 (some W.heap.size) hJs hg2 (fun r e => by cases e; exact ⟨Nat.le_refl _, hrg.iter_walk⟩)
      obtain ⟨fn, tmps, assign, body, hy, hR⟩ := hY ss x w2 hJ2 (by omega)
      clear hs2
      gi_wp2
      refine hR.mono ?_
      have hC2 := hC.step hlk hat
      rintro e W3 (⟨rfl, hJ3, hk3⟩ | ⟨rfl, hJx3⟩)
      · gi_wp2
        have hrg3 := hrg2.of_walks hk3
        go_roundw
        case rel => exact ⟨_, cnt2, ss ++ [x], hrg3, by simp; omega, hC2, hJ3⟩
        case measure => rw [hrg3.left_eq, hrg.left_eq]; exact hlt
      · gi_wp2
        refine bodyPost_ret (results_none rfl _ _ _) rfl ?_
        exact ⟨⟨_, rfl⟩, .inr ⟨ss ++ [x], trivial, hJx3⟩⟩
theorem keys_stops {F : Fence} (n : Nat) (h10 : F.fn 50) (hro : F.round = none) (hn : 1 ≤ n) (Bm b nn : Nat) (D0 : DataW Value) (w : World) (hBm : Bm < w.heap.size)
    (hm : w.cell? ⟨Bm, 0, none⟩ = some (.map (some b))) (hown : w.ownsMap Tryz.prog 40 kR b nn D0) :
    SeqStopsK F n Tryz.prog 50 #[.pointer (some ⟨Bm, 0, none⟩)] (fun x : Int => #[encU x]) KeepsWalks (fun ss => ss.Nodup ∧ ∀ x, x ∈ ss ↔ has D0 (.int .u64 x) = true) (fun _ => True) (Maps.size D0) w := fun l J Jx W hW hJ _ hY h0 => by
  have hown' : W.ownsMap Tryz.prog 40 kR b nn D0 := by
    have hbl := hown.lt
    obtain ⟨es, clock, hb, Ft, hs, hD⟩ := hown
    exact ⟨es, clock, (hW.block b hbl).trans hb, Ft, hs, hD⟩
  exact keys1_in n h10 hro hn l Bm b nn D0 J Jx hY W hJ ((hW.cell (p := ⟨Bm, 0, none⟩) hBm).trans hm) hown' h0
theorem info40 : (Tryz.prog.info? 40).map (fun i => (i.zero, i.size, i.bytes)) = some (some (.int .u64 0), 1, 8) := by kernel_rfl
set_option maxRecDepth 100000 in
set_option maxHeartbeats 4000000 in
theorem append_in {F : Fence} (n : Nat) (h11 : F.fn 68) (h10 : F.fn 50) (hro : F.round = none) (hn : 3 ≤ n) (Bm b nn : Nat) (D0 : DataW Value) (w : World) (hBm : Bm < w.heap.size)
    (hm : w.cell? ⟨Bm, 0, none⟩ = some (.map (some b))) (hown : w.ownsMap Tryz.prog 40 kR b nn D0) (hmax : Maps.size D0 ≤ 1000000) :
    CallsIn F n Tryz.prog 68 #[.slice none 0 0, .func (.func 50) #[] #[.pointer (some ⟨Bm, 0, none⟩)]] w fun e W' => ∃ (v : Value) (ss : List Int), e = .returned v ∧ (ss.Nodup ∧ ∀ x, x ∈ ss ↔ has D0 (.int .u64 x) = true) ∧ W'.ownsRow w.heap.size 40 1 v ss.length (ss.map encU) ∧ Below w.heap.size w W' := by
  have h1 : 1 ≤ n := by omega
  have HM := Aside0.mk hmax
  obtain ⟨i0, hi, hz0, hz1, hz2⟩ := info_parts info40
  refine callsIn_of_wp_marks Tryz.func68 rfl h11 ?_ hro
  simp only [Tryz.ntmps68, List.size_toArray, List.length_cons, List.length_nil, Nat.reduceAdd, Nat.reduceSub, Array.replicate_succ, Array.replicate_zero, List.push_toArray, List.append_toArray, List.nil_append, List.cons_append]
  gi_wp2
  have bO := Boxed.new w 61 (.slice none 0 0)
  have hB0 : Below w.heap.size w (w.alloc (.cells #[.slice none 0 0] 61)) := (Below.refl _ w).alloc (Nat.le_refl _) _
  have hown2 : (w.alloc (.cells #[.slice none 0 0] 61)).ownsMap Tryz.prog 40 kR b nn D0 := hown.alloc _
  refine wpIn_rangeFunc_ownG hro h1 (gf := 50) (lb := #[.pointer (some ⟨Bm, 0, none⟩)]) rfl h10 (enters_of Tryz.func50 (by kernel_rfl) rfl)
    (keys_stops (n - 1) h10 hro (by omega) Bm b nn D0 _ (by simp; omega) ((hB0.cell (p := ⟨Bm, 0, none⟩) hBm).trans hm) hown2) walksK_t walksK_b (Below.refl _ _) (fun _ => rfl)
    (fun pre W => (∃ v, Boxed W w.heap.size 61 v ∧ W.ownsRow w.heap.size 40 1 v pre.length (pre.map encU) ∧ True) ∧ Below w.heap.size w W)
    (fun _ _ _ => False)
    (OwnFrom.and (Own.from (holdsRow_own w.heap.size w.heap.size 61 40 1 (fun pre : List Int => pre.length) (fun pre => pre.map encU) (fun pre v => True)) _) (ownFrom_below (Nat.le_refl _) (by simp)))
    (fun _ _ _ _ _ hs _ _ => hs)
    ⟨⟨_, bO, World.ownsRow_nil _ _ _ _, trivial⟩, hB0⟩
    (fun x => { tmps := #[.slice none 0 0, .func (.func 50) #[] #[.pointer (some ⟨Bm, 0, none⟩)], .pointer (some ⟨w.heap.size, 0, none⟩), undef, .slice none 0 0, encU x, .func (.func 50) #[] #[.pointer (some ⟨Bm, 0, none⟩)], encU x, undef, undef, undef, undef, undef], defers := [] }) ?assign ?body ?done ?stop
  case assign =>
    intro l x W K hK
    gi_wp2
    exact hK
  case body =>
    rintro l pre x W ⟨⟨v, hv, hrow, _⟩, hB⟩ hlt
    have hM := HM.out
    have hc := hv.cell
    gi_wp2_with (gi_at_builtin; refine wpListIn_append_own _ rfl _ _ 61 rfl w.heap.size 40 i0 (.int .u64 0) 1 8 Tryz.underlying61 hi hz0 hz1 hz2 rfl (by decide) _ _ _ rfl (hrow.alloc _) ⟨W.heap.size, 0, none⟩ 1 1 [encU x] rfl rfl (cell_one_new _ _ _) (by simp [Value.oneCell']) (by unfold maxLen; omega) (by omega) (by have := hB.size; simp; omega) ?_; intro v' w1 hown' hgrow _; obtain ⟨g', cap', rfl⟩ := ownsRow_succ hown'; obtain ⟨hv1, hv2, hr2, hk2, hb2⟩ := hv.appended (by decide) hrow hB.size (Nat.le_refl _) hown' hgrow; have hc1 := hv1.cell; have hf1 := hv1.frozen)
    exact ⟨hk2.from _, hk2.walks, ⟨_, hv2, by simpa using hr2, trivial⟩, hB.trans hb2⟩
  case done =>
    rintro D ys W hD hS ⟨⟨v, hv, hrow, _⟩, hB⟩ hK
    have hc := hv.cell
    gi_wp2
    refine ⟨by simp, .inl ⟨_, _, rfl, run_takeDeferred hK, ?_⟩⟩
    exact ⟨_, results_tmp rfl _ _ _, v, ys, rfl, hS, ownsRow_putObj hrow _ hK rfl, hB.trans (belowK_b (w := w) (Nat.le_refl _) W D _ _ (by simp at hD; omega) hK rfl rfl)⟩
  case stop =>
    rintro D c pre W _ _ h _
    exact h.elim
theorem collect_in {F : Fence} (n : Nat) (h8 : F.fn 48) (h11 : F.fn 68) (h10 : F.fn 50) (hro : F.round = none) (hn : 4 ≤ n) (Bm b nn : Nat) (D0 : DataW Value) (w : World) (hBm : Bm < w.heap.size)
    (hm : w.cell? ⟨Bm, 0, none⟩ = some (.map (some b))) (hown : w.ownsMap Tryz.prog 40 kR b nn D0) (hmax : Maps.size D0 ≤ 1000000) :
    CallsIn F n Tryz.prog 48 #[.func (.func 50) #[] #[.pointer (some ⟨Bm, 0, none⟩)]] w fun e W' => ∃ (v : Value) (ss : List Int), e = .returned v ∧ (ss.Nodup ∧ ∀ x, x ∈ ss ↔ has D0 (.int .u64 x) = true) ∧ W'.ownsRow w.heap.size 40 1 v ss.length (ss.map encU) ∧ Below w.heap.size w W' := by
  have h1 : 1 ≤ n := by omega
  refine callsIn_of_wp Tryz.func48 rfl h8 ?_ hro
  simp only [Tryz.ntmps48, List.size_toArray, List.length_cons, List.length_nil, Nat.reduceAdd, Nat.reduceSub, Array.replicate_succ, Array.replicate_zero, List.push_toArray, List.append_toArray, List.nil_append, List.cons_append]
  gi_wp2_with (gi_at_call 68; refine (append_in (n - 1) h11 h10 hro (by omega) Bm b nn D0 _ hBm hm hown hmax).mono ?_; rintro e w' ⟨v, ss, rfl, hS, hrow, hb⟩)
  go_ret
  exact ⟨v, ss, rfl, hS, hrow, hb⟩
theorem collect_calls (Bm b nn : Nat) (D0 : DataW Value) (w : World) (hBm : Bm < w.heap.size)
    (hm : w.cell? ⟨Bm, 0, none⟩ = some (.map (some b))) (hown : w.ownsMap Tryz.prog 40 kR b nn D0) (hmax : Maps.size D0 ≤ 1000000) :
    Calls Tryz.prog 48 #[.func (.func 50) #[] #[.pointer (some ⟨Bm, 0, none⟩)]] w fun e W' => ∃ (v : Value) (ss : List Int), e = .returned v ∧ (ss.Nodup ∧ ∀ x, x ∈ ss ↔ has D0 (.int .u64 x) = true) ∧ W'.ownsRow w.heap.size 40 1 v ss.length (ss.map encU) ∧ Below w.heap.size w W' :=
  callsIn_wide.1 (collect_in (F := Fence.wide) 4 trivial trivial trivial rfl (Nat.le_refl _) Bm b nn D0 w hBm hm hown hmax)
/-- maps.Keys. -/
theorem keys_calls (mb : Option Nat) (w : World) : Calls Tryz.prog 32 #[.map mb] w fun e w' => e = .returned (.func (.func 50) #[] #[.pointer (some ⟨w.heap.size, 0, none⟩)]) ∧ w' = w.alloc (.cells #[.map mb] 51) := by
  go_enter Tryz.func32, Tryz.ntmps32
  go_wp2
  go_ret
  exact ⟨rfl, rfl⟩
end Go.Proofs.YtpihpkphhkcdlaaGreatDoor.Ku
namespace Go.Proofs.YtpihpkphhkcdlaaGreatDoor.Cr
open Go.RowKit Go.Maps Go.Proofs.YtpihpkphhkcdlaaGreatDoorW.PrintWords Go.Proofs.YtpihpkphhkcdlaaGreatDoorW.PrintLast Go.Proofs.YtpihpkphhkcdlaaGreatDoor.Tab Go.Proofs.YtpihpkphhkcdlaaGreatDoor.Kp Go.Proofs.YtpihpkphhkcdlaaGreatDoor.Pd Go.Proofs.YtpihpkphhkcdlaaGreatDoor.Fr Go.Proofs.YtpihpkphhkcdlaaGreatDoor.May Go.Proofs.YtpihpkphhkcdlaaGreatDoor.De Go.Proofs.YtpihpkphhkcdlaaGreatDoor.Sk Go.Proofs.YtpihpkphhkcdlaaGreatDoor.Eq
set_option linter.unusedVariables false
set_option linter.unusedSimpArgs false
theorem eql_rs (ad : Addr) (n c : Nat) (W : World) : (binOp .eql 42 (.slice (some ad) n c) (.slice none 0 0)).run Tryz.prog W = .ok (.bool false) W := by kernel_rfl
theorem eql_rn (n c : Nat) (W : World) : (binOp .eql 42 (.slice none n c) (.slice none 0 0)).run Tryz.prog W = .ok (.bool true) W := by kernel_rfl
theorem recs_cells {w : World} {gr : Nat} {win : Int} {rs : List Rec} (hc : ∀ (i : Nat) (hi : i < rs.length) (k : Nat) (v : Value), (recC win rs[i])[k]? = some v → w.cell? ⟨gr, i * 5 + k, none⟩ = some v) (j : Nat) (u : Value) (h : (recsC win rs)[j]? = some u) : w.cell? ⟨gr, j, none⟩ = some u := by
  have hlen : ∀ l : List Rec, (recsC win l).length = l.length * 5 := by
    intro l
    induction l with
    | nil => rfl
    | cons r t ih =>
      have e : recsC win (r :: t) = recC win r ++ recsC win t := rfl
      rw [e, List.length_append, ih]
      simp [recC]
      omega
  have hj : j < rs.length * 5 := by
    have := (List.getElem?_eq_some_iff.1 h).1
    rw [hlen] at this
    exact this
  have hi : j / 5 < rs.length := by omega
  have hk : j % 5 < 5 := Nat.mod_lt _ (by decide)
  have h5 : (recC win rs[j / 5]).length = 5 := rfl
  have hg := recs_get win rs (j / 5) hi (j % 5) ((recC win rs[j / 5])[j % 5]'(by omega)) (List.getElem?_eq_getElem (by omega))
  rw [show j / 5 * 5 + j % 5 = j by omega, h] at hg
  have h2 := hc (j / 5) hi (j % 5) u (by rw [List.getElem?_eq_getElem (by omega)]; exact hg.symm)
  rw [show j / 5 * 5 + j % 5 = j by omega] at h2
  exact h2
theorem recsC_len (win : Int) (l : List Rec) : (recsC win l).length = l.length * 5 := by
  induction l with
  | nil => rfl
  | cons r t ih =>
    have e : recsC win (r :: t) = recC win r ++ recsC win t := rfl
    rw [e, List.length_append, ih]
    simp [recC]
    omega
theorem recs_one (win : Int) (l : List Rec) : ∀ u ∈ recsC win l, u.oneCell' = true := by
  intro u hu
  unfold recsC at hu
  obtain ⟨r, _, hr⟩ := List.mem_flatMap.1 hu
  simp only [recC, List.mem_cons, List.not_mem_nil, or_false] at hr
  rcases hr with rfl | rfl | rfl | rfl | rfl <;> rfl
theorem recs_add {w W : World} {ad : Addr} {win : Int} {rs : List Rec} (h : RecsAt w (some ad) win rs) (hb : Below w.heap.size w W) (j : Nat) (u : Value) (hj : (recsC win rs)[j]? = some u) : W.cell? (ad.add j) = some u := by
  have hp : 0 < rs.length := by
    have := (List.getElem?_eq_some_iff.1 hj).1
    rw [recsC_len] at this
    omega
  obtain ⟨g, e, hg, hc⟩ := h.2 hp
  have e2 : ad = ⟨g, 0, none⟩ := by injection e
  subst e2
  have h2 := pw_cell_below hb (recs_cells hc j u hj)
  have h3 : (⟨g, 0, none⟩ : Addr).add j = ⟨g, j, none⟩ := add_plain _ _
  exact (congrArg W.cell? h3).trans h2
theorem own_none (W : World) (win : Int) : (W.alloc (.cells #[] 73)).ownsRow W.heap.size 73 5 (.slice (some ⟨W.heap.size, 0, none⟩) 0 0) 0 [] :=
  ⟨rfl, .inr ⟨W.heap.size, 0, #[], rfl, Nat.le_refl _, blk_new W _, Nat.le_refl _, Nat.zero_le _, rfl, rfl⟩⟩
set_option maxHeartbeats 4000000 in
set_option maxRecDepth 100000 in
theorem rclone_calls (Ar : Option Addr) (cr : Nat) (win : Int) (rs : List Rec) (w : World) (h : RecsAt w Ar win rs) (hl : rs.length ≤ cr) (hm : rs.length ≤ 1000000) :
    Calls Tryz.prog 47 #[.slice Ar rs.length cr] w fun e w' => ∃ A' c', e = .returned (.slice A' rs.length c') ∧ rs.length ≤ c' ∧ RecsAt w' A' win rs ∧ (∀ a, A' = some a → w.heap.size ≤ a.block) ∧ Below w.heap.size w w' := by
  cases Ar with
  | none =>
    have h0 : rs.length = 0 := by
      by_cases hp : 0 < rs.length
      · obtain ⟨g, e, _⟩ := h.2 hp
        cases e
      · omega
    have HH := Aside0.mk h
    have H0 := Aside0.mk h0
    have hq := eql_rn
    clear h hl hm
    rw [h0]
    clear h0
    go_enter Tryz.func47, Tryz.ntmps47
    go_wp2
    go_ret
    exact ⟨none, 0, rfl, Nat.le_refl _, HH.out, fun a e => (by cases e), Below.refl _ _⟩
  | some ad =>
    have hq := eql_rs
    have HH := Aside0.mk h
    have HM := Aside0.mk (And.intro hl hm)
    clear h hl hm
    go_enter Tryz.func47, Tryz.ntmps47
    obtain ⟨i0, hi0, hz0, hz1, hz2⟩ := info_parts rec_info
    have HIX := Aside0.mk (And.intro hi0 (And.intro hz0 (And.intro hz1 hz2)))
    clear hi0 hz0 hz1 hz2
    have HO := Aside0.mk (own_none w win)
    go_wp2_with (first | (at_builtin; refine wpList_append_own _ rfl (.tmp 5) (.tmp 6) 42 rfl w.heap.size 73 i0 (.agg #[.string ⟨#[]⟩, .int .i64 0, .int .i64 0, .int .i64 0, .bool false]) 5 48 Tryz.underlying42 HIX.out.1 HIX.out.2.1 HIX.out.2.2.1 HIX.out.2.2.2 rfl (by decide) (.slice (some ⟨w.heap.size, 0, none⟩) 0 0) 0 [] rfl HO.out ad rs.length cr (recsC win rs) rfl (recsC_len win rs) ?aC ?aO ?aM ?aB ?aH ?_; (case aC => exact fun j u hj => recs_add HH.out (below_alloc (Below.refl _ _) _) j u hj); (case aO => exact recs_one win rs); (case aM => have := HM.out; unfold maxLen; omega); (case aB => have := HM.out; omega); (case aH => simp); intro v' w10 hown hgr _; have HY := Aside0.mk (And.intro hown hgr); clear hown hgr))
    go_ret
    have hY := HY.out.1
    rw [Nat.zero_add, List.nil_append] at hY
    have hb : Below w.heap.size w w10 := (below_alloc (Below.refl w.heap.size w) (.cells #[] 73)).grown HY.out.2 (by simp) (fun k e => by have h := Option.some.inj e; exact Nat.le_of_eq h)
    obtain ⟨A', c', rfl⟩ : ∃ A' c', v' = .slice A' rs.length c' := by
      rcases hY.2 with ⟨e, h0⟩ | ⟨g', cap', cur', e, _⟩
      · exact ⟨none, 0, by rw [e, h0]⟩
      · exact ⟨_, _, e⟩
    exact ⟨A', c', rfl, own_le hY, recsAt_of_row hY (by have := HM.out; omega), fun a e => own_base hY a.block (by rw [e]; rfl), hb⟩
theorem blk_b {w W : World} {g : Nat} {o : Obj} (h : w.heap[g]? = some o) (hb : Below w.heap.size w W) : W.heap[g]? = some o := (hb.block g (blk_lt h)).trans h
theorem results_c1 {P : Program} {fn : Func} {p : Tmp} {ty : TypeId} (h : fn.results = #[.cell p ty]) (tmps : Array Value) (w : World) (g : Nat) (t : TypeId) (cs : Array Value) (fr : Nat × Nat) (d : TypeDesc)
    (hp : tmps.getD p undef = .pointer (some ⟨g, 0, none⟩)) (hg : w.heap[g]? = some (.cells cs t fr))
    (hu : P.underlying ty = some d) (hd : (match d with | .struct _ | .array _ _ => true | _ => false) = true) (hi : (P.info? ty).map (·.size) = some cs.size) :
    (results fn tmps).run P w = .ok (.agg cs) w := by
  have hp' : tmps[p]?.getD undef = .pointer (some ⟨g, 0, none⟩) := by simpa using hp
  simp [results, h, hp', asAddr, run_loadVar_row w g t ty cs fr d hg hu hd hi]
theorem f44 (a b : Value) (A : Option Addr) (n c : Nat) (W : World) : (Instr.field 44 (.agg #[a, b, .slice A n c]) 2).run Tryz.prog W = .ok (.slice A n c) W := by kernel_rfl
set_option maxHeartbeats 4000000 in
set_option maxRecDepth 100000 in
theorem copied_calls (s : Int) (Ar : Option Addr) (cr : Nat) (win : Int) (rs : List Rec) (w : World) (h : RecsAt w Ar win rs) (hl : rs.length ≤ cr) (hm : rs.length ≤ 1000000) :
    Calls Tryz.prog 28 #[.agg #[.int .u64 s, .int .i64 win, .slice Ar rs.length cr]] w fun e w' => ∃ A' c', e = .returned (.agg #[.int .u64 s, .int .i64 win, .slice A' rs.length c']) ∧ rs.length ≤ c' ∧ RecsAt w' A' win rs ∧ (∀ a, A' = some a → w.heap.size ≤ a.block) ∧ Below w.heap.size w w' := by
  have HH := Aside0.mk h
  have HM := Aside0.mk (And.intro hl hm)
  clear h hl hm
  go_enter Tryz.func28, Tryz.ntmps28
  go_upto_region 2 with (first | (go_at_call 47; (with_reducible refine (rclone_calls Ar cr win rs _ (HH.out.below (below_alloc (below_alloc (Below.refl _ _) _) _)) HM.out.1 HM.out.2).mono ?_); rintro e_ w3 ⟨A', c', rfl, h1, h2, h3, h4⟩; have H3 := Aside0.mk (And.intro h1 (And.intro h2 (And.intro h3 h4))); clear h1 h2 h3 h4; have B1 := Aside0.mk (blk_b (blk_b (blk_new w (.cells #[.int .u64 s, .int .i64 win, .slice Ar rs.length cr] 44)) (below_alloc (Below.refl _ _) _)) H3.out.2.2.2); have B2 := Aside0.mk (blk_b (blk_new _ _) H3.out.2.2.2); have c2 := blk_cell B1.out 2; have f2 := blk_frozen B1.out 2))
  have HSZ := Aside0.mk (show (Tryz.prog.info? 44).map (·.size) = some 3 from by kernel_rfl)
  have HB2 := Aside0.mk (blk_put B1.out 2 (.slice A' rs.length c') rfl)
  have HB3 := Aside0.mk (show (w3.setCell ⟨w.heap.size, 2, none⟩ (.slice A' rs.length c')).heap[w.heap.size + 1]? = some (.cells #[.int .u64 0, .int .i64 0, .slice none 0 0] 44 (0, 0)) from by
    have h := B2.out
    rw [World.size_alloc] at h
    exact (Below.heap_setCell w3 ⟨w.heap.size, 2, none⟩ _ (w.heap.size + 1) (by simp)).trans h)
  have HK3 := Aside0.mk (show Keep (fun j => w.heap.size ≤ j) w (w3.setCell ⟨w.heap.size, 2, none⟩ (.slice A' rs.length c')) from ((((Keep.refl (fun j => w.heap.size ≤ j) w).alloc _).alloc _).step H3.out.2.2.2).set (g := w.heap.size) (Nat.le_refl _) 2 _)
  have HR3 := Aside0.mk (show RecsAt (w3.setCell ⟨w.heap.size, 2, none⟩ (.slice A' rs.length c')) A' win rs from Sk.RecsAt.keep H3.out.2.1 ((Keep.refl (fun j => j = w.heap.size) w3).set (g := w.heap.size) rfl 2 _) (fun ad e hp => by have := H3.out.2.2.1 ad e; simp only [World.size_alloc] at this; omega))
  have HON := Aside0.mk (show (#[.int .u64 s, .int .i64 win, .slice A' rs.length c'] : Array Value).all (·.oneCell') = true from by simp [Value.oneCell'])
  clear c2 f2
  generalize w3.setCell ⟨w.heap.size, 2, none⟩ (.slice A' rs.length c') = W3 at HB2 HB3 HK3 HR3 ⊢
  go_wp2_with (first | (refine wpList_load_row rfl 44 (.tmp 1) rfl w.heap.size rfl 44 #[.int .u64 s, .int .i64 win, .slice A' rs.length c'] (0, 0) _ HB2.out Tryz.underlying44 rfl HSZ.out ?_) | (refine wpList_store_row rfl 44 (.tmp 2) (.tmp 7) rfl (w.heap.size + 1) #[.int .u64 s, .int .i64 win, .slice A' rs.length c'] rfl rfl 44 #[.int .u64 0, .int .i64 0, .slice none 0 0] HB3.out HSZ.out rfl HON.out ?_))
  have HF := Aside0.mk (setRow_heap W3 (w.heap.size + 1) _ #[.int .u64 s, .int .i64 win, .slice A' rs.length c'] 44 (0, 0) HB3.out)
  try simp only [Exit.inBlock, Exit.then]
  refine bodyPost_ret (results_c1 rfl _ _ (w.heap.size + 1) 44 _ (0, 0) _ rfl HF.out Tryz.underlying44 rfl HSZ.out) rfl ?_
  have HK4 := below_setRow (Below.refl (w.heap.size + 1) W3) (Nat.le_refl _) #[.int .u64 s, .int .i64 win, .slice A' rs.length c']
  have hA := H3.out.2.2.1
  simp only [World.size_alloc] at hA
  have hK5 : Keep (fun j => j = w.heap.size + 1) W3 (W3.setRow (w.heap.size + 1) #[.int .u64 s, .int .i64 win, .slice A' rs.length c']) := by
    have hlt := blk_lt HB3.out
    refine ⟨HK4.os, HK4.tape, HK4.output, ?_, fun k hk hn => ?_⟩
    · have h := HF.out
      simp
    · exact setRow_other _ _ _ _ hn
  refine ⟨A', c', rfl, H3.out.1, Sk.RecsAt.keep HR3.out hK5 (fun ad e hp => by have := hA ad e; omega), fun a e => by have := hA a e; omega, ?_⟩
  exact (HK3.out.trans hK5 (fun i hi e => by omega)).below (B := w.heap.size) (fun k h => h) (Nat.le_refl _)
end Go.Proofs.YtpihpkphhkcdlaaGreatDoor.Cr
namespace Go.Proofs.YtpihpkphhkcdlaaGreatDoor.Sd
open Go.RowKit Go.Maps Go.Proofs.YtpihpkphhkcdlaaGreatDoorW.PrintWords Go.Proofs.YtpihpkphhkcdlaaGreatDoorW.PrintLast Go.Proofs.YtpihpkphhkcdlaaGreatDoor.Tab Go.Proofs.YtpihpkphhkcdlaaGreatDoor.Kp Go.Proofs.YtpihpkphhkcdlaaGreatDoor.Pd Go.Proofs.YtpihpkphhkcdlaaGreatDoor.Sk Go.Proofs.YtpihpkphhkcdlaaGreatDoor.So Go.Proofs.YtpihpkphhkcdlaaGreatDoor.Ku Go.Proofs.YtpihpkphhkcdlaaGreatDoor.Cr
set_option linter.unusedVariables false
set_option linter.unusedSimpArgs false
theorem two_of {ss : List Int} (h : ss.Nodup) (h2 : ∀ x, x ∈ ss ↔ x = 1 ∨ x = 3) : ss = [1, 3] ∨ ss = [3, 1] := by
  match ss, h, h2 with
  | [], _, h2 => exact absurd ((h2 1).2 (.inl rfl)) (by simp)
  | [a], _, h2 =>
    have h1 := (h2 1).2 (.inl rfl)
    have h3 := (h2 3).2 (.inr rfl)
    simp at h1 h3
    omega
  | [a, b], h, h2 =>
    have ha := (h2 a).1 (by simp)
    have hb := (h2 b).1 (by simp)
    have hn : a ≠ b := by simpa using h
    rcases ha with rfl | rfl <;> rcases hb with rfl | rfl
    · exact absurd rfl hn
    · exact .inl rfl
    · exact .inr rfl
    · exact absurd rfl hn
  | a :: b :: c :: t, h, h2 =>
    have ha := (h2 a).1 (by simp)
    have hb := (h2 b).1 (by simp)
    have hc := (h2 c).1 (by simp)
    have hab : a ≠ b ∧ a ≠ c ∧ b ≠ c := by
      simp at h
      omega
    omega
set_option maxHeartbeats 4000000 in
set_option maxRecDepth 100000 in
theorem sorted_calls (Bm b nn : Nat) (D0 : DataW Value) (w : World) (hBm : Bm < w.heap.size)
    (hm : w.cell? ⟨Bm, 0, none⟩ = some (.map (some b))) (hown : w.ownsMap Tryz.prog 40 kR b nn D0) (hmax : Maps.size D0 ≤ 1000000) (h2 : ∀ x, has D0 (.int .u64 x) = true ↔ x = 1 ∨ x = 3) :
    Calls Tryz.prog 31 #[.func (.func 50) #[] #[.pointer (some ⟨Bm, 0, none⟩)]] w fun e W' => ∃ g cap r, e = .returned (.slice (some ⟨g, 0, none⟩) 2 cap) ∧ w.heap.size ≤ g ∧ 2 ≤ cap ∧ W'.heap[g]? = some (.cells (two 1 3 r) 40 (0, 0)) ∧ Below w.heap.size w W' := by
  have HC := Aside0.mk (collect_calls Bm b nn D0 w hBm hm hown hmax)
  have H2 := Aside0.mk h2
  clear hBm hm hown hmax h2
  go_enter Tryz.func31, Tryz.ntmps31
  go_upto_region 2 with (first | (go_at_call 48; (with_reducible refine HC.out.mono ?_); rintro e_ w1 ⟨v, ss, rfl, ⟨h1, h2⟩, h3, h4⟩; have HX := Aside0.mk (And.intro h1 (And.intro h2 (And.intro h3 h4))); clear h1 h2 h3 h4))
  obtain ⟨x, y, g, cap, r, hxy, rfl, hg, hcap, hrow⟩ : ∃ x y g cap r, (x = 1 ∧ y = 3 ∨ x = 3 ∧ y = 1) ∧ v = .slice (some ⟨g, 0, none⟩) 2 cap ∧ w.heap.size ≤ g ∧ 2 ≤ cap ∧ w1.heap[g]? = some (.cells (two x y r) 40 (0, 0)) := by
    obtain ⟨hnd, hmem, hrow, _⟩ := HX.out
    have hss := two_of hnd (fun x => (hmem x).trans (H2.out x))
    obtain ⟨x, y, hxy, rfl⟩ : ∃ x y : Int, (x = 1 ∧ y = 3 ∨ x = 3 ∧ y = 1) ∧ ss = [x, y] := by
      rcases hss with rfl | rfl
      · exact ⟨1, 3, .inl ⟨rfl, rfl⟩, rfl⟩
      · exact ⟨3, 1, .inr ⟨rfl, rfl⟩, rfl⟩
    rcases hrow.2 with ⟨_, h0⟩ | ⟨g, cap, cur, rfl, hg, hb, h3, h4, h5, h6⟩
    · exact absurd h0 (by simp)
    · obtain ⟨cl⟩ := cur
      match cl, h5, h6 with
      | [], h5, h6 => exact absurd h6 (by simp)
      | [_], h5, h6 => exact absurd h6 (by simp)
      | p :: q :: r, h5, h6 =>
        simp at h6
        obtain ⟨rfl, rfl⟩ := h6
        exact ⟨x, y, g, cap, r, hxy, rfl, hg, h3, hb⟩
  have HR := Aside0.mk (And.intro hxy (And.intro hg (And.intro hcap hrow)))
  clear hxy hg hcap hrow
  go_wp2_with (first | (go_at_call 49; (with_reducible refine (sort_calls g cap r x y HR.out.1 _ HR.out.2.2.2).mono ?_); rintro e_ w2 ⟨rfl, h1, h2⟩; have HY := Aside0.mk (And.intro h1 h2); clear h1 h2))
  go_ret
  refine ⟨g, cap, r, rfl, HR.out.2.1, HR.out.2.2.1, HY.out.1, ?_⟩
  exact (((Keep.refl (fun j => j = g) w).mono (F := fun j => w.heap.size ≤ j) (fun i hi e => by have := HR.out.2.1; omega)).step HX.out.2.2.2 |>.trans HY.out.2 (fun i hi e => by have := HR.out.2.1; omega)).below (B := w.heap.size) (fun k h => h) (Nat.le_refl _)
end Go.Proofs.YtpihpkphhkcdlaaGreatDoor.Sd
namespace Go.Proofs.YtpihpkphhkcdlaaGreatDoor.Al
open Go.RowKit Go.Maps Go.Shelf Go.Proofs.YtpihpkphhkcdlaaGreatDoorW.PrintWords Go.Proofs.YtpihpkphhkcdlaaGreatDoorW.PrintLast Go.Proofs.YtpihpkphhkcdlaaGreatDoor.Tab Go.Proofs.YtpihpkphhkcdlaaGreatDoor.Kp Go.Proofs.YtpihpkphhkcdlaaGreatDoor.Pd Go.Proofs.YtpihpkphhkcdlaaGreatDoor.Fr Go.Proofs.YtpihpkphhkcdlaaGreatDoor.May Go.Proofs.YtpihpkphhkcdlaaGreatDoor.De Go.Proofs.YtpihpkphhkcdlaaGreatDoor.Sk Go.Proofs.YtpihpkphhkcdlaaGreatDoor.Lk Go.Proofs.YtpihpkphhkcdlaaGreatDoor.So Go.Proofs.YtpihpkphhkcdlaaGreatDoor.Ku Go.Proofs.YtpihpkphhkcdlaaGreatDoor.Cr Go.Proofs.YtpihpkphhkcdlaaGreatDoor.Sd Go.Proofs.YtpihpkphhkcdlaaGreatDoor.Cp
set_option linter.unusedVariables false
set_option linter.unusedSimpArgs false
attribute [local go_sem] Oper.semAt_some
/-- A box holds a row that begins at block g. -/
def RowIs (W : World) (Bo g : Nat) : Prop := ∃ n c, W.heap[Bo]? = some (.cells #[.slice (some ⟨g, 0, none⟩) n c] 61 (0, 0))
/-- What a round keeps: all cells and maps but two boxes and the row that the first one holds. -/
structure Kq (Bo Bn : Nat) (A B : World) : Prop where
  size : A.heap.size ≤ B.heap.size
  block : ∀ k o, A.heap[k]? = some o → (o.isCells = true ∨ o.isWalk = true) → k ≠ Bo → k ≠ Bn → (∀ j, RowIs A Bo j → k < j) → B.heap[k]? = some o
  row : ∀ k, RowIs B Bo k → (∃ j, RowIs A Bo j ∧ j ≤ k) ∨ A.heap.size ≤ k
theorem Kq.trans {Bo Bn : Nat} {A B C : World} (h : Kq Bo Bn A B) (k : Kq Bo Bn B C) : Kq Bo Bn A C :=
  ⟨Nat.le_trans h.size k.size, fun i o hi ho h1 h2 h3 => k.block i o (h.block i o hi ho h1 h2 h3) ho h1 h2 (fun j hr => (h.row j hr).elim (fun ⟨j0, hj, hl⟩ => Nat.lt_of_lt_of_le (h3 j0 hj) hl) (fun hl => by have := blk_lt hi; omega)), fun i hr => (k.row i hr).elim (fun ⟨j, hj, hl⟩ => (h.row j hj).elim (fun ⟨j0, hj0, hl0⟩ => .inl ⟨j0, hj0, Nat.le_trans hl0 hl⟩) (fun h4 => .inr (Nat.le_trans h4 hl))) (fun hl => .inr (Nat.le_trans h.size hl))⟩
theorem Kq.put {Bo Bn : Nat} {w : World} (hB : Bo < w.heap.size) (W : World) (l : Nat) (o o' : Obj) (hl : w.heap.size ≤ l) (h : W.heap[l]? = some o) (hc : o.isCells = false) (hw : o.isWalk = false) : Kq Bo Bn W (W.putObj l o') := by
  refine ⟨by simp, fun k x hk hx h1 h2 h3 => ?_, fun k hr => .inl ⟨k, ?_, Nat.le_refl _⟩⟩
  · have hkl : k ≠ l := by
      intro e
      subst e
      rw [h] at hk
      injection hk with hk
      subst hk
      rcases hx with hx | hx
      · rw [hc] at hx; cases hx
      · rw [hw] at hx; cases hx
    exact (World.putObj_heap_other hkl).trans hk
  · obtain ⟨n, c, e⟩ := hr
    exact ⟨n, c, (World.putObj_heap_other (by omega)).symm.trans e⟩
/-- What lay below n and is neither box lies as it lay; the box's row lies at n or beyond. -/
structure St (Bo Bn n : Nat) (A B : World) : Prop where
  le : n ≤ B.heap.size
  kept : ∀ k o, k < n → k ≠ Bo → k ≠ Bn → A.heap[k]? = some o → (o.isCells = true ∨ o.isWalk = true) → B.heap[k]? = some o
  row : ∀ k, RowIs B Bo k → n ≤ k
theorem St.kq {Bo Bn n : Nat} {A B C : World} (h : St Bo Bn n A B) (k : Kq Bo Bn B C) : St Bo Bn n A C :=
  ⟨Nat.le_trans h.le k.size, fun i o hi h1 h2 ha ho => k.block i o (h.kept i o hi h1 h2 ha ho) ho h1 h2 (fun j hr => by have := h.row j hr; omega), fun i hr => (k.row i hr).elim (fun ⟨j, hj, hl⟩ => Nat.le_trans (h.row j hj) hl) (fun hl => Nat.le_trans h.le hl)⟩
theorem St.step {Bo Bn n : Nat} {A B C : World} (hb : Bo < n) (h : St Bo Bn n A B) (k : Below B.heap.size B C) : St Bo Bn n A C :=
  ⟨Nat.le_trans h.le k.size, fun i o hi h1 h2 ha ho => (k.block i (Nat.lt_of_lt_of_le hi h.le)).trans (h.kept i o hi h1 h2 ha ho), fun i hr => h.row i (by
    obtain ⟨n1, c, e⟩ := hr
    exact ⟨n1, c, (k.block Bo (Nat.lt_of_lt_of_le hb h.le)).symm.trans e⟩)⟩
theorem St.cells {Bo Bn n k : Nat} {A B : World} {cs : Array Value} {t : TypeId} {fr : Nat × Nat} (h : St Bo Bn n A B) (hk : A.heap[k]? = some (.cells cs t fr)) (h0 : k < n) (h1 : k ≠ Bo) (h2 : k ≠ Bn) : B.heap[k]? = some (.cells cs t fr) :=
  h.kept k _ h0 h1 h2 hk (.inl rfl)
theorem St.cell {Bo Bn n : Nat} {A B : World} {p : Addr} {v : Value} (h : St Bo Bn n A B) (hc : A.cell? p = some v) (h0 : p.block < n) (h1 : p.block ≠ Bo) (h2 : p.block ≠ Bn) : B.cell? p = some v := by
  unfold World.cell? at hc ⊢
  cases hb : A.heap[p.block]? with
  | none => rw [hb] at hc; cases hc
  | some o =>
    cases o with
    | cells cs t fr => rw [hb] at hc; rw [h.cells hb h0 h1 h2]; exact hc
    | _ => rw [hb] at hc; cases hc
theorem St.map {Bo Bn n b nn : Nat} {A B : World} {D : DataW Value} (h : St Bo Bn n A B) (hm : A.ownsMap Tryz.prog 40 kR b nn D) (h0 : b < n) (h1 : b ≠ Bo) (h2 : b ≠ Bn) : B.ownsMap Tryz.prog 40 kR b nn D := by
  obtain ⟨es, clock, hb, r⟩ := hm
  exact ⟨es, clock, h.kept b _ h0 h1 h2 hb (.inr rfl), r⟩
theorem St.recs {Bo Bn n : Nat} {A B : World} {Ar : Option Addr} {win : Int} {rs : List Rec} (h : St Bo Bn n A B) (hr : RecsAt A Ar win rs) (hn : A.heap.size ≤ n) (ho : ∀ ad, Ar = some ad → 0 < rs.length → ad.block ≠ Bo ∧ ad.block ≠ Bn) : RecsAt B Ar win rs :=
  ⟨hr.1, fun hp => by
    obtain ⟨gr, e, hl, hc⟩ := hr.2 hp
    have h2 := ho _ e hp
    exact ⟨gr, e, by have := h.le; omega, fun i hi k v hv => h.cell (hc i hi k v hv) (by dsimp only; omega) h2.1 h2.2⟩⟩
/-- A frame that is handed to a round. -/
abbrev FX := { s : Int // 0 ≤ s ∧ s ≤ 3 } × Int × Option Addr × Nat × Nat
def encF (x : FX) : Array Value := #[.agg #[.int .u64 x.1.1, .int .i64 x.2.1, .slice x.2.2.1 x.2.2.2.1 x.2.2.2.2]]
theorem f71 (a b c d : Value) (W : World) : (Instr.field 71 (.agg #[a, b, c, d]) 0).run Tryz.prog W = .ok (.agg #[a, b, c]) W := by kernel_rfl
/-- All of a sink: a closure over a box of its copy. -/
theorem all_calls (ok : Nat → Prop) (g ml mw : Nat) (k : K) (c : List Int) (w : World) (hS : IsS w ok g ml mw k c) (hk : k.length ≤ 1000000) :
    Calls Tryz.prog 16 #[.pointer (some ⟨g, 0, none⟩)] w fun e w' => ∃ B, e = .returned (.func (.func 30) #[] #[.pointer (some ⟨B, 0, none⟩)]) ∧ w'.heap[B]? = some (.cells #[.pointer (some ⟨w.heap.size + 1 + 1, 0, none⟩)] 25 (0, 0)) ∧ w.heap.size + 1 + 1 < B ∧ IsS w' (fun j => ok j ∧ j < w.heap.size) (w.heap.size + 1 + 1) w.heap.size (w.heap.size + 1) k c ∧ Below w.heap.size w w' := by
  have HC := Aside0.mk (copy_calls ok g ml mw k c w hS hk)
  clear hS hk
  go_enter Tryz.func16, Tryz.ntmps16
  go_wp2_with (first | (go_at_call 21; (with_reducible refine HC.out.mono ?_); rintro e_ w1 ⟨rfl, h1, h2⟩; have HX := Aside0.mk (And.intro h1 h2); clear h1 h2))
  go_ret
  exact ⟨w1.heap.size, rfl, blk_new _ _, blk_lt HX.out.1.blk, HX.out.1.below (below_alloc (Below.refl _ _) _), HX.out.2.trans ((below_alloc (Below.refl _ _) _).mono HX.out.2.size)⟩
theorem all_nil (w : World) : Calls Tryz.prog 16 #[.pointer none] w fun e w' => e = .returned (.func (.func 30) #[] #[.pointer (some ⟨w.heap.size, 0, none⟩)]) ∧ w' = w.alloc (.cells #[.pointer none] 25) := by
  go_enter Tryz.func16, Tryz.ntmps16
  go_wp2_with (first | (go_at_call 21; (with_reducible refine (copy_nil _).mono ?_); rintro e_ w1 ⟨rfl, rfl⟩))
  go_ret
  exact ⟨rfl, rfl⟩
end Go.Proofs.YtpihpkphhkcdlaaGreatDoor.Al
