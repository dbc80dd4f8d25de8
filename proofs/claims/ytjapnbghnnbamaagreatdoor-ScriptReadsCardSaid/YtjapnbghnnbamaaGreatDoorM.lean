/- script.May: may an entry be? -/
import Derived.Test.YtjapnbghnnbamaaGreatDoorL
namespace Go.Proofs.YtjapnbghnnbamaaGreatDoor.M
open Go.RowKit Go.Proofs.YtjapnbghnnbamaaGreatDoorW.PrintWords Go.Proofs.YtjapnbghnnbamaaGreatDoorW.PrintLast Go.Proofs.YtjapnbghnnbamaaGreatDoor.Ext Go.Proofs.YtjapnbghnnbamaaGreatDoor.Q Go.Proofs.YtjapnbghnnbamaaGreatDoor.S Go.Proofs.YtjapnbghnnbamaaGreatDoor.L
set_option linter.unusedVariables false
set_option linter.unusedSimpArgs false
theorem nlen {b : List UInt8} (h : b ≠ []) : ((b.length : Int) == 0) = false := beq_eq_false_iff_ne.mpr (fun e => h (List.length_eq_zero_iff.1 (by omega)))
theorem ylen {b : List UInt8} (h : b = []) : ((b.length : Int) == 0) = true := by rw [h]; rfl
theorem ne_ {a n : Int} (h : a ≠ n) : (a == n) = false := beq_eq_false_iff_ne.mpr h
set_option maxHeartbeats 4000000 in
set_option maxRecDepth 100000 in
theorem may1 (a n : Int) (b : List UInt8) (A : Option Addr) (c : Nat) (w : World) (h1 : a = 0) (h2 : 0 ≤ n) (h3 : n ≤ 1125899906842624) (h4 : b = []) : Calls Tryz.prog 10 #[.agg #[.int .i64 1, .int .i64 a, .int .i64 n, .slice A b.length c]] w fun x w' => x = .returned (.bool true) ∧ Below w.heap.size w w' := by
  have f4 := ylen h4
  clear h4
  subst h1
  go_enter Tryz.func10, Tryz.ntmps10
  go_wp2
  all_goals go_ret
  all_goals exact ⟨rfl, below_alloc (Below.refl _ _) _⟩
set_option maxHeartbeats 4000000 in
set_option maxRecDepth 100000 in
theorem may1a (a n : Int) (b : List UInt8) (A : Option Addr) (c : Nat) (w : World) (h1 : a ≠ 0) : Calls Tryz.prog 10 #[.agg #[.int .i64 1, .int .i64 a, .int .i64 n, .slice A b.length c]] w fun x w' => x = .returned (.bool false) ∧ Below w.heap.size w w' := by
  have f1 := ne_ h1
  clear h1
  go_enter Tryz.func10, Tryz.ntmps10
  go_wp2
  all_goals go_ret
  all_goals exact ⟨rfl, below_alloc (Below.refl _ _) _⟩
set_option maxHeartbeats 4000000 in
set_option maxRecDepth 100000 in
theorem may1b (a n : Int) (b : List UInt8) (A : Option Addr) (c : Nat) (w : World) (h1 : a = 0) (h2 : n < 0) : Calls Tryz.prog 10 #[.agg #[.int .i64 1, .int .i64 a, .int .i64 n, .slice A b.length c]] w fun x w' => x = .returned (.bool false) ∧ Below w.heap.size w w' := by
  subst h1
  go_enter Tryz.func10, Tryz.ntmps10
  go_wp2
  all_goals go_ret
  all_goals exact ⟨rfl, below_alloc (Below.refl _ _) _⟩
set_option maxHeartbeats 4000000 in
set_option maxRecDepth 100000 in
theorem may1c (a n : Int) (b : List UInt8) (A : Option Addr) (c : Nat) (w : World) (h1 : a = 0) (h2 : 0 ≤ n) (h3 : 1125899906842624 < n) : Calls Tryz.prog 10 #[.agg #[.int .i64 1, .int .i64 a, .int .i64 n, .slice A b.length c]] w fun x w' => x = .returned (.bool false) ∧ Below w.heap.size w w' := by
  subst h1
  go_enter Tryz.func10, Tryz.ntmps10
  go_wp2
  all_goals go_ret
  all_goals exact ⟨rfl, below_alloc (Below.refl _ _) _⟩
set_option maxHeartbeats 4000000 in
set_option maxRecDepth 100000 in
theorem may1d (a n : Int) (b : List UInt8) (A : Option Addr) (c : Nat) (w : World) (h1 : a = 0) (h2 : 0 ≤ n) (h3 : n ≤ 1125899906842624) (h4 : b ≠ []) : Calls Tryz.prog 10 #[.agg #[.int .i64 1, .int .i64 a, .int .i64 n, .slice A b.length c]] w fun x w' => x = .returned (.bool false) ∧ Below w.heap.size w w' := by
  have f4 := nlen h4
  clear h4
  subst h1
  go_enter Tryz.func10, Tryz.ntmps10
  go_wp2
  all_goals go_ret
  all_goals exact ⟨rfl, below_alloc (Below.refl _ _) _⟩
set_option maxHeartbeats 4000000 in
set_option maxRecDepth 100000 in
theorem may7_0 (a n : Int) (b : List UInt8) (A : Option Addr) (c : Nat) (w : World) (h1 : a = 0) (h2 : n = 0) (h4 : b = []) : Calls Tryz.prog 10 #[.agg #[.int .i64 7, .int .i64 a, .int .i64 n, .slice A b.length c]] w fun x w' => x = .returned (.bool true) ∧ Below w.heap.size w w' := by
  have f4 := ylen h4
  clear h4
  subst h1
  subst h2
  go_enter Tryz.func10, Tryz.ntmps10
  go_wp2
  all_goals go_ret
  all_goals exact ⟨rfl, below_alloc (Below.refl _ _) _⟩
set_option maxHeartbeats 4000000 in
set_option maxRecDepth 100000 in
theorem may7_1 (a n : Int) (b : List UInt8) (A : Option Addr) (c : Nat) (w : World) (h1 : a = 0) (h2 : n = 1) (h4 : b = []) : Calls Tryz.prog 10 #[.agg #[.int .i64 7, .int .i64 a, .int .i64 n, .slice A b.length c]] w fun x w' => x = .returned (.bool true) ∧ Below w.heap.size w w' := by
  have f4 := ylen h4
  clear h4
  subst h1
  subst h2
  go_enter Tryz.func10, Tryz.ntmps10
  go_wp2
  all_goals go_ret
  all_goals exact ⟨rfl, below_alloc (Below.refl _ _) _⟩
set_option maxHeartbeats 4000000 in
set_option maxRecDepth 100000 in
theorem may7a (a n : Int) (b : List UInt8) (A : Option Addr) (c : Nat) (w : World) (h1 : a ≠ 0) : Calls Tryz.prog 10 #[.agg #[.int .i64 7, .int .i64 a, .int .i64 n, .slice A b.length c]] w fun x w' => x = .returned (.bool false) ∧ Below w.heap.size w w' := by
  have f1 := ne_ h1
  clear h1
  go_enter Tryz.func10, Tryz.ntmps10
  go_wp2
  all_goals go_ret
  all_goals exact ⟨rfl, below_alloc (Below.refl _ _) _⟩
set_option maxHeartbeats 4000000 in
set_option maxRecDepth 100000 in
theorem may7b (a n : Int) (b : List UInt8) (A : Option Addr) (c : Nat) (w : World) (h1 : a = 0) (h2 : n ≠ 0) (h3 : n ≠ 1) : Calls Tryz.prog 10 #[.agg #[.int .i64 7, .int .i64 a, .int .i64 n, .slice A b.length c]] w fun x w' => x = .returned (.bool false) ∧ Below w.heap.size w w' := by
  subst h1
  have f2 := ne_ h2
  have f3 := ne_ h3
  clear h2 h3
  go_enter Tryz.func10, Tryz.ntmps10
  go_wp2
  all_goals go_ret
  all_goals exact ⟨rfl, below_alloc (Below.refl _ _) _⟩
set_option maxHeartbeats 4000000 in
set_option maxRecDepth 100000 in
theorem may7d_0 (a n : Int) (b : List UInt8) (A : Option Addr) (c : Nat) (w : World) (h1 : a = 0) (h2 : n = 0) (h4 : b ≠ []) : Calls Tryz.prog 10 #[.agg #[.int .i64 7, .int .i64 a, .int .i64 n, .slice A b.length c]] w fun x w' => x = .returned (.bool false) ∧ Below w.heap.size w w' := by
  have f4 := nlen h4
  clear h4
  subst h1
  subst h2
  go_enter Tryz.func10, Tryz.ntmps10
  go_wp2
  all_goals go_ret
  all_goals exact ⟨rfl, below_alloc (Below.refl _ _) _⟩
set_option maxHeartbeats 4000000 in
set_option maxRecDepth 100000 in
theorem may7d_1 (a n : Int) (b : List UInt8) (A : Option Addr) (c : Nat) (w : World) (h1 : a = 0) (h2 : n = 1) (h4 : b ≠ []) : Calls Tryz.prog 10 #[.agg #[.int .i64 7, .int .i64 a, .int .i64 n, .slice A b.length c]] w fun x w' => x = .returned (.bool false) ∧ Below w.heap.size w w' := by
  have f4 := nlen h4
  clear h4
  subst h1
  subst h2
  go_enter Tryz.func10, Tryz.ntmps10
  go_wp2
  all_goals go_ret
  all_goals exact ⟨rfl, below_alloc (Below.refl _ _) _⟩
set_option maxHeartbeats 4000000 in
set_option maxRecDepth 100000 in
theorem may6 (a n : Int) (b : List UInt8) (A : Option Addr) (c : Nat) (w : World) (h1 : 0 ≤ a) (h2 : a ≤ 2147483647) (h3 : n = 0) (h4 : b.length ≤ 65536) : Calls Tryz.prog 10 #[.agg #[.int .i64 6, .int .i64 a, .int .i64 n, .slice A b.length c]] w fun x w' => x = .returned (.bool true) ∧ Below w.heap.size w w' := by
  have f4 : (b.length : Int) ≤ 65536 := by omega
  have f5 : decide ((b.length : Int) ≤ 65536) = true := decide_eq_true f4
  have f6 : decide (b.length ≤ 65536) = true := decide_eq_true h4
  subst h3
  go_enter Tryz.func10, Tryz.ntmps10
  go_wp2
  all_goals go_ret
  all_goals exact ⟨rfl, below_alloc (Below.refl _ _) _⟩
set_option maxHeartbeats 4000000 in
set_option maxRecDepth 100000 in
theorem may6a (a n : Int) (b : List UInt8) (A : Option Addr) (c : Nat) (w : World) (h1 : a < 0) : Calls Tryz.prog 10 #[.agg #[.int .i64 6, .int .i64 a, .int .i64 n, .slice A b.length c]] w fun x w' => x = .returned (.bool false) ∧ Below w.heap.size w w' := by
  go_enter Tryz.func10, Tryz.ntmps10
  go_wp2
  all_goals go_ret
  all_goals exact ⟨rfl, below_alloc (Below.refl _ _) _⟩
set_option maxHeartbeats 4000000 in
set_option maxRecDepth 100000 in
theorem may6b (a n : Int) (b : List UInt8) (A : Option Addr) (c : Nat) (w : World) (h1 : 0 ≤ a) (h2 : 2147483647 < a) : Calls Tryz.prog 10 #[.agg #[.int .i64 6, .int .i64 a, .int .i64 n, .slice A b.length c]] w fun x w' => x = .returned (.bool false) ∧ Below w.heap.size w w' := by
  go_enter Tryz.func10, Tryz.ntmps10
  go_wp2
  all_goals go_ret
  all_goals exact ⟨rfl, below_alloc (Below.refl _ _) _⟩
set_option maxHeartbeats 4000000 in
set_option maxRecDepth 100000 in
theorem may6c (a n : Int) (b : List UInt8) (A : Option Addr) (c : Nat) (w : World) (h1 : 0 ≤ a) (h2 : a ≤ 2147483647) (h3 : n ≠ 0) : Calls Tryz.prog 10 #[.agg #[.int .i64 6, .int .i64 a, .int .i64 n, .slice A b.length c]] w fun x w' => x = .returned (.bool false) ∧ Below w.heap.size w w' := by
  have f3 := ne_ h3
  clear h3
  go_enter Tryz.func10, Tryz.ntmps10
  go_wp2
  all_goals go_ret
  all_goals exact ⟨rfl, below_alloc (Below.refl _ _) _⟩
set_option maxHeartbeats 4000000 in
set_option maxRecDepth 100000 in
theorem may6d (a n : Int) (b : List UInt8) (A : Option Addr) (c : Nat) (w : World) (h1 : 0 ≤ a) (h2 : a ≤ 2147483647) (h3 : n = 0) (h4 : 65536 < b.length) : Calls Tryz.prog 10 #[.agg #[.int .i64 6, .int .i64 a, .int .i64 n, .slice A b.length c]] w fun x w' => x = .returned (.bool false) ∧ Below w.heap.size w w' := by
  have f5 : decide ((b.length : Int) ≤ 65536) = false := decide_eq_false (by omega)
  have f6 : decide (b.length ≤ 65536) = false := decide_eq_false (by omega)
  clear h4
  subst h3
  go_enter Tryz.func10, Tryz.ntmps10
  go_wp2
  all_goals go_ret
  all_goals exact ⟨rfl, below_alloc (Below.refl _ _) _⟩
set_option maxHeartbeats 4000000 in
set_option maxRecDepth 100000 in
theorem may2 (a n : Int) (b : List UInt8) (A : Option Addr) (c : Nat) (w : World) (h1 : 0 ≤ a) (h2 : a ≤ 2147483647) (h3 : n = 0) (h4 : b = []) : Calls Tryz.prog 10 #[.agg #[.int .i64 2, .int .i64 a, .int .i64 n, .slice A b.length c]] w fun x w' => x = .returned (.bool true) ∧ Below w.heap.size w w' := by
  have f4 := ylen h4
  clear h4
  subst h3
  go_enter Tryz.func10, Tryz.ntmps10
  go_wp2
  all_goals go_ret
  all_goals exact ⟨rfl, below_alloc (Below.refl _ _) _⟩
set_option maxHeartbeats 4000000 in
set_option maxRecDepth 100000 in
theorem may2a (a n : Int) (b : List UInt8) (A : Option Addr) (c : Nat) (w : World) (h1 : a < 0) : Calls Tryz.prog 10 #[.agg #[.int .i64 2, .int .i64 a, .int .i64 n, .slice A b.length c]] w fun x w' => x = .returned (.bool false) ∧ Below w.heap.size w w' := by
  go_enter Tryz.func10, Tryz.ntmps10
  go_wp2
  all_goals go_ret
  all_goals exact ⟨rfl, below_alloc (Below.refl _ _) _⟩
set_option maxHeartbeats 4000000 in
set_option maxRecDepth 100000 in
theorem may2b (a n : Int) (b : List UInt8) (A : Option Addr) (c : Nat) (w : World) (h1 : 0 ≤ a) (h2 : 2147483647 < a) : Calls Tryz.prog 10 #[.agg #[.int .i64 2, .int .i64 a, .int .i64 n, .slice A b.length c]] w fun x w' => x = .returned (.bool false) ∧ Below w.heap.size w w' := by
  go_enter Tryz.func10, Tryz.ntmps10
  go_wp2
  all_goals go_ret
  all_goals exact ⟨rfl, below_alloc (Below.refl _ _) _⟩
set_option maxHeartbeats 4000000 in
set_option maxRecDepth 100000 in
theorem may2c (a n : Int) (b : List UInt8) (A : Option Addr) (c : Nat) (w : World) (h1 : 0 ≤ a) (h2 : a ≤ 2147483647) (h3 : n ≠ 0) : Calls Tryz.prog 10 #[.agg #[.int .i64 2, .int .i64 a, .int .i64 n, .slice A b.length c]] w fun x w' => x = .returned (.bool false) ∧ Below w.heap.size w w' := by
  have f3 := ne_ h3
  clear h3
  go_enter Tryz.func10, Tryz.ntmps10
  go_wp2
  all_goals go_ret
  all_goals exact ⟨rfl, below_alloc (Below.refl _ _) _⟩
set_option maxHeartbeats 4000000 in
set_option maxRecDepth 100000 in
theorem may2d (a n : Int) (b : List UInt8) (A : Option Addr) (c : Nat) (w : World) (h1 : 0 ≤ a) (h2 : a ≤ 2147483647) (h3 : n = 0) (h4 : b ≠ []) : Calls Tryz.prog 10 #[.agg #[.int .i64 2, .int .i64 a, .int .i64 n, .slice A b.length c]] w fun x w' => x = .returned (.bool false) ∧ Below w.heap.size w w' := by
  have f4 := nlen h4
  clear h4
  subst h3
  go_enter Tryz.func10, Tryz.ntmps10
  go_wp2
  all_goals go_ret
  all_goals exact ⟨rfl, below_alloc (Below.refl _ _) _⟩
set_option maxHeartbeats 4000000 in
set_option maxRecDepth 100000 in
theorem may3 (a n : Int) (b : List UInt8) (A : Option Addr) (c : Nat) (w : World) (h1 : 0 ≤ a) (h2 : a ≤ 2147483647) (h3 : n = 0) (h4 : b = []) : Calls Tryz.prog 10 #[.agg #[.int .i64 3, .int .i64 a, .int .i64 n, .slice A b.length c]] w fun x w' => x = .returned (.bool true) ∧ Below w.heap.size w w' := by
  have f4 := ylen h4
  clear h4
  subst h3
  go_enter Tryz.func10, Tryz.ntmps10
  go_wp2
  all_goals go_ret
  all_goals exact ⟨rfl, below_alloc (Below.refl _ _) _⟩
set_option maxHeartbeats 4000000 in
set_option maxRecDepth 100000 in
theorem may3a (a n : Int) (b : List UInt8) (A : Option Addr) (c : Nat) (w : World) (h1 : a < 0) : Calls Tryz.prog 10 #[.agg #[.int .i64 3, .int .i64 a, .int .i64 n, .slice A b.length c]] w fun x w' => x = .returned (.bool false) ∧ Below w.heap.size w w' := by
  go_enter Tryz.func10, Tryz.ntmps10
  go_wp2
  all_goals go_ret
  all_goals exact ⟨rfl, below_alloc (Below.refl _ _) _⟩
set_option maxHeartbeats 4000000 in
set_option maxRecDepth 100000 in
theorem may3b (a n : Int) (b : List UInt8) (A : Option Addr) (c : Nat) (w : World) (h1 : 0 ≤ a) (h2 : 2147483647 < a) : Calls Tryz.prog 10 #[.agg #[.int .i64 3, .int .i64 a, .int .i64 n, .slice A b.length c]] w fun x w' => x = .returned (.bool false) ∧ Below w.heap.size w w' := by
  go_enter Tryz.func10, Tryz.ntmps10
  go_wp2
  all_goals go_ret
  all_goals exact ⟨rfl, below_alloc (Below.refl _ _) _⟩
set_option maxHeartbeats 4000000 in
set_option maxRecDepth 100000 in
theorem may3c (a n : Int) (b : List UInt8) (A : Option Addr) (c : Nat) (w : World) (h1 : 0 ≤ a) (h2 : a ≤ 2147483647) (h3 : n ≠ 0) : Calls Tryz.prog 10 #[.agg #[.int .i64 3, .int .i64 a, .int .i64 n, .slice A b.length c]] w fun x w' => x = .returned (.bool false) ∧ Below w.heap.size w w' := by
  have f3 := ne_ h3
  clear h3
  go_enter Tryz.func10, Tryz.ntmps10
  go_wp2
  all_goals go_ret
  all_goals exact ⟨rfl, below_alloc (Below.refl _ _) _⟩
set_option maxHeartbeats 4000000 in
set_option maxRecDepth 100000 in
theorem may3d (a n : Int) (b : List UInt8) (A : Option Addr) (c : Nat) (w : World) (h1 : 0 ≤ a) (h2 : a ≤ 2147483647) (h3 : n = 0) (h4 : b ≠ []) : Calls Tryz.prog 10 #[.agg #[.int .i64 3, .int .i64 a, .int .i64 n, .slice A b.length c]] w fun x w' => x = .returned (.bool false) ∧ Below w.heap.size w w' := by
  have f4 := nlen h4
  clear h4
  subst h3
  go_enter Tryz.func10, Tryz.ntmps10
  go_wp2
  all_goals go_ret
  all_goals exact ⟨rfl, below_alloc (Below.refl _ _) _⟩
set_option maxHeartbeats 4000000 in
set_option maxRecDepth 100000 in
theorem may4 (a n : Int) (b : List UInt8) (A : Option Addr) (c : Nat) (w : World) (h1 : 0 ≤ a) (h2 : a ≤ 2147483647) (h3 : n = 0) (h4 : b = []) : Calls Tryz.prog 10 #[.agg #[.int .i64 4, .int .i64 a, .int .i64 n, .slice A b.length c]] w fun x w' => x = .returned (.bool true) ∧ Below w.heap.size w w' := by
  have f4 := ylen h4
  clear h4
  subst h3
  go_enter Tryz.func10, Tryz.ntmps10
  go_wp2
  all_goals go_ret
  all_goals exact ⟨rfl, below_alloc (Below.refl _ _) _⟩
set_option maxHeartbeats 4000000 in
set_option maxRecDepth 100000 in
theorem may4a (a n : Int) (b : List UInt8) (A : Option Addr) (c : Nat) (w : World) (h1 : a < 0) : Calls Tryz.prog 10 #[.agg #[.int .i64 4, .int .i64 a, .int .i64 n, .slice A b.length c]] w fun x w' => x = .returned (.bool false) ∧ Below w.heap.size w w' := by
  go_enter Tryz.func10, Tryz.ntmps10
  go_wp2
  all_goals go_ret
  all_goals exact ⟨rfl, below_alloc (Below.refl _ _) _⟩
set_option maxHeartbeats 4000000 in
set_option maxRecDepth 100000 in
theorem may4b (a n : Int) (b : List UInt8) (A : Option Addr) (c : Nat) (w : World) (h1 : 0 ≤ a) (h2 : 2147483647 < a) : Calls Tryz.prog 10 #[.agg #[.int .i64 4, .int .i64 a, .int .i64 n, .slice A b.length c]] w fun x w' => x = .returned (.bool false) ∧ Below w.heap.size w w' := by
  go_enter Tryz.func10, Tryz.ntmps10
  go_wp2
  all_goals go_ret
  all_goals exact ⟨rfl, below_alloc (Below.refl _ _) _⟩
set_option maxHeartbeats 4000000 in
set_option maxRecDepth 100000 in
theorem may4c (a n : Int) (b : List UInt8) (A : Option Addr) (c : Nat) (w : World) (h1 : 0 ≤ a) (h2 : a ≤ 2147483647) (h3 : n ≠ 0) : Calls Tryz.prog 10 #[.agg #[.int .i64 4, .int .i64 a, .int .i64 n, .slice A b.length c]] w fun x w' => x = .returned (.bool false) ∧ Below w.heap.size w w' := by
  have f3 := ne_ h3
  clear h3
  go_enter Tryz.func10, Tryz.ntmps10
  go_wp2
  all_goals go_ret
  all_goals exact ⟨rfl, below_alloc (Below.refl _ _) _⟩
set_option maxHeartbeats 4000000 in
set_option maxRecDepth 100000 in
theorem may4d (a n : Int) (b : List UInt8) (A : Option Addr) (c : Nat) (w : World) (h1 : 0 ≤ a) (h2 : a ≤ 2147483647) (h3 : n = 0) (h4 : b ≠ []) : Calls Tryz.prog 10 #[.agg #[.int .i64 4, .int .i64 a, .int .i64 n, .slice A b.length c]] w fun x w' => x = .returned (.bool false) ∧ Below w.heap.size w w' := by
  have f4 := nlen h4
  clear h4
  subst h3
  go_enter Tryz.func10, Tryz.ntmps10
  go_wp2
  all_goals go_ret
  all_goals exact ⟨rfl, below_alloc (Below.refl _ _) _⟩
set_option maxHeartbeats 4000000 in
set_option maxRecDepth 100000 in
theorem may5 (a n : Int) (b : List UInt8) (A : Option Addr) (c : Nat) (w : World) (h1 : 0 ≤ a) (h2 : a ≤ 2147483647) (h3 : n = 0) (h4 : b = []) : Calls Tryz.prog 10 #[.agg #[.int .i64 5, .int .i64 a, .int .i64 n, .slice A b.length c]] w fun x w' => x = .returned (.bool true) ∧ Below w.heap.size w w' := by
  have f4 := ylen h4
  clear h4
  subst h3
  go_enter Tryz.func10, Tryz.ntmps10
  go_wp2
  all_goals go_ret
  all_goals exact ⟨rfl, below_alloc (Below.refl _ _) _⟩
set_option maxHeartbeats 4000000 in
set_option maxRecDepth 100000 in
theorem may5a (a n : Int) (b : List UInt8) (A : Option Addr) (c : Nat) (w : World) (h1 : a < 0) : Calls Tryz.prog 10 #[.agg #[.int .i64 5, .int .i64 a, .int .i64 n, .slice A b.length c]] w fun x w' => x = .returned (.bool false) ∧ Below w.heap.size w w' := by
  go_enter Tryz.func10, Tryz.ntmps10
  go_wp2
  all_goals go_ret
  all_goals exact ⟨rfl, below_alloc (Below.refl _ _) _⟩
set_option maxHeartbeats 4000000 in
set_option maxRecDepth 100000 in
theorem may5b (a n : Int) (b : List UInt8) (A : Option Addr) (c : Nat) (w : World) (h1 : 0 ≤ a) (h2 : 2147483647 < a) : Calls Tryz.prog 10 #[.agg #[.int .i64 5, .int .i64 a, .int .i64 n, .slice A b.length c]] w fun x w' => x = .returned (.bool false) ∧ Below w.heap.size w w' := by
  go_enter Tryz.func10, Tryz.ntmps10
  go_wp2
  all_goals go_ret
  all_goals exact ⟨rfl, below_alloc (Below.refl _ _) _⟩
set_option maxHeartbeats 4000000 in
set_option maxRecDepth 100000 in
theorem may5c (a n : Int) (b : List UInt8) (A : Option Addr) (c : Nat) (w : World) (h1 : 0 ≤ a) (h2 : a ≤ 2147483647) (h3 : n ≠ 0) : Calls Tryz.prog 10 #[.agg #[.int .i64 5, .int .i64 a, .int .i64 n, .slice A b.length c]] w fun x w' => x = .returned (.bool false) ∧ Below w.heap.size w w' := by
  have f3 := ne_ h3
  clear h3
  go_enter Tryz.func10, Tryz.ntmps10
  go_wp2
  all_goals go_ret
  all_goals exact ⟨rfl, below_alloc (Below.refl _ _) _⟩
set_option maxHeartbeats 4000000 in
set_option maxRecDepth 100000 in
theorem may5d (a n : Int) (b : List UInt8) (A : Option Addr) (c : Nat) (w : World) (h1 : 0 ≤ a) (h2 : a ≤ 2147483647) (h3 : n = 0) (h4 : b ≠ []) : Calls Tryz.prog 10 #[.agg #[.int .i64 5, .int .i64 a, .int .i64 n, .slice A b.length c]] w fun x w' => x = .returned (.bool false) ∧ Below w.heap.size w w' := by
  have f4 := nlen h4
  clear h4
  subst h3
  go_enter Tryz.func10, Tryz.ntmps10
  go_wp2
  all_goals go_ret
  all_goals exact ⟨rfl, below_alloc (Below.refl _ _) _⟩
set_option maxHeartbeats 4000000 in
set_option maxRecDepth 100000 in
theorem may_no (k : Int) (a n : Int) (b : List UInt8) (A : Option Addr) (c : Nat) (w : World) (h : k < 1 ∨ 7 < k) : Calls Tryz.prog 10 #[.agg #[.int .i64 k, .int .i64 a, .int .i64 n, .slice A b.length c]] w fun x w' => x = .returned (.bool false) ∧ Below w.heap.size w w' := by
  have g1 := ne_ (show k ≠ 1 by omega)
  have g2 := ne_ (show k ≠ 2 by omega)
  have g3 := ne_ (show k ≠ 3 by omega)
  have g4 := ne_ (show k ≠ 4 by omega)
  have g5 := ne_ (show k ≠ 5 by omega)
  have g6 := ne_ (show k ≠ 6 by omega)
  have g7 := ne_ (show k ≠ 7 by omega)
  clear h
  go_enter Tryz.func10, Tryz.ntmps10
  go_wp2
  all_goals go_ret
  all_goals exact ⟨rfl, below_alloc (Below.refl _ _) _⟩
theorem may_calls (e : En) (v : Value) (w : World) (hv : Byt w v e.b) : Calls Tryz.prog 10 #[e.val v] w fun x w' => ∃ r : Bool, x = .returned (.bool r) ∧ (r = true ↔ MayE e) ∧ Below w.heap.size w w' := by
  obtain ⟨k, a, n, b⟩ := e
  obtain ⟨A, c, rfl, _, _⟩ := hv
  have T : ∀ {x : Ending} {w' : World}, MayE ⟨k, a, n, b⟩ → (x = .returned (.bool true) ∧ Below w.heap.size w w') → ∃ r : Bool, x = .returned (.bool r) ∧ (r = true ↔ MayE ⟨k, a, n, b⟩) ∧ Below w.heap.size w w' := fun hm h => ⟨true, h.1, ⟨fun _ => hm, fun _ => rfl⟩, h.2⟩
  have F : ∀ {x : Ending} {w' : World}, ¬ MayE ⟨k, a, n, b⟩ → (x = .returned (.bool false) ∧ Below w.heap.size w w') → ∃ r : Bool, x = .returned (.bool r) ∧ (r = true ↔ MayE ⟨k, a, n, b⟩) ∧ Below w.heap.size w w' := fun hm h => ⟨false, h.1, ⟨(fun h => by cases h), fun h => absurd h hm⟩, h.2⟩
  unfold En.val
  simp only
  by_cases hk : k < 1 ∨ 7 < k
  · exact (may_no k a n b A c w hk).mono fun x w' h => F (fun hm => by have h1 := hm.1; have h2 := hm.2.1; simp only at h1 h2; omega) h
  · have ek : k = 1 ∨ k = 2 ∨ k = 3 ∨ k = 4 ∨ k = 5 ∨ k = 6 ∨ k = 7 := by omega
    have hl : b ≠ [] → b.length ≠ 0 := fun h e => h (List.length_eq_zero_iff.1 e)
    rcases ek with rfl | rfl | rfl | rfl | rfl | rfl | rfl
    · by_cases h1 : a = 0
      · by_cases h2 : 0 ≤ n
        · by_cases h3 : n ≤ 1125899906842624
          · by_cases h4 : b = []
            · exact (may1 a n b A c w h1 h2 h3 h4).mono fun x w' h => T (by unfold MayE; simp [h1, h2, h3, h4]) h
            · exact (may1d a n b A c w h1 h2 h3 h4).mono fun x w' h => F (by unfold MayE; simp [h4]) h
          · exact (may1c a n b A c w h1 h2 (by omega)).mono fun x w' h => F (by unfold MayE; simp [h3]) h
        · exact (may1b a n b A c w h1 (by omega)).mono fun x w' h => F (by unfold MayE; simp [h2]) h
      · exact (may1a a n b A c w h1).mono fun x w' h => F (by unfold MayE; simp [h1]) h
    · by_cases h1 : 0 ≤ a
      · by_cases h2 : a ≤ 2147483647
        · by_cases h3 : n = 0
          · by_cases h4 : b = []
            · exact (may2 a n b A c w h1 h2 h3 h4).mono fun x w' h => T (by unfold MayE; simp [h1, h2, h3, h4]) h
            · exact (may2d a n b A c w h1 h2 h3 h4).mono fun x w' h => F (by unfold MayE; simp [h4]) h
          · exact (may2c a n b A c w h1 h2 h3).mono fun x w' h => F (by unfold MayE; simp [h3]) h
        · exact (may2b a n b A c w h1 (by omega)).mono fun x w' h => F (by unfold MayE; simp [h2]) h
      · exact (may2a a n b A c w (by omega)).mono fun x w' h => F (by unfold MayE; simp [h1]) h
    · by_cases h1 : 0 ≤ a
      · by_cases h2 : a ≤ 2147483647
        · by_cases h3 : n = 0
          · by_cases h4 : b = []
            · exact (may3 a n b A c w h1 h2 h3 h4).mono fun x w' h => T (by unfold MayE; simp [h1, h2, h3, h4]) h
            · exact (may3d a n b A c w h1 h2 h3 h4).mono fun x w' h => F (by unfold MayE; simp [h4]) h
          · exact (may3c a n b A c w h1 h2 h3).mono fun x w' h => F (by unfold MayE; simp [h3]) h
        · exact (may3b a n b A c w h1 (by omega)).mono fun x w' h => F (by unfold MayE; simp [h2]) h
      · exact (may3a a n b A c w (by omega)).mono fun x w' h => F (by unfold MayE; simp [h1]) h
    · by_cases h1 : 0 ≤ a
      · by_cases h2 : a ≤ 2147483647
        · by_cases h3 : n = 0
          · by_cases h4 : b = []
            · exact (may4 a n b A c w h1 h2 h3 h4).mono fun x w' h => T (by unfold MayE; simp [h1, h2, h3, h4]) h
            · exact (may4d a n b A c w h1 h2 h3 h4).mono fun x w' h => F (by unfold MayE; simp [h4]) h
          · exact (may4c a n b A c w h1 h2 h3).mono fun x w' h => F (by unfold MayE; simp [h3]) h
        · exact (may4b a n b A c w h1 (by omega)).mono fun x w' h => F (by unfold MayE; simp [h2]) h
      · exact (may4a a n b A c w (by omega)).mono fun x w' h => F (by unfold MayE; simp [h1]) h
    · by_cases h1 : 0 ≤ a
      · by_cases h2 : a ≤ 2147483647
        · by_cases h3 : n = 0
          · by_cases h4 : b = []
            · exact (may5 a n b A c w h1 h2 h3 h4).mono fun x w' h => T (by unfold MayE; simp [h1, h2, h3, h4]) h
            · exact (may5d a n b A c w h1 h2 h3 h4).mono fun x w' h => F (by unfold MayE; simp [h4]) h
          · exact (may5c a n b A c w h1 h2 h3).mono fun x w' h => F (by unfold MayE; simp [h3]) h
        · exact (may5b a n b A c w h1 (by omega)).mono fun x w' h => F (by unfold MayE; simp [h2]) h
      · exact (may5a a n b A c w (by omega)).mono fun x w' h => F (by unfold MayE; simp [h1]) h
    · by_cases h1 : 0 ≤ a
      · by_cases h2 : a ≤ 2147483647
        · by_cases h3 : n = 0
          · by_cases h4 : b.length ≤ 65536
            · exact (may6 a n b A c w h1 h2 h3 h4).mono fun x w' h => T (by unfold MayE; simp [h1, h2, h3, h4]) h
            · exact (may6d a n b A c w h1 h2 h3 (by omega)).mono fun x w' h => F (by unfold MayE; simp [h4]) h
          · exact (may6c a n b A c w h1 h2 h3).mono fun x w' h => F (by unfold MayE; simp [h3]) h
        · exact (may6b a n b A c w h1 (by omega)).mono fun x w' h => F (by unfold MayE; simp [h2]) h
      · exact (may6a a n b A c w (by omega)).mono fun x w' h => F (by unfold MayE; simp [h1]) h
    · by_cases h1 : a = 0
      · by_cases h4 : b = []
        · by_cases h2 : n = 0
          · exact (may7_0 a n b A c w h1 h2 h4).mono fun x w' h => T (by unfold MayE; simp [h1, h2, h4]) h
          · by_cases h3 : n = 1
            · exact (may7_1 a n b A c w h1 h3 h4).mono fun x w' h => T (by unfold MayE; simp [h1, h3, h4]) h
            · exact (may7b a n b A c w h1 h2 h3).mono fun x w' h => F (by unfold MayE; simp [h2, h3]) h
        · by_cases h2 : n = 0
          · exact (may7d_0 a n b A c w h1 h2 h4).mono fun x w' h => F (by unfold MayE; simp [h4]) h
          · by_cases h3 : n = 1
            · exact (may7d_1 a n b A c w h1 h3 h4).mono fun x w' h => F (by unfold MayE; simp [h4]) h
            · exact (may7b a n b A c w h1 h2 h3).mono fun x w' h => F (by unfold MayE; simp [h2, h3]) h
      · exact (may7a a n b A c w h1).mono fun x w' h => F (by unfold MayE; simp [h1]) h
end Go.Proofs.YtjapnbghnnbamaaGreatDoor.M
