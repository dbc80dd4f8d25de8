/- errors.Is of nil, or of one of the program's numbers of errors, against such a number. -/
import Derived.Test.YtpihpkphhkcdlaaGreatDoorRm
import Derived.WalkKit
import Derived.LaidEql
import Derived.Stop.Asserts
import Derived.Lib.IfaceEq
import Derived.Lib.IfaceNeq
import Derived.RowKitTokens
namespace Go.Proofs.YtpihpkphhkcdlaaGreatDoor.Ie
open Go.Lib Go.RowKit Go.Extern.Stop Go.Stop Go.Extern
theorem callT (v : Value) (w : World) : (callFunc 78 #[.iface 96 v]).run Tryz.prog w = .ok (Next.value (.iface 174 (.agg #[.pointer (some ⟨1, 96, none⟩)]))) w := by kernel_rfl
theorem callC (w : World) : (callFunc 162 #[.agg #[.pointer (some ⟨1, 96, none⟩)]]).run Tryz.prog w = .ok (Next.value (.bool true)) w := by kernel_rfl
theorem methodC (v : Value) (w : World) : (Go.method 346 174 v "Comparable").run Tryz.prog w = .ok (162, v) w := by kernel_rfl
theorem cmp : (Tryz.prog.info? 96).map (·.comparable) = some true := by kernel_rfl
theorem noIs (v : Value) (xT : TypeId) (w : World) : (Instr.typeAssert (.iface 96 v) xT 176 true).run Tryz.prog w = .ok (.tuple #[.nilIface, .bool false]) w := run_typeAssert_lacksB Tryz.underlying176 (by kernel_rfl) (by kernel_rfl) v xT w
theorem noUn (v : Value) (xT : TypeId) (w : World) : (Instr.typeAssert (.iface 96 v) xT 179 true).run Tryz.prog w = .ok (.tuple #[.nilIface, .bool false]) w := run_typeAssert_lacksB Tryz.underlying179 (by kernel_rfl) (by kernel_rfl) v xT w
theorem noUns (v : Value) (xT : TypeId) (w : World) : (Instr.typeAssert (.iface 96 v) xT 181 true).run Tryz.prog w = .ok (.tuple #[.nilIface, .bool false]) w := run_typeAssert_lacksB Tryz.underlying181 (by kernel_rfl) (by kernel_rfl) v xT w
set_option maxHeartbeats 2000000 in
set_option maxRecDepth 100000 in
theorem is_nil (b : Int) (w : World) :
    Calls Tryz.prog 61 #[.nilIface, .iface 96 (.int .i64 b)] w fun e w' => e = .returned (.bool false) ∧ w = w' := by
  have hn := run_eql_iface_nil_left (P := Tryz.prog) w 96 (.int .i64 b) Tryz.underlying116
  go_enter Tryz.func61, Tryz.ntmps61
  go_wp2
  go_ret
  exact ⟨rfl, rfl⟩
set_option maxHeartbeats 2000000 in
set_option maxRecDepth 100000 in
theorem is_same (a : Int) (w : World) :
    Calls Tryz.prog 61 #[.iface 96 (.int .i64 a), .iface 96 (.int .i64 a)] w fun e w' => e = .returned (.bool true) ∧ w = w' := by
  have h8 := callT
  have h32 := callC
  have mR := methodC
  have heq := run_eql_iface_int (P := Tryz.prog) (k := .i64) w a a Tryz.underlying116 cmp Tryz.underlying96
  rw [show (a == a) = true from beq_self_eq_true a] at heq
  go_enter Tryz.func61, Tryz.ntmps61
  go_wp2
  refine wp_loop_rounds 1 ?_
  rw [rounds_succ]
  go_wp2
  go_ret
  exact ⟨rfl, rfl⟩
set_option maxHeartbeats 2000000 in
set_option maxRecDepth 100000 in
theorem is_other (a b : Int) (hab : a ≠ b) (w : World) :
    Calls Tryz.prog 61 #[.iface 96 (.int .i64 a), .iface 96 (.int .i64 b)] w fun e w' => e = .returned (.bool false) ∧ w = w' := by
  have h8 := callT
  have h32 := callC
  have mR := methodC
  have nE := noIs
  have uE := noUn
  have vE := noUns
  have heq := run_eql_iface_int (P := Tryz.prog) (k := .i64) w a b Tryz.underlying116 cmp Tryz.underlying96
  rw [show (a == b) = false from beq_eq_false_iff_ne.2 hab] at heq
  go_enter Tryz.func61, Tryz.ntmps61
  go_wp2
  refine wp_loop_rounds 1 ?_
  rw [rounds_succ]
  go_wp2
  go_ret
  exact ⟨rfl, rfl⟩
theorem faultIs (v : Value) (xT : TypeId) (w : World) : (Instr.typeAssert (.iface 137 v) xT 176 true).run Tryz.prog w = .ok (.tuple #[.nilIface, .bool false]) w := run_typeAssert_lacksB Tryz.underlying176 (by kernel_rfl) (by kernel_rfl) v xT w
theorem faultUn (v : Value) (xT : TypeId) (w : World) : (Instr.typeAssert (.iface 137 v) xT 179 true).run Tryz.prog w = .ok (.tuple #[.iface 137 v, .bool true]) w := run_typeAssert_hasB Tryz.underlying179 (by kernel_rfl) v xT w
theorem methodU (v : Value) (w : World) : (Go.method 346 137 v "Unwrap").run Tryz.prog w = .ok (159, v) w := by kernel_rfl
set_option maxHeartbeats 2000000 in
set_option maxRecDepth 100000 in
theorem is_fault (a b : Int) (w : World) :
    Calls Tryz.prog 61 #[.iface 137 (.agg #[.int .i64 a]), .iface 96 (.int .i64 b)] w fun e w' => e = .returned (.bool (a == b)) ∧ Below w.heap.size w w' := by
  have h8 := callT
  have h32 := callC
  have mR := methodC
  have mU := methodU
  have nE := noIs
  have uE := noUn
  have vE := noUns
  have fI := faultIs
  have fU := faultUn
  have heq := fun w => run_eql_iface_int (P := Tryz.prog) (k := .i64) w a b Tryz.underlying116 cmp Tryz.underlying96
  have hty := fun w => run_eql_iface_types (P := Tryz.prog) 137 96 (.agg #[.int .i64 a]) (.int .i64 b) Tryz.underlying116 (by decide) w
  obtain ⟨r, hr⟩ : ∃ r, r = (a == b) := ⟨_, rfl⟩
  rw [← hr] at heq ⊢
  clear hr
  cases r with
  | true =>
    go_enter Tryz.func61, Tryz.ntmps61
    go_wp2
    refine wp_loop_rounds 2 ?_
    rw [rounds_succ]
    go_wp2
    rw [show (#[Value.agg #[Value.int IntKind.i64 a], Value.pointer (some { block := w.heap.size, off := 0 }), Value.iface 96 (Value.int IntKind.i64 a), Value.pointer (some { block := w.heap.size, off := 0 }), Value.int IntKind.i64 a, Value.iface 96 (Value.int IntKind.i64 a)] : Array Value).getD 2 undef = .iface 96 (.int .i64 a) from rfl]
    rw [rounds_succ]
    go_wp2
    go_ret
    exact ⟨rfl, Go.Proofs.YtpihpkphhkcdlaaGreatDoorW.PrintWords.below_alloc (Below.refl _ _) _⟩
  | false =>
    go_enter Tryz.func61, Tryz.ntmps61
    go_wp2
    refine wp_loop_rounds 2 ?_
    rw [rounds_succ]
    go_wp2
    rw [show (#[Value.agg #[Value.int IntKind.i64 a], Value.pointer (some { block := w.heap.size, off := 0 }), Value.iface 96 (Value.int IntKind.i64 a), Value.pointer (some { block := w.heap.size, off := 0 }), Value.int IntKind.i64 a, Value.iface 96 (Value.int IntKind.i64 a)] : Array Value).getD 2 undef = .iface 96 (.int .i64 a) from rfl]
    rw [rounds_succ]
    go_wp2
    go_ret
    exact ⟨rfl, Go.Proofs.YtpihpkphhkcdlaaGreatDoorW.PrintWords.below_alloc (Below.refl _ _) _⟩
end Go.Proofs.YtpihpkphhkcdlaaGreatDoor.Ie
