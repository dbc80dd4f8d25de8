/- What Parse tells of the chapter's three heads. -/
import Derived.Test.YtfpcoanlkfgagaaDoorExtB
import Derived.Test.YtfpcoanlkfgagaaDoorPlainH
namespace Go.Proofs.YtfpcoanlkfgagaaDoor.Pure
open Go.RowKit Go.Proofs.YtfpcoanlkfgagaaDoor.PB0 Go.Proofs.YtfpcoanlkfgagaaDoor.Ext Go.Proofs.YtfpcoanlkfgagaaDoorW.PrintWords Go.Proofs.YtfpcoanlkfgagaaDoor.Plain

theorem head_eq (b : List UInt8) (hb : b.length ≤ 100000000) : head_Parse.f (numsL b) = some (parseT b) := evOf_eq (parse_prog b hb)
theorem numsL_of (l0 : List Int) (h : ∀ x ∈ l0, (Lit.int .u8 x).wf = true) : l0 = numsL (Lib.bytesOf l0) := by
  have : ∀ x ∈ l0, (((UInt8.ofNat x.toNat).toNat : Nat) : Int) = x := by
    intro x hx
    have hw := h x hx
    have h1 : IntKind.u8.min = 0 := rfl
    have h2 : IntKind.u8.max = 255 := rfl
    simp only [Lit.wf, Bool.and_eq_true, decide_eq_true_eq] at hw
    rw [UInt8.toNat_ofNat']
    omega
  unfold numsL Lib.bytesOf
  rw [List.map_map]
  conv => lhs; rw [← List.map_id l0]
  exact List.map_congr_left (fun x hx => (this x hx).symm)

def k1 : List UInt8 := [72, 84, 84, 80, 47, 49, 46, 49, 32, 50, 48, 48, 32, 79, 75, 13, 10, 67, 111, 110, 116, 101, 110, 116, 45, 76, 101, 110, 103, 116, 104, 58, 32, 53, 13, 10, 13, 10]
def k2 : List UInt8 := [72, 84, 84, 80, 47, 49, 46, 49, 32, 50, 48, 48, 32, 79, 75, 13, 10, 67, 111, 110, 116, 101, 110, 116, 45, 76, 101, 110, 103, 116, 104, 58, 32, 53, 13, 10]
def k3 : List UInt8 := [72, 84, 84, 80, 47, 50, 32, 50, 48, 48, 32, 79, 75, 13, 10]
theorem e1 : parseT k1 = (200, 5, false, false, 38, 0) := by decide +kernel
theorem e2 : parseT k2 = (0, 0, false, false, 0, 0) := by decide +kernel
theorem e3 : parseT k3 = (0, 0, false, false, 0, 9) := by decide +kernel
theorem n1 : numsL k1 = [72, 84, 84, 80, 47, 49, 46, 49, 32, 50, 48, 48, 32, 79, 75, 13, 10, 67, 111, 110, 116, 101, 110, 116, 45, 76, 101, 110, 103, 116, 104, 58, 32, 53, 13, 10, 13, 10] := by decide +kernel
theorem n2 : numsL k2 = [72, 84, 84, 80, 47, 49, 46, 49, 32, 50, 48, 48, 32, 79, 75, 13, 10, 67, 111, 110, 116, 101, 110, 116, 45, 76, 101, 110, 103, 116, 104, 58, 32, 53, 13, 10] := by decide +kernel
theorem n3 : numsL k3 = [72, 84, 84, 80, 47, 50, 32, 50, 48, 48, 32, 79, 75, 13, 10] := by decide +kernel
theorem known1 {t : List Int} {r : Int × Int × Bool × Bool × Int × Int} (a : bytesLit.f ([72, 84, 84, 80, 47, 49, 46, 49, 32, 50, 48, 48, 32, 79, 75, 13, 10, 67, 111, 110, 116, 101, 110, 116, 45, 76, 101, 110, 103, 116, 104, 58, 32, 53, 13, 10, 13, 10] : List Int) = some t) (b : head_Parse.f t = some r) : r = (200, 5, false, false, 38, 0) := by
  obtain rfl := Option.some.inj a
  rw [← n1, head_eq k1 (by decide), e1] at b
  exact (Option.some.inj b).symm
theorem known2 {t : List Int} {r : Int × Int × Bool × Bool × Int × Int} (a : bytesLit.f ([72, 84, 84, 80, 47, 49, 46, 49, 32, 50, 48, 48, 32, 79, 75, 13, 10, 67, 111, 110, 116, 101, 110, 116, 45, 76, 101, 110, 103, 116, 104, 58, 32, 53, 13, 10] : List Int) = some t) (b : head_Parse.f t = some r) : r = (0, 0, false, false, 0, 0) := by
  obtain rfl := Option.some.inj a
  rw [← n2, head_eq k2 (by decide), e2] at b
  exact (Option.some.inj b).symm
end Go.Proofs.YtfpcoanlkfgagaaDoor.Pure
