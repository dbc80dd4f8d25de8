/- What the rows' listed variable says of the world. -/
import Derived.Test.YtpihpkphhkcdlaaGreatDoorRm
import Derived.Test.YtpihpkphhkcdlaaGreatDoorRows
import Derived.FnData
import Derived.KernelRfl
import Derived.LaidHandle
import Derived.Shelf.LaysM
namespace Go.Proofs.YtpihpkphhkcdlaaGreatDoor.Ext
open Go.RowKit Go.Proofs.YtpihpkphhkcdlaaGreatDoorW.PrintWords
theorem oneRow : ((List.range Tryz.prog.types.size).filter fun t => Tryz.prog.rowNamed t [101, 114, 114, 111, 114]) = [116] := by kernel_rfl
theorem rtype_at : (Tryz.prog.cutTypes.find? (·.1 == "internal/reflectlite.rtype")).map (·.2) = some 174 := by kernel_rfl
theorem ety_of {W : World} (h : handlesMet Tryz.prog [("errors.errorType", Rows.laid_errors_errorType)] W) : W.cell? ⟨0, 0, none⟩ = some (.iface 174 (.agg #[.pointer (some ⟨1, 116, none⟩)])) := by
  obtain ⟨name, u, ty, e1, e2, e3, e4, e5⟩ := h _ (List.mem_singleton.2 rfl)
  have en : name = [101, 114, 114, 111, 114] := (Option.some.inj e1).symm
  subst en
  obtain rfl := Option.some.inj (rtype_at.symm.trans e2)
  have hm : ty ∈ (List.range Tryz.prog.types.size).filter fun t => Tryz.prog.rowNamed t [101, 114, 114, 111, 114] := List.mem_filter.2 ⟨List.mem_range.2 e3, e4⟩
  rw [oneRow] at hm
  obtain rfl := List.mem_singleton.1 hm
  have hh : typeHandle Tryz.prog 116 = .pointer (some ⟨1, 116, none⟩) := by kernel_rfl
  rw [hh] at e5
  simpa using World.var?_cell (show Tryz.prog.globalNamed "errors.errorType" = some 0 by kernel_rfl) e5 0
theorem glob_of {W : World} (hL : laidMetH Tryz.prog [("errors.errorType", Rows.laid_errors_errorType)] W) : Pk.Glob W := by
  have hL' : laidMet Tryz.prog [] W ∧ handlesMet Tryz.prog [("errors.errorType", Rows.laid_errors_errorType)] W := hL
  exact ety_of hL'.2
end Go.Proofs.YtpihpkphhkcdlaaGreatDoor.Ext
