/- What the rows' listed variables say of the world. -/
import Derived.Test.YtjapnbghnnbamaaDoorGl
import Derived.Test.YtjapnbghnnbamaaDoorRows
import Derived.FnData
import Derived.KernelRfl
namespace Go.Proofs.YtjapnbghnnbamaaDoor.Ext
open Go.RowKit Go.Proofs.YtjapnbghnnbamaaDoorW.PrintWords
theorem glob_err {W : World} {r : List (String × DataW Unit)} (h : laidMet Tryd.prog (("strconv.ErrSyntax", Rows.laid_strconv_ErrSyntax) :: r) W) : ∃ ev, W.cell? ⟨1, 0, none⟩ = some ev ∧ (ev = .nilIface ∨ ∃ te pe, ev = .iface te pe) := by
  obtain ⟨ps, ⟨g, t, cs, fuel, p, q, hg, ht, hv, hd, _, _⟩, _⟩ := h
  obtain rfl := Option.some.inj ((show Tryd.prog.globalNamed "strconv.ErrSyntax" = some 1 by kernel_rfl).symm.trans hg)
  obtain rfl := Option.some.inj ((show (Tryd.prog.globals[1]?).map (·.type) = some 38 by kernel_rfl).symm.trans ht)
  obtain ⟨_, u, v, hcs, _⟩ := iface_of_trod Tryd.underlying38 hd
  have hc := World.var?_cell (show Tryd.prog.globalNamed "strconv.ErrSyntax" = some 1 by kernel_rfl) hv 0
  have h0 : cs[0]? = some (.iface u v) := by rw [← Array.getElem?_toList, hcs]; rfl
  exact ⟨_, hc.trans h0, .inr ⟨u, v, rfl⟩⟩
theorem glob_of {W : World} (hL : laidMetH Tryd.prog Rows.scriptQuotesRow.laid W) : Glob W := by
  have h : laidMet Tryd.prog [("math/bits.deBruijn32tab", Rows.laid_math_bits_deBruijn32tab), ("math/bits.deBruijn64tab", Rows.laid_math_bits_deBruijn64tab), ("internal/strconv.uint64pow10", Rows.laid_internal_strconv_uint64pow10), ("strconv.ErrRange", Rows.laid_strconv_ErrRange), ("strconv.ErrSyntax", Rows.laid_strconv_ErrSyntax)] W := hL
  have h1 := laidMet.tail h
  have h2 := laidMet.tail h1
  have h3 := laidMet.tail h2
  have h4 := laidMet.tail h3
  refine ⟨Lib.tabIs_of_head (g := 4) (t := 88) (e := 5) (n := 64) (by kernel_rfl) (by kernel_rfl) Tryd.underlying88 Tryd.underlying5 (by kernel_rfl) (by kernel_rfl) h1, Lib.tabIs_of_head (g := 0) (t := 71) (e := 53) (n := 20) (by kernel_rfl) (by kernel_rfl) Tryd.underlying71 Tryd.underlying53 (by kernel_rfl) (by kernel_rfl) h2, glob_err h4⟩
end Go.Proofs.YtjapnbghnnbamaaDoor.Ext
