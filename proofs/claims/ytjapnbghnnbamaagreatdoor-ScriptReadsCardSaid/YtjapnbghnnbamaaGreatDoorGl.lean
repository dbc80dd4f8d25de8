/- What package variables of the library hold that the script's functions read. -/
import Derived.Test.YtjapnbghnnbamaaGreatDoorShelf
import Derived.Test.YtjapnbghnnbamaaGreatDoorWWords
import Derived.Test.YtjapnbghnnbamaaGreatDoorWLast
import Derived.Lib.LaidTab
import Derived.Stop.LaidErr
import Derived.WalkKit
namespace Go.Proofs.YtjapnbghnnbamaaGreatDoor.Ext
open Go.RowKit Go.Proofs.YtjapnbghnnbamaaGreatDoorW.PrintWords
theorem var_below {P : Program} {w W : World} {n : String} {cs : Array Value} (h : w.var? P n = some cs) (hb : Below w.heap.size w W) : W.var? P n = some cs := by
  unfold World.var? at h ⊢
  cases hg : P.globalNamed n with
  | none => rw [hg] at h; cases h
  | some g =>
    rw [hg] at h
    simp only [Option.bind_some] at h ⊢
    cases ho : w.heap[g]? with
    | none => rw [ho] at h; cases h
    | some o => rw [hb.block g (blk_lt ho), ho]; rw [ho] at h; exact h
/-- The value of errors.errorType. -/
def errorType : Value := .iface 96 (.agg #[.pointer (some ⟨9, 42, none⟩)])
structure Glob (w : World) : Prop where
  tab : Lib.TabIs Tryz.prog w "math/bits.deBruijn64tab" .u8 [0, 1, 56, 2, 57, 49, 28, 3, 61, 58, 42, 50, 38, 29, 17, 4, 62, 47, 59, 36, 45, 43, 51, 22, 53, 39, 33, 30, 24, 18, 12, 5, 63, 55, 48, 27, 60, 41, 37, 16, 46, 35, 44, 21, 52, 32, 23, 11, 54, 26, 40, 15, 34, 20, 31, 10, 25, 14, 19, 9, 13, 8, 7, 6]
  pow : Lib.TabIs Tryz.prog w "internal/strconv.uint64pow10" .u64 Lib.pow10Tab
  err : ∃ ev, w.cell? ⟨2, 0, none⟩ = some ev ∧ (ev = .nilIface ∨ ∃ te pe, ev = .iface te pe)
  rng : ∃ ev, w.cell? ⟨3, 0, none⟩ = some ev ∧ (ev = .nilIface ∨ ∃ te pe, ev = .iface te pe)
  ety : w.cell? ⟨0, 0, none⟩ = some errorType
  mxl : ∃ m, w.cell? ⟨1, 0, none⟩ = some (.int .i64 m)
theorem Glob.below {w W : World} (h : Glob w) (hb : Below w.heap.size w W) : Glob W := by
  obtain ⟨h1, h2, ⟨ev, h3, h4⟩, ⟨ev', h5, h6⟩, h7, m, h8⟩ := h
  exact ⟨var_below h1 hb, var_below h2 hb, ⟨ev, pw_cell_below hb h3, h4⟩, ⟨ev', pw_cell_below hb h5, h6⟩, pw_cell_below hb h7, m, pw_cell_below hb h8⟩
theorem Glob.low {w W : World} {g : Nat} (h : Glob w) (hg : g = w.heap.size) (hb : Below g w W) : Glob W := h.below (hg ▸ hb)
theorem glob64 : Tryz.prog.globalNamed "math/bits.deBruijn64tab" = some 8 := by kernel_rfl
theorem Glob.t15 {w : World} (h : Glob w) : w.cell? ⟨8, 15, none⟩ = some (.int .u8 4) := h.tab.cell glob64 15 (by decide)
end Go.Proofs.YtjapnbghnnbamaaGreatDoor.Ext
