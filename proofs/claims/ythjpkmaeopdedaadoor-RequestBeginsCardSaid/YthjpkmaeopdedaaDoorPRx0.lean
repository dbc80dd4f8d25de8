/- Written by a program of this session (wip/tools/myprint.py) out of the translation: plain Lean functions and their walks. -/
import Derived.Test.YthjpkmaeopdedaaDoorProg
import Derived.Below
import Derived.Deep.Draws
import Derived.Deep.AppendLies
import Derived.Maps.AppendAt
import Derived.OwnWalk
import Derived.Laws.BytesArg
import Derived.Laws.MakeOwn
import Derived.Laws.OwnMore
import Derived.Deep.OwnRows
import Derived.Tactics
import Derived.Lib.ConvBytes
import Derived.Laws.Slices
import Derived.WalkKit
import Derived.KernelRfl
import Derived.RowKit3
import Derived.Deep.LoopGhost
import Derived.Deep.QuietTactic
import Derived.BigQuiet
import Derived.WideLaws
import Derived.Deep.DeepCutAuto
import Derived.Deep.CutBlock
import Derived.Deep.RegionHeld3
import Derived.Laws.Rows
import Derived.Lib.AppendStr
import Derived.ArgAppend
import Derived.Laws.IdiomCopy
import Derived.OrdersHeld
import Derived.Laws.BitsLemmas
import Derived.RowKit
import Derived.Test.YthjpkmaeopdedaaDoorExt
import Derived.Test.YthjpkmaeopdedaaDoorWWords
import Derived.Test.YthjpkmaeopdedaaDoorWLast
import Derived.Test.YthjpkmaeopdedaaDoorWTab
import Derived.Test.YthjpkmaeopdedaaDoorWFour
import Derived.Test.YthjpkmaeopdedaaDoorWQPut
import Derived.Test.YthjpkmaeopdedaaDoorWApart
import Derived.Test.YthjpkmaeopdedaaDoorWArr
import Derived.Test.YthjpkmaeopdedaaDoorWZeros
import Derived.Test.YthjpkmaeopdedaaDoorWFoot
import Derived.Test.YthjpkmaeopdedaaDoorWKept
import Derived.Test.YthjpkmaeopdedaaDoorWShare
import Derived.Test.YthjpkmaeopdedaaDoorWN
import Derived.Test.YthjpkmaeopdedaaDoorWFootNe
import Derived.Test.YthjpkmaeopdedaaDoorWAt
import Derived.Test.YthjpkmaeopdedaaDoorWEqStruct
import Derived.Test.YthjpkmaeopdedaaDoorWRepsOne
import Derived.Test.YthjpkmaeopdedaaDoorWInv
import Derived.Test.YthjpkmaeopdedaaDoorWInvWords
import Derived.Test.YthjpkmaeopdedaaDoorWGuard
import Derived.Test.YthjpkmaeopdedaaDoorWNEv
import Derived.Test.YthjpkmaeopdedaaDoorWMore
namespace Go.Proofs.YthjpkmaeopdedaaDoor.PR
open Go.RowKit Go.Proofs.YthjpkmaeopdedaaDoorW.PrintWords Go.Proofs.YthjpkmaeopdedaaDoorW.PrintLast Go.Proofs.YthjpkmaeopdedaaDoor.Ext Go.Proofs.YthjpkmaeopdedaaDoorW.PrintMore
attribute [local go_sem] max2_int min2_int max_two min_two max_three min_three max_four min_four   -- for this text's walks alone
set_option linter.unusedVariables false
set_option linter.unusedSimpArgs false



def errW : Option Int → Value
  | none => .nilIface
  | some c => .iface 0 (.int .i64 c)
theorem errW_none : errW none = .nilIface := rfl
theorem errW_some (c : Int) : errW (some c) = .iface 0 (.int .i64 c) := rfl

theorem info5 : (Tryd.prog.info? 5).map (fun i => (i.zero, i.size, i.bytes)) = some (some (.int .u8 0), 1, 1) := by kernel_rfl
theorem info9 : (Tryd.prog.info? 9).map (fun i => (i.zero, i.size, i.bytes)) = some (some (.string ⟨#[]⟩), 1, 16) := by kernel_rfl
-- the values' own types

end Go.Proofs.YthjpkmaeopdedaaDoor.PR
