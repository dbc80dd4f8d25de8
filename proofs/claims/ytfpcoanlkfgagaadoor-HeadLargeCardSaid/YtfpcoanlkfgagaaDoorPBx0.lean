/- Written by a program of this session (wip/tools/myprint.py) out of the translation: plain Lean functions and their walks. -/
import Derived.Test.YtfpcoanlkfgagaaDoorProg
import Derived.Below
import Derived.Deep.Draws
import Derived.Deep.AppendLies
import Derived.Maps.AppendAt
import Derived.OwnWalk
import Derived.Laws.BytesArg
import Derived.Laws.MakeOwn
import Derived.Laws.OwnMore
import Derived.Deep.OwnRows
import Derived.Tactics
import Derived.Lib.ConvBytes
import Derived.Laws.Slices
import Derived.WalkKit
import Derived.KernelRfl
import Derived.RowKit3
import Derived.Deep.LoopGhost
import Derived.Deep.QuietTactic
import Derived.BigQuiet
import Derived.WideLaws
import Derived.Deep.DeepCutAuto
import Derived.Deep.CutBlock
import Derived.Deep.RegionHeld3
import Derived.Laws.Rows
import Derived.Lib.AppendStr
import Derived.ArgAppend
import Derived.Laws.IdiomCopy
import Derived.OrdersHeld
import Derived.Laws.BitsLemmas
import Derived.RowKit
import Derived.Test.YtfpcoanlkfgagaaDoorExt
import Derived.WalkMore
import Derived.Test.YtfpcoanlkfgagaaDoorExtB
import Derived.Test.YtfpcoanlkfgagaaDoorWWords
import Derived.Test.YtfpcoanlkfgagaaDoorWLast
import Derived.Test.YtfpcoanlkfgagaaDoorWTab
import Derived.Test.YtfpcoanlkfgagaaDoorWQPut
import Derived.Test.YtfpcoanlkfgagaaDoorWApart
import Derived.Test.YtfpcoanlkfgagaaDoorWArr
import Derived.Test.YtfpcoanlkfgagaaDoorWZeros
import Derived.Test.YtfpcoanlkfgagaaDoorWFoot
import Derived.Test.YtfpcoanlkfgagaaDoorWKept
import Derived.Test.YtfpcoanlkfgagaaDoorWShare
import Derived.Test.YtfpcoanlkfgagaaDoorWN
import Derived.Test.YtfpcoanlkfgagaaDoorWEqStruct
import Derived.Test.YtfpcoanlkfgagaaDoorWGuard
import Derived.Test.YtfpcoanlkfgagaaDoorWNEv
import Derived.Test.YtfpcoanlkfgagaaDoorWMore
namespace Go.Proofs.YtfpcoanlkfgagaaDoor.PB
open Go.RowKit Go.Proofs.YtfpcoanlkfgagaaDoorW.PrintWords Go.Proofs.YtfpcoanlkfgagaaDoorW.PrintLast Go.Proofs.YtfpcoanlkfgagaaDoor.Ext Go.Proofs.YtfpcoanlkfgagaaDoor.PB0 Go.Proofs.YtfpcoanlkfgagaaDoorW.PrintMore
attribute [local go_sem] max2_int min2_int max_two min_two max_three min_three max_four min_four   -- for this text's walks alone
set_option linter.unusedVariables false
set_option linter.unusedSimpArgs false



def errW : Option Int → Value
  | none => .nilIface
  | some c => .iface 0 (.int .i64 c)
theorem errW_none : errW none = .nilIface := rfl
theorem errW_some (c : Int) : errW (some c) = .iface 0 (.int .i64 c) := rfl

theorem info5 : (Tryd.prog.info? 5).map (fun i => (i.zero, i.size, i.bytes)) = some (some (.int .u8 0), 1, 1) := by kernel_rfl
-- the values' own types

end Go.Proofs.YtfpcoanlkfgagaaDoor.PB
