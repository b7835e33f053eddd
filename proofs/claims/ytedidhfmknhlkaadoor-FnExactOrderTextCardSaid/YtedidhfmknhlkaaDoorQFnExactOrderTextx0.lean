/- Functions and contracts of one law, printed by this session's own program (contracts by hand among them). -/
import Derived.Test.YtedidhfmknhlkaaDoorProg
import Derived.Below
import Derived.Deep.Draws
import Derived.Deep.AppendLies
import Derived.Maps.AppendAt
import Derived.OwnWalk
import Derived.Laws.BytesArg
import Derived.Laws.MakeOwn
import Derived.Laws.OwnMore
import Derived.Deep.OwnRows
import Derived.Tactics
import Derived.Lib.ConvBytes
import Derived.Laws.Slices
import Derived.WalkKit
import Derived.KernelRfl
import Derived.RowKit3
import Derived.Deep.LoopGhost
import Derived.Deep.QuietTactic
import Derived.BigQuiet
import Derived.WideLaws
import Derived.Deep.DeepCutAuto
import Derived.Deep.CutBlock
import Derived.Deep.RegionHeld3
import Derived.Laws.Rows
import Derived.Lib.AppendStr
import Derived.ArgAppend
import Derived.Laws.IdiomCopy
import Derived.OrdersHeld
import Derived.Laws.BitsLemmas
import Derived.RowKit
import Derived.Test.YtedidhfmknhlkaaDoorBase
import Derived.Shelf.Abstract
import Derived.Shelf.SlSortCmp.Insertion
import Derived.Deep.OwnRows
import Derived.Deep.RegionHeld3
import Derived.Deep.Cut
import Derived.Test.YtedidhfmknhlkaaDoorDefs
import Derived.Test.YtedidhfmknhlkaaDoorDoor
import Derived.Test.YtedidhfmknhlkaaDoorWWords
import Derived.Test.YtedidhfmknhlkaaDoorWLast
import Derived.Test.YtedidhfmknhlkaaDoorWTab
import Derived.Test.YtedidhfmknhlkaaDoorWFour
import Derived.Test.YtedidhfmknhlkaaDoorWQPut
import Derived.Test.YtedidhfmknhlkaaDoorWApart
import Derived.Test.YtedidhfmknhlkaaDoorWArr
import Derived.Test.YtedidhfmknhlkaaDoorWZeros
import Derived.Test.YtedidhfmknhlkaaDoorWFoot
import Derived.Test.YtedidhfmknhlkaaDoorWKept
import Derived.Test.YtedidhfmknhlkaaDoorWShare
import Derived.Test.YtedidhfmknhlkaaDoorWN
import Derived.Test.YtedidhfmknhlkaaDoorWFootNe
import Derived.Test.YtedidhfmknhlkaaDoorWAt
import Derived.Test.YtedidhfmknhlkaaDoorWEqStruct
import Derived.Test.YtedidhfmknhlkaaDoorWRepsOne
import Derived.Test.YtedidhfmknhlkaaDoorWInv
import Derived.Test.YtedidhfmknhlkaaDoorWInvWords
import Derived.Test.YtedidhfmknhlkaaDoorWGuard
import Derived.Test.YtedidhfmknhlkaaDoorWNEv
import Derived.Test.YtedidhfmknhlkaaDoorWMore
namespace Go.Proofs.YtedidhfmknhlkaaDoor.QFnExactOrderText
open Go.RowKit Go.Proofs.YtedidhfmknhlkaaDoorW.PrintWords Go.Proofs.YtedidhfmknhlkaaDoorW.PrintLast Go.Proofs.YtedidhfmknhlkaaDoorW.PrintMore
attribute [local go_sem] max2_int min2_int max_two min_two max_three min_three max_four min_four   -- for this text's walks alone
set_option linter.unusedVariables false
set_option linter.unusedSimpArgs false



def errW : Option Int → Value
  | none => .nilIface
  | some c => .iface 0 (.int .i64 c)
theorem errW_none : errW none = .nilIface := rfl
theorem errW_some (c : Int) : errW (some c) = .iface 0 (.int .i64 c) := rfl

theorem info5 : (Tryd.prog.info? 5).map (fun i => (i.zero, i.size, i.bytes)) = some (some (.int .u8 0), 1, 1) := by kernel_rfl
-- the values' own types

end Go.Proofs.YtedidhfmknhlkaaDoor.QFnExactOrderText
