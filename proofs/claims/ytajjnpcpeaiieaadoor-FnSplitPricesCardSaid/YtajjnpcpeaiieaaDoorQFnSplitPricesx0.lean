/- Functions and contracts of one law, printed by this session's own program (contracts by hand among them). -/
import Derived.Test.YtajjnpcpeaiieaaDoorProg
import Derived.Below
import Derived.Deep.Draws
import Derived.Deep.AppendLies
import Derived.Maps.AppendAt
import Derived.OwnWalk
import Derived.Laws.BytesArg
import Derived.Laws.MakeOwn
import Derived.Laws.OwnMore
import Derived.Deep.OwnRows
import Derived.Tactics
import Derived.Lib.ConvBytes
import Derived.Laws.Slices
import Derived.WalkKit
import Derived.KernelRfl
import Derived.RowKit3
import Derived.Deep.LoopGhost
import Derived.Deep.QuietTactic
import Derived.BigQuiet
import Derived.WideLaws
import Derived.Deep.DeepCutAuto
import Derived.Deep.CutBlock
import Derived.Deep.RegionHeld3
import Derived.Laws.Rows
import Derived.Lib.AppendStr
import Derived.ArgAppend
import Derived.Laws.IdiomCopy
import Derived.OrdersHeld
import Derived.Laws.BitsLemmas
import Derived.RowKit
import Derived.Test.YtajjnpcpeaiieaaDoorBase
import Derived.Shelf.Abstract
import Derived.Shelf.SlSortCmp.Insertion
import Derived.Deep.OwnRows
import Derived.Deep.RegionHeld3
import Derived.Deep.Cut
import Derived.Test.YtajjnpcpeaiieaaDoorDefs
import Derived.Test.YtajjnpcpeaiieaaDoorDoor
import Derived.Test.YtajjnpcpeaiieaaDoorWWords
import Derived.Test.YtajjnpcpeaiieaaDoorWLast
import Derived.Test.YtajjnpcpeaiieaaDoorWTab
import Derived.Test.YtajjnpcpeaiieaaDoorWFour
import Derived.Test.YtajjnpcpeaiieaaDoorWQPut
import Derived.Test.YtajjnpcpeaiieaaDoorWApart
import Derived.Test.YtajjnpcpeaiieaaDoorWArr
import Derived.Test.YtajjnpcpeaiieaaDoorWZeros
import Derived.Test.YtajjnpcpeaiieaaDoorWFoot
import Derived.Test.YtajjnpcpeaiieaaDoorWKept
import Derived.Test.YtajjnpcpeaiieaaDoorWShare
import Derived.Test.YtajjnpcpeaiieaaDoorWN
import Derived.Test.YtajjnpcpeaiieaaDoorWFootNe
import Derived.Test.YtajjnpcpeaiieaaDoorWAt
import Derived.Test.YtajjnpcpeaiieaaDoorWEqStruct
import Derived.Test.YtajjnpcpeaiieaaDoorWRepsOne
import Derived.Test.YtajjnpcpeaiieaaDoorWInv
import Derived.Test.YtajjnpcpeaiieaaDoorWInvWords
import Derived.Test.YtajjnpcpeaiieaaDoorWGuard
import Derived.Test.YtajjnpcpeaiieaaDoorWNEv
import Derived.Test.YtajjnpcpeaiieaaDoorWMore
namespace Go.Proofs.YtajjnpcpeaiieaaDoor.QFnSplitPrices
open Go.RowKit Go.Proofs.YtajjnpcpeaiieaaDoorW.PrintWords Go.Proofs.YtajjnpcpeaiieaaDoorW.PrintLast Go.Proofs.YtajjnpcpeaiieaaDoorW.PrintMore
attribute [local go_sem] max2_int min2_int max_two min_two max_three min_three max_four min_four   -- for this text's walks alone
set_option linter.unusedVariables false
set_option linter.unusedSimpArgs false



def errW : Option Int → Value
  | none => .nilIface
  | some c => .iface 0 (.int .i64 c)
theorem errW_none : errW none = .nilIface := rfl
theorem errW_some (c : Int) : errW (some c) = .iface 0 (.int .i64 c) := rfl

theorem info2 : (Tryd.prog.info? 2).map (fun i => (i.zero, i.size, i.bytes)) = some (some (.int .i64 0), 1, 8) := by kernel_rfl
-- the values' own types

end Go.Proofs.YtajjnpcpeaiieaaDoor.QFnSplitPrices
