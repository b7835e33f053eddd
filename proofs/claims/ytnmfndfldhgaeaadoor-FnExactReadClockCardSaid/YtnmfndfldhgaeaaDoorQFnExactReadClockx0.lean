/- Functions and contracts of one law, printed by this session's own program (contracts by hand among them). -/
import Derived.Test.YtnmfndfldhgaeaaDoorProg
import Derived.Below
import Derived.Deep.Draws
import Derived.Deep.AppendLies
import Derived.Maps.AppendAt
import Derived.OwnWalk
import Derived.Laws.BytesArg
import Derived.Laws.MakeOwn
import Derived.Laws.OwnMore
import Derived.Deep.OwnRows
import Derived.Tactics
import Derived.Lib.ConvBytes
import Derived.Laws.Slices
import Derived.WalkKit
import Derived.KernelRfl
import Derived.RowKit3
import Derived.Deep.LoopGhost
import Derived.Deep.QuietTactic
import Derived.BigQuiet
import Derived.WideLaws
import Derived.Deep.DeepCutAuto
import Derived.Deep.CutBlock
import Derived.Deep.RegionHeld3
import Derived.Laws.Rows
import Derived.Lib.AppendStr
import Derived.ArgAppend
import Derived.Laws.IdiomCopy
import Derived.OrdersHeld
import Derived.Laws.BitsLemmas
import Derived.RowKit
import Derived.Test.YtnmfndfldhgaeaaDoorBase
import Derived.Shelf.Abstract
import Derived.Shelf.SlSortCmp.Insertion
import Derived.Deep.OwnRows
import Derived.Deep.RegionHeld3
import Derived.Deep.Cut
import Derived.Test.YtnmfndfldhgaeaaDoorDefs
import Derived.Test.YtnmfndfldhgaeaaDoorDoor
import Derived.Test.YtnmfndfldhgaeaaDoorWWords
import Derived.Test.YtnmfndfldhgaeaaDoorWLast
import Derived.Test.YtnmfndfldhgaeaaDoorWTab
import Derived.Test.YtnmfndfldhgaeaaDoorWFour
import Derived.Test.YtnmfndfldhgaeaaDoorWQPut
import Derived.Test.YtnmfndfldhgaeaaDoorWApart
import Derived.Test.YtnmfndfldhgaeaaDoorWArr
import Derived.Test.YtnmfndfldhgaeaaDoorWZeros
import Derived.Test.YtnmfndfldhgaeaaDoorWFoot
import Derived.Test.YtnmfndfldhgaeaaDoorWKept
import Derived.Test.YtnmfndfldhgaeaaDoorWShare
import Derived.Test.YtnmfndfldhgaeaaDoorWN
import Derived.Test.YtnmfndfldhgaeaaDoorWFootNe
import Derived.Test.YtnmfndfldhgaeaaDoorWAt
import Derived.Test.YtnmfndfldhgaeaaDoorWEqStruct
import Derived.Test.YtnmfndfldhgaeaaDoorWRepsOne
import Derived.Test.YtnmfndfldhgaeaaDoorWInv
import Derived.Test.YtnmfndfldhgaeaaDoorWInvWords
import Derived.Test.YtnmfndfldhgaeaaDoorWGuard
import Derived.Test.YtnmfndfldhgaeaaDoorWNEv
import Derived.Test.YtnmfndfldhgaeaaDoorWMore
namespace Go.Proofs.YtnmfndfldhgaeaaDoor.QFnExactReadClock
open Go.RowKit Go.Proofs.YtnmfndfldhgaeaaDoorW.PrintWords Go.Proofs.YtnmfndfldhgaeaaDoorW.PrintLast Go.Proofs.YtnmfndfldhgaeaaDoorW.PrintMore
attribute [local go_sem] max2_int min2_int max_two min_two max_three min_three max_four min_four   -- for this text's walks alone
set_option linter.unusedVariables false
set_option linter.unusedSimpArgs false



def errW : Option Int → Value
  | none => .nilIface
  | some c => .iface 0 (.int .i64 c)
theorem errW_none : errW none = .nilIface := rfl
theorem errW_some (c : Int) : errW (some c) = .iface 0 (.int .i64 c) := rfl

theorem info5 : (Tryd.prog.info? 5).map (fun i => (i.zero, i.size, i.bytes)) = some (some (.int .u8 0), 1, 1) := by kernel_rfl
theorem info9 : (Tryd.prog.info? 9).map (fun i => (i.zero, i.size, i.bytes)) = some (some (.string ⟨#[]⟩), 1, 16) := by kernel_rfl
-- the values' own types

end Go.Proofs.YtnmfndfldhgaeaaDoor.QFnExactReadClock
