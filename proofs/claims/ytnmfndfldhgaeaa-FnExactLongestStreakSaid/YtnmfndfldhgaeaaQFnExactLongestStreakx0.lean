/- Functions and contracts of one law, printed by this session's own program (contracts by hand among them). -/
import Derived.Test.YtnmfndfldhgaeaaProg
import Derived.Below
import Derived.Deep.Draws
import Derived.Deep.AppendLies
import Derived.Maps.AppendAt
import Derived.OwnWalk
import Derived.Laws.BytesArg
import Derived.Laws.MakeOwn
import Derived.Laws.OwnMore
import Derived.Deep.OwnRows
import Derived.Tactics
import Derived.Lib.ConvBytes
import Derived.Laws.Slices
import Derived.WalkKit
import Derived.KernelRfl
import Derived.RowKit3
import Derived.Deep.LoopGhost
import Derived.Deep.QuietTactic
import Derived.BigQuiet
import Derived.WideLaws
import Derived.Deep.DeepCutAuto
import Derived.Deep.CutBlock
import Derived.Deep.RegionHeld3
import Derived.Laws.Rows
import Derived.Lib.AppendStr
import Derived.ArgAppend
import Derived.Laws.IdiomCopy
import Derived.OrdersHeld
import Derived.Laws.BitsLemmas
import Derived.RowKit
import Derived.Test.YtnmfndfldhgaeaaBase
import Derived.Shelf.Abstract
import Derived.Shelf.SlSortCmp.Insertion
import Derived.Test.YtnmfndfldhgaeaaWWords
import Derived.Test.YtnmfndfldhgaeaaWLast
import Derived.Test.YtnmfndfldhgaeaaWTab
import Derived.Test.YtnmfndfldhgaeaaWFour
import Derived.Test.YtnmfndfldhgaeaaWQPut
import Derived.Test.YtnmfndfldhgaeaaWApart
import Derived.Test.YtnmfndfldhgaeaaWArr
import Derived.Test.YtnmfndfldhgaeaaWZeros
import Derived.Test.YtnmfndfldhgaeaaWFoot
import Derived.Test.YtnmfndfldhgaeaaWKept
import Derived.Test.YtnmfndfldhgaeaaWShare
import Derived.Test.YtnmfndfldhgaeaaWN
import Derived.Test.YtnmfndfldhgaeaaWFootNe
import Derived.Test.YtnmfndfldhgaeaaWAt
import Derived.Test.YtnmfndfldhgaeaaWEqStruct
import Derived.Test.YtnmfndfldhgaeaaWRepsOne
import Derived.Test.YtnmfndfldhgaeaaWInv
import Derived.Test.YtnmfndfldhgaeaaWInvWords
import Derived.Test.YtnmfndfldhgaeaaWGuard
import Derived.Test.YtnmfndfldhgaeaaWNEv
import Derived.Test.YtnmfndfldhgaeaaWMore
namespace Go.Proofs.Ytnmfndfldhgaeaa.QFnExactLongestStreak
open Go.RowKit Go.Proofs.YtnmfndfldhgaeaaW.PrintWords Go.Proofs.YtnmfndfldhgaeaaW.PrintLast Go.Proofs.YtnmfndfldhgaeaaW.PrintMore
attribute [local go_sem] max2_int min2_int max_two min_two max_three min_three max_four min_four   -- for this text's walks alone
set_option linter.unusedVariables false
set_option linter.unusedSimpArgs false



def errW : Option Int → Value
  | none => .nilIface
  | some c => .iface 0 (.int .i64 c)
theorem errW_none : errW none = .nilIface := rfl
theorem errW_some (c : Int) : errW (some c) = .iface 0 (.int .i64 c) := rfl

theorem info2 : (Try.prog.info? 2).map (fun i => (i.zero, i.size, i.bytes)) = some (some (.int .i64 0), 1, 8) := by kernel_rfl
-- the values' own types

end Go.Proofs.Ytnmfndfldhgaeaa.QFnExactLongestStreak
