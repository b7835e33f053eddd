/- Functions and contracts of one law, printed by this session's own program (contracts by hand among them). -/
import Derived.Test.YtlcgonaapmmnkaaProg
import Derived.Below
import Derived.Deep.Draws
import Derived.Deep.AppendLies
import Derived.Maps.AppendAt
import Derived.OwnWalk
import Derived.Laws.BytesArg
import Derived.Laws.MakeOwn
import Derived.Laws.OwnMore
import Derived.Deep.OwnRows
import Derived.Tactics
import Derived.Lib.ConvBytes
import Derived.Laws.Slices
import Derived.WalkKit
import Derived.KernelRfl
import Derived.RowKit3
import Derived.Deep.LoopGhost
import Derived.Deep.QuietTactic
import Derived.BigQuiet
import Derived.WideLaws
import Derived.Deep.DeepCutAuto
import Derived.Deep.CutBlock
import Derived.Deep.RegionHeld3
import Derived.Laws.Rows
import Derived.Lib.AppendStr
import Derived.ArgAppend
import Derived.Laws.IdiomCopy
import Derived.OrdersHeld
import Derived.Laws.BitsLemmas
import Derived.RowKit
import Derived.Test.YtlcgonaapmmnkaaBase
import Derived.Shelf.Abstract
import Derived.Shelf.SlSortCmp.Insertion
import Derived.Deep.OwnRows
import Derived.Test.YtlcgonaapmmnkaaDefs
import Derived.Test.YtlcgonaapmmnkaaWWords
import Derived.Test.YtlcgonaapmmnkaaWLast
import Derived.Test.YtlcgonaapmmnkaaWTab
import Derived.Test.YtlcgonaapmmnkaaWFour
import Derived.Test.YtlcgonaapmmnkaaWQPut
import Derived.Test.YtlcgonaapmmnkaaWApart
import Derived.Test.YtlcgonaapmmnkaaWArr
import Derived.Test.YtlcgonaapmmnkaaWZeros
import Derived.Test.YtlcgonaapmmnkaaWFoot
import Derived.Test.YtlcgonaapmmnkaaWKept
import Derived.Test.YtlcgonaapmmnkaaWShare
import Derived.Test.YtlcgonaapmmnkaaWN
import Derived.Test.YtlcgonaapmmnkaaWFootNe
import Derived.Test.YtlcgonaapmmnkaaWAt
import Derived.Test.YtlcgonaapmmnkaaWEqStruct
import Derived.Test.YtlcgonaapmmnkaaWRepsOne
import Derived.Test.YtlcgonaapmmnkaaWInv
import Derived.Test.YtlcgonaapmmnkaaWInvWords
import Derived.Test.YtlcgonaapmmnkaaWGuard
import Derived.Test.YtlcgonaapmmnkaaWNEv
import Derived.Test.YtlcgonaapmmnkaaWMore
namespace Go.Proofs.Ytlcgonaapmmnkaa.QFnExactValidEntry
open Go.RowKit Go.Proofs.YtlcgonaapmmnkaaW.PrintWords Go.Proofs.YtlcgonaapmmnkaaW.PrintLast Go.Proofs.YtlcgonaapmmnkaaW.PrintMore
attribute [local go_sem] max2_int min2_int max_two min_two max_three min_three max_four min_four   -- for this text's walks alone
set_option linter.unusedVariables false
set_option linter.unusedSimpArgs false



def errW : Option Int → Value
  | none => .nilIface
  | some c => .iface 0 (.int .i64 c)
theorem errW_none : errW none = .nilIface := rfl
theorem errW_some (c : Int) : errW (some c) = .iface 0 (.int .i64 c) := rfl

-- the values' own types

end Go.Proofs.Ytlcgonaapmmnkaa.QFnExactValidEntry
