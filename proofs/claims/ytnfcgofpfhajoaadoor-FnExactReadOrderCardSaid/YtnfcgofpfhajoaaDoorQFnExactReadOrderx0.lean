/- Functions and contracts of one law, printed by this session's own program (contracts by hand among them). -/
import Derived.Test.YtnfcgofpfhajoaaDoorProg
import Derived.Below
import Derived.Deep.Draws
import Derived.Deep.AppendLies
import Derived.Maps.AppendAt
import Derived.OwnWalk
import Derived.Laws.BytesArg
import Derived.Laws.MakeOwn
import Derived.Laws.OwnMore
import Derived.Deep.OwnRows
import Derived.Tactics
import Derived.Lib.ConvBytes
import Derived.Laws.Slices
import Derived.WalkKit
import Derived.KernelRfl
import Derived.RowKit3
import Derived.Deep.LoopGhost
import Derived.Deep.QuietTactic
import Derived.BigQuiet
import Derived.WideLaws
import Derived.Deep.DeepCutAuto
import Derived.Deep.CutBlock
import Derived.Deep.RegionHeld3
import Derived.Laws.Rows
import Derived.Lib.AppendStr
import Derived.ArgAppend
import Derived.Laws.IdiomCopy
import Derived.OrdersHeld
import Derived.Laws.BitsLemmas
import Derived.RowKit
import Derived.Test.YtnfcgofpfhajoaaDoorBase
import Derived.Shelf.Abstract
import Derived.Shelf.SlSortCmp.Insertion
import Derived.Deep.OwnRows
import Derived.Deep.RegionHeld3
import Derived.Deep.Cut
import Derived.Test.YtnfcgofpfhajoaaDoorDefs
import Derived.Test.YtnfcgofpfhajoaaDoorDoor
import Derived.Test.YtnfcgofpfhajoaaDoorWWords
import Derived.Test.YtnfcgofpfhajoaaDoorWLast
import Derived.Test.YtnfcgofpfhajoaaDoorWTab
import Derived.Test.YtnfcgofpfhajoaaDoorWFour
import Derived.Test.YtnfcgofpfhajoaaDoorWQPut
import Derived.Test.YtnfcgofpfhajoaaDoorWApart
import Derived.Test.YtnfcgofpfhajoaaDoorWArr
import Derived.Test.YtnfcgofpfhajoaaDoorWZeros
import Derived.Test.YtnfcgofpfhajoaaDoorWFoot
import Derived.Test.YtnfcgofpfhajoaaDoorWKept
import Derived.Test.YtnfcgofpfhajoaaDoorWShare
import Derived.Test.YtnfcgofpfhajoaaDoorWN
import Derived.Test.YtnfcgofpfhajoaaDoorWFootNe
import Derived.Test.YtnfcgofpfhajoaaDoorWAt
import Derived.Test.YtnfcgofpfhajoaaDoorWEqStruct
import Derived.Test.YtnfcgofpfhajoaaDoorWRepsOne
import Derived.Test.YtnfcgofpfhajoaaDoorWInv
import Derived.Test.YtnfcgofpfhajoaaDoorWInvWords
import Derived.Test.YtnfcgofpfhajoaaDoorWGuard
import Derived.Test.YtnfcgofpfhajoaaDoorWNEv
import Derived.Test.YtnfcgofpfhajoaaDoorWMore
namespace Go.Proofs.YtnfcgofpfhajoaaDoor.QFnExactReadOrder
open Go.RowKit Go.Proofs.YtnfcgofpfhajoaaDoorW.PrintWords Go.Proofs.YtnfcgofpfhajoaaDoorW.PrintLast Go.Proofs.YtnfcgofpfhajoaaDoorW.PrintMore
attribute [local go_sem] max2_int min2_int max_two min_two max_three min_three max_four min_four   -- for this text's walks alone
set_option linter.unusedVariables false
set_option linter.unusedSimpArgs false



def errW : Option Int → Value
  | none => .nilIface
  | some c => .iface 0 (.int .i64 c)
theorem errW_none : errW none = .nilIface := rfl
theorem errW_some (c : Int) : errW (some c) = .iface 0 (.int .i64 c) := rfl

theorem info5 : (Tryd.prog.info? 5).map (fun i => (i.zero, i.size, i.bytes)) = some (some (.int .u8 0), 1, 1) := by kernel_rfl
theorem info9 : (Tryd.prog.info? 9).map (fun i => (i.zero, i.size, i.bytes)) = some (some (.string ⟨#[]⟩), 1, 16) := by kernel_rfl
-- the values' own types

end Go.Proofs.YtnfcgofpfhajoaaDoor.QFnExactReadOrder
