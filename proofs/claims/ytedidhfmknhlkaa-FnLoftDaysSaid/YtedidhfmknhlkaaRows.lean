/-
  No cell of these rows narrows 'for every input' (looked for: loops, veiled, ifaces, maps, wideKeys, modest, calm, conditions, laid).
  DERIVED. THE GIVEN ROWS OF THIS SEAT. 10 by the template 'for every input the law returns true; each argument reads behind the call as it read before'; 0 by the template 'total and deterministic' (their statements: YtedidhfmknhlkaaTotals.lean).
  GIVEN WITH THE SEED: the statements are not yours to turn. If you find one false, say at which input.
  Laid BY PROGRAM, IN A SANDBOX (cutbox-rows.mjs): the forced cells as the released guide's own fill.sh prints them over the translation 8d33458f752606ae… (all of the seat's roots in one cut). By AI agents, Wed Nov 11 2026. No macro, syntax, notation, axiom, sorry.
-/
import Derived.Test.YtedidhfmknhlkaaChecked
import GoSem.Claim
import GoSem.ClaimJoined
import GoSem.ClaimMapViews
import Derived.JoinedTies
import Derived.KernelRfl
namespace Go.Proofs.Ytedidhfmknhlkaa
/- THE CELL 'sum', in the pinned program and in every row, IS THE sha256 OF THE DUMP (.gsa) THAT YtedidhfmknhlkaaProg.lean LOADS. Nothing in Lean hashes anything: it is a label: what it is worth is what the hold of that sum in a sandbox is worth. -/
noncomputable def Try.pinned : Pinned := { name := "ytedidhfmknhlkaa", sum := "8d33458f752606aed09651a703319e460c2c3024b6bfffb2bd36dcc8b9bcd77f", checked := Try.checked }
namespace Rows
def none {H : Type} : Left H := { results := [], args := [] }

/-- 'laws.FnExactValidOrders': WHATEVER THE INPUT: true; the input reads as it did. -/
def fnExactValidOrdersSpec : ChangeSpec := { name := "fnExactValidOrders", fn := fun _ => fun
  | [d] => { results := [.lit (.bool true)], args := [d] }
  | _ => none }
def fnExactValidOrdersRow : OpenClaim := { program := "ytedidhfmknhlkaa", sum := "8d33458f752606aed09651a703319e460c2c3024b6bfffb2bd36dcc8b9bcd77f", func := "loop.example/g01044/laws.FnExactValidOrders", spec := "fnExactValidOrders", apart := false }
def FnExactValidOrdersSaid : Prop := fnExactValidOrdersRow.holds Try.pinned (OpenSpec.ofChange fnExactValidOrdersSpec)

/-- ITS FALSE NEIGHBOUR: 'it returns false'. Refute it at one input. -/
def fnExactValidOrdersWrong : ChangeSpec := { name := "fnExactValidOrders", fn := fun _ => fun
  | [d] => { results := [.lit (.bool false)], args := [d] }
  | _ => none }
def FnExactValidOrdersWrongFalsely : Prop := fnExactValidOrdersRow.holds Try.pinned (OpenSpec.ofChange fnExactValidOrdersWrong)

/-- 'laws.FnExactHoursLeft': WHATEVER THE INPUT: true; the input reads as it did. -/
def fnExactHoursLeftSpec : ChangeSpec := { name := "fnExactHoursLeft", fn := fun _ => fun
  | [d] => { results := [.lit (.bool true)], args := [d] }
  | _ => none }
def fnExactHoursLeftRow : OpenClaim := { program := "ytedidhfmknhlkaa", sum := "8d33458f752606aed09651a703319e460c2c3024b6bfffb2bd36dcc8b9bcd77f", func := "loop.example/g01044/laws.FnExactHoursLeft", spec := "fnExactHoursLeft", apart := false }
def FnExactHoursLeftSaid : Prop := fnExactHoursLeftRow.holds Try.pinned (OpenSpec.ofChange fnExactHoursLeftSpec)

/-- ITS FALSE NEIGHBOUR: 'it returns false'. Refute it at one input. -/
def fnExactHoursLeftWrong : ChangeSpec := { name := "fnExactHoursLeft", fn := fun _ => fun
  | [d] => { results := [.lit (.bool false)], args := [d] }
  | _ => none }
def FnExactHoursLeftWrongFalsely : Prop := fnExactHoursLeftRow.holds Try.pinned (OpenSpec.ofChange fnExactHoursLeftWrong)

/-- 'laws.FnExactWorkOrder': WHATEVER THE INPUT: true; the input reads as it did. -/
def fnExactWorkOrderSpec : ChangeSpec := { name := "fnExactWorkOrder", fn := fun _ => fun
  | [d1, d2, d3] => { results := [.lit (.bool true)], args := [d1, d2, d3] }
  | _ => none }
def fnExactWorkOrderRow : OpenClaim := { program := "ytedidhfmknhlkaa", sum := "8d33458f752606aed09651a703319e460c2c3024b6bfffb2bd36dcc8b9bcd77f", func := "loop.example/g01044/laws.FnExactWorkOrder", spec := "fnExactWorkOrder", unfollowed := true, recurses := true, apart := false }
def FnExactWorkOrderSaid : Prop := fnExactWorkOrderRow.holds Try.pinned (OpenSpec.ofChange fnExactWorkOrderSpec)

/-- ITS FALSE NEIGHBOUR: 'it returns false'. Refute it at one input. -/
def fnExactWorkOrderWrong : ChangeSpec := { name := "fnExactWorkOrder", fn := fun _ => fun
  | [d1, d2, d3] => { results := [.lit (.bool false)], args := [d1, d2, d3] }
  | _ => none }
def FnExactWorkOrderWrongFalsely : Prop := fnExactWorkOrderRow.holds Try.pinned (OpenSpec.ofChange fnExactWorkOrderWrong)

/-- 'laws.FnExactHandOver': WHATEVER THE INPUT: true; the input reads as it did. -/
def fnExactHandOverSpec : ChangeSpec := { name := "fnExactHandOver", fn := fun _ => fun
  | [d] => { results := [.lit (.bool true)], args := [d] }
  | _ => none }
def fnExactHandOverRow : OpenClaim := { program := "ytedidhfmknhlkaa", sum := "8d33458f752606aed09651a703319e460c2c3024b6bfffb2bd36dcc8b9bcd77f", func := "loop.example/g01044/laws.FnExactHandOver", spec := "fnExactHandOver", apart := false }
def FnExactHandOverSaid : Prop := fnExactHandOverRow.holds Try.pinned (OpenSpec.ofChange fnExactHandOverSpec)

/-- ITS FALSE NEIGHBOUR: 'it returns false'. Refute it at one input. -/
def fnExactHandOverWrong : ChangeSpec := { name := "fnExactHandOver", fn := fun _ => fun
  | [d] => { results := [.lit (.bool false)], args := [d] }
  | _ => none }
def FnExactHandOverWrongFalsely : Prop := fnExactHandOverRow.holds Try.pinned (OpenSpec.ofChange fnExactHandOverWrong)

/-- 'laws.FnExactNextOrder': WHATEVER THE INPUT: true; the input reads as it did. -/
def fnExactNextOrderSpec : ChangeSpec := { name := "fnExactNextOrder", fn := fun _ => fun
  | [d] => { results := [.lit (.bool true)], args := [d] }
  | _ => none }
def fnExactNextOrderRow : OpenClaim := { program := "ytedidhfmknhlkaa", sum := "8d33458f752606aed09651a703319e460c2c3024b6bfffb2bd36dcc8b9bcd77f", func := "loop.example/g01044/laws.FnExactNextOrder", spec := "fnExactNextOrder", unfollowed := true, recurses := true, apart := false }
def FnExactNextOrderSaid : Prop := fnExactNextOrderRow.holds Try.pinned (OpenSpec.ofChange fnExactNextOrderSpec)

/-- ITS FALSE NEIGHBOUR: 'it returns false'. Refute it at one input. -/
def fnExactNextOrderWrong : ChangeSpec := { name := "fnExactNextOrder", fn := fun _ => fun
  | [d] => { results := [.lit (.bool false)], args := [d] }
  | _ => none }
def FnExactNextOrderWrongFalsely : Prop := fnExactNextOrderRow.holds Try.pinned (OpenSpec.ofChange fnExactNextOrderWrong)

/-- 'laws.FnExactHoursEachDay': WHATEVER THE INPUT: true; the input reads as it did. -/
def fnExactHoursEachDaySpec : ChangeSpec := { name := "fnExactHoursEachDay", fn := fun _ => fun
  | [d1, d2] => { results := [.lit (.bool true)], args := [d1, d2] }
  | _ => none }
def fnExactHoursEachDayRow : OpenClaim := { program := "ytedidhfmknhlkaa", sum := "8d33458f752606aed09651a703319e460c2c3024b6bfffb2bd36dcc8b9bcd77f", func := "loop.example/g01044/laws.FnExactHoursEachDay", spec := "fnExactHoursEachDay", unfollowed := true, recurses := true, apart := false }
def FnExactHoursEachDaySaid : Prop := fnExactHoursEachDayRow.holds Try.pinned (OpenSpec.ofChange fnExactHoursEachDaySpec)

/-- ITS FALSE NEIGHBOUR: 'it returns false'. Refute it at one input. -/
def fnExactHoursEachDayWrong : ChangeSpec := { name := "fnExactHoursEachDay", fn := fun _ => fun
  | [d1, d2] => { results := [.lit (.bool false)], args := [d1, d2] }
  | _ => none }
def FnExactHoursEachDayWrongFalsely : Prop := fnExactHoursEachDayRow.holds Try.pinned (OpenSpec.ofChange fnExactHoursEachDayWrong)

/-- 'laws.FnLoftDays': WHATEVER THE INPUT: true; the input reads as it did. -/
def fnLoftDaysSpec : ChangeSpec := { name := "fnLoftDays", fn := fun _ => fun
  | [d1, d2] => { results := [.lit (.bool true)], args := [d1, d2] }
  | _ => none }
def fnLoftDaysRow : OpenClaim := { program := "ytedidhfmknhlkaa", sum := "8d33458f752606aed09651a703319e460c2c3024b6bfffb2bd36dcc8b9bcd77f", func := "loop.example/g01044/laws.FnLoftDays", spec := "fnLoftDays", unfollowed := true, recurses := true, apart := false }
def FnLoftDaysSaid : Prop := fnLoftDaysRow.holds Try.pinned (OpenSpec.ofChange fnLoftDaysSpec)

/-- ITS FALSE NEIGHBOUR: 'it returns false'. Refute it at one input. -/
def fnLoftDaysWrong : ChangeSpec := { name := "fnLoftDays", fn := fun _ => fun
  | [d1, d2] => { results := [.lit (.bool false)], args := [d1, d2] }
  | _ => none }
def FnLoftDaysWrongFalsely : Prop := fnLoftDaysRow.holds Try.pinned (OpenSpec.ofChange fnLoftDaysWrong)

/-- 'laws.FnExactDaysOfOrders': WHATEVER THE INPUT: true; the input reads as it did. -/
def fnExactDaysOfOrdersSpec : ChangeSpec := { name := "fnExactDaysOfOrders", fn := fun _ => fun
  | [d1, d2, d3] => { results := [.lit (.bool true)], args := [d1, d2, d3] }
  | _ => none }
def fnExactDaysOfOrdersRow : OpenClaim := { program := "ytedidhfmknhlkaa", sum := "8d33458f752606aed09651a703319e460c2c3024b6bfffb2bd36dcc8b9bcd77f", func := "loop.example/g01044/laws.FnExactDaysOfOrders", spec := "fnExactDaysOfOrders", unfollowed := true, recurses := true, apart := false }
def FnExactDaysOfOrdersSaid : Prop := fnExactDaysOfOrdersRow.holds Try.pinned (OpenSpec.ofChange fnExactDaysOfOrdersSpec)

/-- ITS FALSE NEIGHBOUR: 'it returns false'. Refute it at one input. -/
def fnExactDaysOfOrdersWrong : ChangeSpec := { name := "fnExactDaysOfOrders", fn := fun _ => fun
  | [d1, d2, d3] => { results := [.lit (.bool false)], args := [d1, d2, d3] }
  | _ => none }
def FnExactDaysOfOrdersWrongFalsely : Prop := fnExactDaysOfOrdersRow.holds Try.pinned (OpenSpec.ofChange fnExactDaysOfOrdersWrong)

/-- 'laws.FnExactLateOrders': WHATEVER THE INPUT: true; the input reads as it did. -/
def fnExactLateOrdersSpec : ChangeSpec := { name := "fnExactLateOrders", fn := fun _ => fun
  | [d1, d2, d3] => { results := [.lit (.bool true)], args := [d1, d2, d3] }
  | _ => none }
def fnExactLateOrdersRow : OpenClaim := { program := "ytedidhfmknhlkaa", sum := "8d33458f752606aed09651a703319e460c2c3024b6bfffb2bd36dcc8b9bcd77f", func := "loop.example/g01044/laws.FnExactLateOrders", spec := "fnExactLateOrders", unfollowed := true, recurses := true, apart := false }
def FnExactLateOrdersSaid : Prop := fnExactLateOrdersRow.holds Try.pinned (OpenSpec.ofChange fnExactLateOrdersSpec)

/-- ITS FALSE NEIGHBOUR: 'it returns false'. Refute it at one input. -/
def fnExactLateOrdersWrong : ChangeSpec := { name := "fnExactLateOrders", fn := fun _ => fun
  | [d1, d2, d3] => { results := [.lit (.bool false)], args := [d1, d2, d3] }
  | _ => none }
def FnExactLateOrdersWrongFalsely : Prop := fnExactLateOrdersRow.holds Try.pinned (OpenSpec.ofChange fnExactLateOrdersWrong)

/-- 'laws.FnExactTakeOrder': WHATEVER THE INPUT: true; the input reads as it did. -/
def fnExactTakeOrderSpec : ChangeSpec := { name := "fnExactTakeOrder", fn := fun _ => fun
  | [d1, d2] => { results := [.lit (.bool true)], args := [d1, d2] }
  | _ => none }
def fnExactTakeOrderRow : OpenClaim := { program := "ytedidhfmknhlkaa", sum := "8d33458f752606aed09651a703319e460c2c3024b6bfffb2bd36dcc8b9bcd77f", func := "loop.example/g01044/laws.FnExactTakeOrder", spec := "fnExactTakeOrder", unfollowed := true, recurses := true, apart := false }
def FnExactTakeOrderSaid : Prop := fnExactTakeOrderRow.holds Try.pinned (OpenSpec.ofChange fnExactTakeOrderSpec)

/-- ITS FALSE NEIGHBOUR: 'it returns false'. Refute it at one input. -/
def fnExactTakeOrderWrong : ChangeSpec := { name := "fnExactTakeOrder", fn := fun _ => fun
  | [d1, d2] => { results := [.lit (.bool false)], args := [d1, d2] }
  | _ => none }
def FnExactTakeOrderWrongFalsely : Prop := fnExactTakeOrderRow.holds Try.pinned (OpenSpec.ofChange fnExactTakeOrderWrong)

/- THE SECOND FORM. 'bulk': how many values and letters a reading holds, each counted each time it is reached (what is shared counts as often as it is met; a slice's spare places count too). A statement '..UptoSaid' is the law's where the arguments, and the package variables that the reading takes, are together of bulk at most 1048576: NARROWER than '..Said'. Prove '..Said' where nothing that the law and all that it calls make is longer than what came in: it says more and counts as full. Else prove '..UptoSaid'. A law counts once. -/
mutual
def uptoBulk {H : Type} : DataW H → Nat
  | .lit (.string bytes) => bytes.length + 1
  | .lit _ => 1
  | .nil => 1
  | .ptr d => uptoBulk d + 1
  | .slice elems spare => uptoBulkAll elems + uptoBulkAll spare + 1
  | .agg parts => uptoBulkAll parts + 1
  | .iface _ d => uptoBulk d + 1
  | .map entries => uptoBulkEntries entries + 1
  | .held _ => 1
def uptoBulkAll {H : Type} : List (DataW H) → Nat
  | [] => 0
  | d :: r => uptoBulk d + uptoBulkAll r
def uptoBulkEntries {H : Type} : List (Lit × DataW H) → Nat
  | [] => 0
  | x :: r => uptoBulkEntry x + uptoBulkEntries r
def uptoBulkEntry {H : Type} : Lit × DataW H → Nat
  | (.string bytes, d) => bytes.length + uptoBulk d + 1
  | (_, d) => uptoBulk d + 1
 end
def uptoSmall : (H : Type) → List (DataW H) → Bool := fun _ ds => decide (uptoBulkAll ds ≤ 1048576)
def OpenSpec.upto (s : _root_.Go.ChangeSpec) : _root_.Go.OpenSpec := { _root_.Go.OpenSpec.ofChange s with cond := some uptoSmall }

/-- 'laws.FnExactValidOrders', WHERE WHAT IT READS IS OF BULK AT MOST 1048576: true; the input reads as it did. -/
def fnExactValidOrdersUptoRow : OpenClaim := { program := "ytedidhfmknhlkaa", sum := "8d33458f752606aed09651a703319e460c2c3024b6bfffb2bd36dcc8b9bcd77f", func := "loop.example/g01044/laws.FnExactValidOrders", spec := "fnExactValidOrders", apart := false, narrowed := true }
def FnExactValidOrdersUptoSaid : Prop := fnExactValidOrdersUptoRow.holds Try.pinned (OpenSpec.upto fnExactValidOrdersSpec)

/-- 'laws.FnExactHoursLeft', WHERE WHAT IT READS IS OF BULK AT MOST 1048576: true; the input reads as it did. -/
def fnExactHoursLeftUptoRow : OpenClaim := { program := "ytedidhfmknhlkaa", sum := "8d33458f752606aed09651a703319e460c2c3024b6bfffb2bd36dcc8b9bcd77f", func := "loop.example/g01044/laws.FnExactHoursLeft", spec := "fnExactHoursLeft", apart := false, narrowed := true }
def FnExactHoursLeftUptoSaid : Prop := fnExactHoursLeftUptoRow.holds Try.pinned (OpenSpec.upto fnExactHoursLeftSpec)

/-- 'laws.FnExactWorkOrder', WHERE WHAT IT READS IS OF BULK AT MOST 1048576: true; the input reads as it did. -/
def fnExactWorkOrderUptoRow : OpenClaim := { program := "ytedidhfmknhlkaa", sum := "8d33458f752606aed09651a703319e460c2c3024b6bfffb2bd36dcc8b9bcd77f", func := "loop.example/g01044/laws.FnExactWorkOrder", spec := "fnExactWorkOrder", unfollowed := true, recurses := true, apart := false, narrowed := true }
def FnExactWorkOrderUptoSaid : Prop := fnExactWorkOrderUptoRow.holds Try.pinned (OpenSpec.upto fnExactWorkOrderSpec)

/-- 'laws.FnExactHandOver', WHERE WHAT IT READS IS OF BULK AT MOST 1048576: true; the input reads as it did. -/
def fnExactHandOverUptoRow : OpenClaim := { program := "ytedidhfmknhlkaa", sum := "8d33458f752606aed09651a703319e460c2c3024b6bfffb2bd36dcc8b9bcd77f", func := "loop.example/g01044/laws.FnExactHandOver", spec := "fnExactHandOver", apart := false, narrowed := true }
def FnExactHandOverUptoSaid : Prop := fnExactHandOverUptoRow.holds Try.pinned (OpenSpec.upto fnExactHandOverSpec)

/-- 'laws.FnExactNextOrder', WHERE WHAT IT READS IS OF BULK AT MOST 1048576: true; the input reads as it did. -/
def fnExactNextOrderUptoRow : OpenClaim := { program := "ytedidhfmknhlkaa", sum := "8d33458f752606aed09651a703319e460c2c3024b6bfffb2bd36dcc8b9bcd77f", func := "loop.example/g01044/laws.FnExactNextOrder", spec := "fnExactNextOrder", unfollowed := true, recurses := true, apart := false, narrowed := true }
def FnExactNextOrderUptoSaid : Prop := fnExactNextOrderUptoRow.holds Try.pinned (OpenSpec.upto fnExactNextOrderSpec)

/-- 'laws.FnExactHoursEachDay', WHERE WHAT IT READS IS OF BULK AT MOST 1048576: true; the input reads as it did. -/
def fnExactHoursEachDayUptoRow : OpenClaim := { program := "ytedidhfmknhlkaa", sum := "8d33458f752606aed09651a703319e460c2c3024b6bfffb2bd36dcc8b9bcd77f", func := "loop.example/g01044/laws.FnExactHoursEachDay", spec := "fnExactHoursEachDay", unfollowed := true, recurses := true, apart := false, narrowed := true }
def FnExactHoursEachDayUptoSaid : Prop := fnExactHoursEachDayUptoRow.holds Try.pinned (OpenSpec.upto fnExactHoursEachDaySpec)

/-- 'laws.FnLoftDays', WHERE WHAT IT READS IS OF BULK AT MOST 1048576: true; the input reads as it did. -/
def fnLoftDaysUptoRow : OpenClaim := { program := "ytedidhfmknhlkaa", sum := "8d33458f752606aed09651a703319e460c2c3024b6bfffb2bd36dcc8b9bcd77f", func := "loop.example/g01044/laws.FnLoftDays", spec := "fnLoftDays", unfollowed := true, recurses := true, apart := false, narrowed := true }
def FnLoftDaysUptoSaid : Prop := fnLoftDaysUptoRow.holds Try.pinned (OpenSpec.upto fnLoftDaysSpec)

/-- 'laws.FnExactDaysOfOrders', WHERE WHAT IT READS IS OF BULK AT MOST 1048576: true; the input reads as it did. -/
def fnExactDaysOfOrdersUptoRow : OpenClaim := { program := "ytedidhfmknhlkaa", sum := "8d33458f752606aed09651a703319e460c2c3024b6bfffb2bd36dcc8b9bcd77f", func := "loop.example/g01044/laws.FnExactDaysOfOrders", spec := "fnExactDaysOfOrders", unfollowed := true, recurses := true, apart := false, narrowed := true }
def FnExactDaysOfOrdersUptoSaid : Prop := fnExactDaysOfOrdersUptoRow.holds Try.pinned (OpenSpec.upto fnExactDaysOfOrdersSpec)

/-- 'laws.FnExactLateOrders', WHERE WHAT IT READS IS OF BULK AT MOST 1048576: true; the input reads as it did. -/
def fnExactLateOrdersUptoRow : OpenClaim := { program := "ytedidhfmknhlkaa", sum := "8d33458f752606aed09651a703319e460c2c3024b6bfffb2bd36dcc8b9bcd77f", func := "loop.example/g01044/laws.FnExactLateOrders", spec := "fnExactLateOrders", unfollowed := true, recurses := true, apart := false, narrowed := true }
def FnExactLateOrdersUptoSaid : Prop := fnExactLateOrdersUptoRow.holds Try.pinned (OpenSpec.upto fnExactLateOrdersSpec)

/-- 'laws.FnExactTakeOrder', WHERE WHAT IT READS IS OF BULK AT MOST 1048576: true; the input reads as it did. -/
def fnExactTakeOrderUptoRow : OpenClaim := { program := "ytedidhfmknhlkaa", sum := "8d33458f752606aed09651a703319e460c2c3024b6bfffb2bd36dcc8b9bcd77f", func := "loop.example/g01044/laws.FnExactTakeOrder", spec := "fnExactTakeOrder", unfollowed := true, recurses := true, apart := false, narrowed := true }
def FnExactTakeOrderUptoSaid : Prop := fnExactTakeOrderUptoRow.holds Try.pinned (OpenSpec.upto fnExactTakeOrderSpec)

end Rows
end Go.Proofs.Ytedidhfmknhlkaa
