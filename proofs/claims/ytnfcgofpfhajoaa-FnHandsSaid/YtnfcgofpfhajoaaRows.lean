/-
  No cell of these rows narrows 'for every input' (looked for: loops, veiled, ifaces, maps, wideKeys, modest, calm, conditions, laid).
  DERIVED. THE GIVEN ROWS OF THIS SEAT. 5 by the template 'for every input the law returns true; each argument reads behind the call as it read before'; 0 by the template 'total and deterministic' (their statements: YtnfcgofpfhajoaaTotals.lean).
  GIVEN WITH THE SEED: the statements are not yours to turn. If you find one false, say at which input.
  Laid BY PROGRAM, IN A SANDBOX (cutbox-rows.mjs): the forced cells as the released guide's own fill.sh prints them over the translation 3135e2d182fa55a0… (all of the seat's roots in one cut). By AI agents, Wed Nov 11 2026. No macro, syntax, notation, axiom, sorry.
-/
import Derived.Test.YtnfcgofpfhajoaaChecked
import GoSem.Claim
import GoSem.ClaimJoined
import GoSem.ClaimMapViews
import Derived.JoinedTies
import Derived.KernelRfl
namespace Go.Proofs.Ytnfcgofpfhajoaa
/- THE CELL 'sum', in the pinned program and in every row, IS THE sha256 OF THE DUMP (.gsa) THAT YtnfcgofpfhajoaaProg.lean LOADS. Nothing in Lean hashes anything: it is a label: what it is worth is what the hold of that sum in a sandbox is worth. -/
noncomputable def Try.pinned : Pinned := { name := "ytnfcgofpfhajoaa", sum := "3135e2d182fa55a01bffcd99886431e9e7de9fb43b548784f964108e5db687fd", checked := Try.checked }
namespace Rows
def none {H : Type} : Left H := { results := [], args := [] }

/-- 'laws.FnHands': WHATEVER THE INPUT: true; the input reads as it did. -/
def fnHandsSpec : ChangeSpec := { name := "fnHands", fn := fun _ => fun
  | [d1, d2] => { results := [.lit (.bool true)], args := [d1, d2] }
  | _ => none }
def fnHandsRow : OpenClaim := { program := "ytnfcgofpfhajoaa", sum := "3135e2d182fa55a01bffcd99886431e9e7de9fb43b548784f964108e5db687fd", func := "loop.example/g01044/laws.FnHands", spec := "fnHands", unfollowed := true, recurses := true, apart := false }
def FnHandsSaid : Prop := fnHandsRow.holds Try.pinned (OpenSpec.ofChange fnHandsSpec)

/-- ITS FALSE NEIGHBOUR: 'it returns false'. Refute it at one input. -/
def fnHandsWrong : ChangeSpec := { name := "fnHands", fn := fun _ => fun
  | [d1, d2] => { results := [.lit (.bool false)], args := [d1, d2] }
  | _ => none }
def FnHandsWrongFalsely : Prop := fnHandsRow.holds Try.pinned (OpenSpec.ofChange fnHandsWrong)

/-- 'laws.FnExactCheapestHands': WHATEVER THE INPUT: true; the input reads as it did. -/
def fnExactCheapestHandsSpec : ChangeSpec := { name := "fnExactCheapestHands", fn := fun _ => fun
  | [d1, d2] => { results := [.lit (.bool true)], args := [d1, d2] }
  | _ => none }
def fnExactCheapestHandsRow : OpenClaim := { program := "ytnfcgofpfhajoaa", sum := "3135e2d182fa55a01bffcd99886431e9e7de9fb43b548784f964108e5db687fd", func := "loop.example/g01044/laws.FnExactCheapestHands", spec := "fnExactCheapestHands", unfollowed := true, recurses := true, apart := false }
def FnExactCheapestHandsSaid : Prop := fnExactCheapestHandsRow.holds Try.pinned (OpenSpec.ofChange fnExactCheapestHandsSpec)

/-- ITS FALSE NEIGHBOUR: 'it returns false'. Refute it at one input. -/
def fnExactCheapestHandsWrong : ChangeSpec := { name := "fnExactCheapestHands", fn := fun _ => fun
  | [d1, d2] => { results := [.lit (.bool false)], args := [d1, d2] }
  | _ => none }
def FnExactCheapestHandsWrongFalsely : Prop := fnExactCheapestHandsRow.holds Try.pinned (OpenSpec.ofChange fnExactCheapestHandsWrong)

/-- 'laws.FnExactShareByHours': WHATEVER THE INPUT: true; the input reads as it did. -/
def fnExactShareByHoursSpec : ChangeSpec := { name := "fnExactShareByHours", fn := fun _ => fun
  | [d1, d2] => { results := [.lit (.bool true)], args := [d1, d2] }
  | _ => none }
def fnExactShareByHoursRow : OpenClaim := { program := "ytnfcgofpfhajoaa", sum := "3135e2d182fa55a01bffcd99886431e9e7de9fb43b548784f964108e5db687fd", func := "loop.example/g01044/laws.FnExactShareByHours", spec := "fnExactShareByHours", unfollowed := true, recurses := true, apart := false }
def FnExactShareByHoursSaid : Prop := fnExactShareByHoursRow.holds Try.pinned (OpenSpec.ofChange fnExactShareByHoursSpec)

/-- ITS FALSE NEIGHBOUR: 'it returns false'. Refute it at one input. -/
def fnExactShareByHoursWrong : ChangeSpec := { name := "fnExactShareByHours", fn := fun _ => fun
  | [d1, d2] => { results := [.lit (.bool false)], args := [d1, d2] }
  | _ => none }
def FnExactShareByHoursWrongFalsely : Prop := fnExactShareByHoursRow.holds Try.pinned (OpenSpec.ofChange fnExactShareByHoursWrong)

/-- 'laws.FnExactTakeOrder': WHATEVER THE INPUT: true; the input reads as it did. -/
def fnExactTakeOrderSpec : ChangeSpec := { name := "fnExactTakeOrder", fn := fun _ => fun
  | [d1, d2] => { results := [.lit (.bool true)], args := [d1, d2] }
  | _ => none }
def fnExactTakeOrderRow : OpenClaim := { program := "ytnfcgofpfhajoaa", sum := "3135e2d182fa55a01bffcd99886431e9e7de9fb43b548784f964108e5db687fd", func := "loop.example/g01044/laws.FnExactTakeOrder", spec := "fnExactTakeOrder", unfollowed := true, recurses := true, apart := false }
def FnExactTakeOrderSaid : Prop := fnExactTakeOrderRow.holds Try.pinned (OpenSpec.ofChange fnExactTakeOrderSpec)

/-- ITS FALSE NEIGHBOUR: 'it returns false'. Refute it at one input. -/
def fnExactTakeOrderWrong : ChangeSpec := { name := "fnExactTakeOrder", fn := fun _ => fun
  | [d1, d2] => { results := [.lit (.bool false)], args := [d1, d2] }
  | _ => none }
def FnExactTakeOrderWrongFalsely : Prop := fnExactTakeOrderRow.holds Try.pinned (OpenSpec.ofChange fnExactTakeOrderWrong)

/-- 'laws.FnExactSameDesk': WHATEVER THE INPUT: true; the input reads as it did. -/
def fnExactSameDeskSpec : ChangeSpec := { name := "fnExactSameDesk", fn := fun _ => fun
  | [d1, d2] => { results := [.lit (.bool true)], args := [d1, d2] }
  | _ => none }
def fnExactSameDeskRow : OpenClaim := { program := "ytnfcgofpfhajoaa", sum := "3135e2d182fa55a01bffcd99886431e9e7de9fb43b548784f964108e5db687fd", func := "loop.example/g01044/laws.FnExactSameDesk", spec := "fnExactSameDesk", apart := false }
def FnExactSameDeskSaid : Prop := fnExactSameDeskRow.holds Try.pinned (OpenSpec.ofChange fnExactSameDeskSpec)

/-- ITS FALSE NEIGHBOUR: 'it returns false'. Refute it at one input. -/
def fnExactSameDeskWrong : ChangeSpec := { name := "fnExactSameDesk", fn := fun _ => fun
  | [d1, d2] => { results := [.lit (.bool false)], args := [d1, d2] }
  | _ => none }
def FnExactSameDeskWrongFalsely : Prop := fnExactSameDeskRow.holds Try.pinned (OpenSpec.ofChange fnExactSameDeskWrong)

/- THE SECOND FORM. 'bulk': how many values and letters a reading holds, each counted each time it is reached (what is shared counts as often as it is met; a slice's spare places count too). A statement '..UptoSaid' is the law's where the arguments, and the package variables that the reading takes, are together of bulk at most 1048576: NARROWER than '..Said'. Prove '..Said' where nothing that the law and all that it calls make is longer than what came in: it says more and counts as full. Else prove '..UptoSaid'. A law counts once. -/
mutual
def uptoBulk {H : Type} : DataW H → Nat
  | .lit (.string bytes) => bytes.length + 1
  | .lit _ => 1
  | .nil => 1
  | .ptr d => uptoBulk d + 1
  | .slice elems spare => uptoBulkAll elems + uptoBulkAll spare + 1
  | .agg parts => uptoBulkAll parts + 1
  | .iface _ d => uptoBulk d + 1
  | .map entries => uptoBulkEntries entries + 1
  | .held _ => 1
def uptoBulkAll {H : Type} : List (DataW H) → Nat
  | [] => 0
  | d :: r => uptoBulk d + uptoBulkAll r
def uptoBulkEntries {H : Type} : List (Lit × DataW H) → Nat
  | [] => 0
  | x :: r => uptoBulkEntry x + uptoBulkEntries r
def uptoBulkEntry {H : Type} : Lit × DataW H → Nat
  | (.string bytes, d) => bytes.length + uptoBulk d + 1
  | (_, d) => uptoBulk d + 1
 end
def uptoSmall : (H : Type) → List (DataW H) → Bool := fun _ ds => decide (uptoBulkAll ds ≤ 1048576)
def OpenSpec.upto (s : _root_.Go.ChangeSpec) : _root_.Go.OpenSpec := { _root_.Go.OpenSpec.ofChange s with cond := some uptoSmall }

/-- 'laws.FnHands', WHERE WHAT IT READS IS OF BULK AT MOST 1048576: true; the input reads as it did. -/
def fnHandsUptoRow : OpenClaim := { program := "ytnfcgofpfhajoaa", sum := "3135e2d182fa55a01bffcd99886431e9e7de9fb43b548784f964108e5db687fd", func := "loop.example/g01044/laws.FnHands", spec := "fnHands", unfollowed := true, recurses := true, apart := false, narrowed := true }
def FnHandsUptoSaid : Prop := fnHandsUptoRow.holds Try.pinned (OpenSpec.upto fnHandsSpec)

/-- 'laws.FnExactCheapestHands', WHERE WHAT IT READS IS OF BULK AT MOST 1048576: true; the input reads as it did. -/
def fnExactCheapestHandsUptoRow : OpenClaim := { program := "ytnfcgofpfhajoaa", sum := "3135e2d182fa55a01bffcd99886431e9e7de9fb43b548784f964108e5db687fd", func := "loop.example/g01044/laws.FnExactCheapestHands", spec := "fnExactCheapestHands", unfollowed := true, recurses := true, apart := false, narrowed := true }
def FnExactCheapestHandsUptoSaid : Prop := fnExactCheapestHandsUptoRow.holds Try.pinned (OpenSpec.upto fnExactCheapestHandsSpec)

/-- 'laws.FnExactShareByHours', WHERE WHAT IT READS IS OF BULK AT MOST 1048576: true; the input reads as it did. -/
def fnExactShareByHoursUptoRow : OpenClaim := { program := "ytnfcgofpfhajoaa", sum := "3135e2d182fa55a01bffcd99886431e9e7de9fb43b548784f964108e5db687fd", func := "loop.example/g01044/laws.FnExactShareByHours", spec := "fnExactShareByHours", unfollowed := true, recurses := true, apart := false, narrowed := true }
def FnExactShareByHoursUptoSaid : Prop := fnExactShareByHoursUptoRow.holds Try.pinned (OpenSpec.upto fnExactShareByHoursSpec)

/-- 'laws.FnExactTakeOrder', WHERE WHAT IT READS IS OF BULK AT MOST 1048576: true; the input reads as it did. -/
def fnExactTakeOrderUptoRow : OpenClaim := { program := "ytnfcgofpfhajoaa", sum := "3135e2d182fa55a01bffcd99886431e9e7de9fb43b548784f964108e5db687fd", func := "loop.example/g01044/laws.FnExactTakeOrder", spec := "fnExactTakeOrder", unfollowed := true, recurses := true, apart := false, narrowed := true }
def FnExactTakeOrderUptoSaid : Prop := fnExactTakeOrderUptoRow.holds Try.pinned (OpenSpec.upto fnExactTakeOrderSpec)

/-- 'laws.FnExactSameDesk', WHERE WHAT IT READS IS OF BULK AT MOST 1048576: true; the input reads as it did. -/
def fnExactSameDeskUptoRow : OpenClaim := { program := "ytnfcgofpfhajoaa", sum := "3135e2d182fa55a01bffcd99886431e9e7de9fb43b548784f964108e5db687fd", func := "loop.example/g01044/laws.FnExactSameDesk", spec := "fnExactSameDesk", apart := false, narrowed := true }
def FnExactSameDeskUptoSaid : Prop := fnExactSameDeskUptoRow.holds Try.pinned (OpenSpec.upto fnExactSameDeskSpec)

end Rows
end Go.Proofs.Ytnfcgofpfhajoaa
