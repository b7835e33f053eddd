/-
  No cell of these rows narrows 'for every input' (looked for: loops, veiled, ifaces, maps, wideKeys, modest, calm, conditions, laid).
  DERIVED. THE GIVEN ROWS OF THIS SEAT. 10 by the template 'for every input the law returns true; each argument reads behind the call as it read before'; 0 by the template 'total and deterministic' (their statements: YtajjnpcpeaiieaaTotals.lean).
  GIVEN WITH THE SEED: the statements are not yours to turn. If you find one false, say at which input.
  Laid BY PROGRAM, IN A SANDBOX (cutbox-rows.mjs): the forced cells as the released guide's own fill.sh prints them over the translation acf7dbb309736e7e… (all of the seat's roots in one cut). By AI agents, Wed Nov 11 2026. No macro, syntax, notation, axiom, sorry.
-/
import Derived.Test.YtajjnpcpeaiieaaChecked
import GoSem.Claim
import GoSem.ClaimJoined
import GoSem.ClaimMapViews
import Derived.JoinedTies
import Derived.KernelRfl
namespace Go.Proofs.Ytajjnpcpeaiieaa
/- THE CELL 'sum', in the pinned program and in every row, IS THE sha256 OF THE DUMP (.gsa) THAT YtajjnpcpeaiieaaProg.lean LOADS. Nothing in Lean hashes anything: it is a label: what it is worth is what the hold of that sum in a sandbox is worth. -/
noncomputable def Try.pinned : Pinned := { name := "ytajjnpcpeaiieaa", sum := "acf7dbb309736e7e823d26446483e82bbfd7ebcdae7c8064632e35388ff4b001", checked := Try.checked }
namespace Rows
def none {H : Type} : Left H := { results := [], args := [] }

/-- 'laws.FnExactSumOf': WHATEVER THE INPUT: true; the input reads as it did. -/
def fnExactSumOfSpec : ChangeSpec := { name := "fnExactSumOf", fn := fun _ => fun
  | [d] => { results := [.lit (.bool true)], args := [d] }
  | _ => none }
def fnExactSumOfRow : OpenClaim := { program := "ytajjnpcpeaiieaa", sum := "acf7dbb309736e7e823d26446483e82bbfd7ebcdae7c8064632e35388ff4b001", func := "loop.example/g01044/laws.FnExactSumOf", spec := "fnExactSumOf", apart := false }
def FnExactSumOfSaid : Prop := fnExactSumOfRow.holds Try.pinned (OpenSpec.ofChange fnExactSumOfSpec)

/-- ITS FALSE NEIGHBOUR: 'it returns false'. Refute it at one input. -/
def fnExactSumOfWrong : ChangeSpec := { name := "fnExactSumOf", fn := fun _ => fun
  | [d] => { results := [.lit (.bool false)], args := [d] }
  | _ => none }
def FnExactSumOfWrongFalsely : Prop := fnExactSumOfRow.holds Try.pinned (OpenSpec.ofChange fnExactSumOfWrong)

/-- 'laws.FnExactRoundPrice': WHATEVER THE INPUT: true; the input reads as it did. -/
def fnExactRoundPriceSpec : ChangeSpec := { name := "fnExactRoundPrice", fn := fun _ => fun
  | [d1, d2] => { results := [.lit (.bool true)], args := [d1, d2] }
  | _ => none }
def fnExactRoundPriceRow : OpenClaim := { program := "ytajjnpcpeaiieaa", sum := "acf7dbb309736e7e823d26446483e82bbfd7ebcdae7c8064632e35388ff4b001", func := "loop.example/g01044/laws.FnExactRoundPrice", spec := "fnExactRoundPrice", apart := false }
def FnExactRoundPriceSaid : Prop := fnExactRoundPriceRow.holds Try.pinned (OpenSpec.ofChange fnExactRoundPriceSpec)

/-- ITS FALSE NEIGHBOUR: 'it returns false'. Refute it at one input. -/
def fnExactRoundPriceWrong : ChangeSpec := { name := "fnExactRoundPrice", fn := fun _ => fun
  | [d1, d2] => { results := [.lit (.bool false)], args := [d1, d2] }
  | _ => none }
def FnExactRoundPriceWrongFalsely : Prop := fnExactRoundPriceRow.holds Try.pinned (OpenSpec.ofChange fnExactRoundPriceWrong)

/-- 'laws.FnExactMakingPrice': WHATEVER THE INPUT: true; the input reads as it did. -/
def fnExactMakingPriceSpec : ChangeSpec := { name := "fnExactMakingPrice", fn := fun _ => fun
  | [d1, d2, d3, d4] => { results := [.lit (.bool true)], args := [d1, d2, d3, d4] }
  | _ => none }
def fnExactMakingPriceRow : OpenClaim := { program := "ytajjnpcpeaiieaa", sum := "acf7dbb309736e7e823d26446483e82bbfd7ebcdae7c8064632e35388ff4b001", func := "loop.example/g01044/laws.FnExactMakingPrice", spec := "fnExactMakingPrice", apart := false }
def FnExactMakingPriceSaid : Prop := fnExactMakingPriceRow.holds Try.pinned (OpenSpec.ofChange fnExactMakingPriceSpec)

/-- ITS FALSE NEIGHBOUR: 'it returns false'. Refute it at one input. -/
def fnExactMakingPriceWrong : ChangeSpec := { name := "fnExactMakingPrice", fn := fun _ => fun
  | [d1, d2, d3, d4] => { results := [.lit (.bool false)], args := [d1, d2, d3, d4] }
  | _ => none }
def FnExactMakingPriceWrongFalsely : Prop := fnExactMakingPriceRow.holds Try.pinned (OpenSpec.ofChange fnExactMakingPriceWrong)

/-- 'laws.FnExactNetOf': WHATEVER THE INPUT: true; the input reads as it did. -/
def fnExactNetOfSpec : ChangeSpec := { name := "fnExactNetOf", fn := fun _ => fun
  | [d1, d2] => { results := [.lit (.bool true)], args := [d1, d2] }
  | _ => none }
def fnExactNetOfRow : OpenClaim := { program := "ytajjnpcpeaiieaa", sum := "acf7dbb309736e7e823d26446483e82bbfd7ebcdae7c8064632e35388ff4b001", func := "loop.example/g01044/laws.FnExactNetOf", spec := "fnExactNetOf", apart := false }
def FnExactNetOfSaid : Prop := fnExactNetOfRow.holds Try.pinned (OpenSpec.ofChange fnExactNetOfSpec)

/-- ITS FALSE NEIGHBOUR: 'it returns false'. Refute it at one input. -/
def fnExactNetOfWrong : ChangeSpec := { name := "fnExactNetOf", fn := fun _ => fun
  | [d1, d2] => { results := [.lit (.bool false)], args := [d1, d2] }
  | _ => none }
def FnExactNetOfWrongFalsely : Prop := fnExactNetOfRow.holds Try.pinned (OpenSpec.ofChange fnExactNetOfWrong)

/-- 'laws.FnExactValidTiers': WHATEVER THE INPUT: true; the input reads as it did. -/
def fnExactValidTiersSpec : ChangeSpec := { name := "fnExactValidTiers", fn := fun _ => fun
  | [d] => { results := [.lit (.bool true)], args := [d] }
  | _ => none }
def fnExactValidTiersRow : OpenClaim := { program := "ytajjnpcpeaiieaa", sum := "acf7dbb309736e7e823d26446483e82bbfd7ebcdae7c8064632e35388ff4b001", func := "loop.example/g01044/laws.FnExactValidTiers", spec := "fnExactValidTiers", apart := false }
def FnExactValidTiersSaid : Prop := fnExactValidTiersRow.holds Try.pinned (OpenSpec.ofChange fnExactValidTiersSpec)

/-- ITS FALSE NEIGHBOUR: 'it returns false'. Refute it at one input. -/
def fnExactValidTiersWrong : ChangeSpec := { name := "fnExactValidTiers", fn := fun _ => fun
  | [d] => { results := [.lit (.bool false)], args := [d] }
  | _ => none }
def FnExactValidTiersWrongFalsely : Prop := fnExactValidTiersRow.holds Try.pinned (OpenSpec.ofChange fnExactValidTiersWrong)

/-- 'laws.FnExactDiscountFor': WHATEVER THE INPUT: true; the input reads as it did. -/
def fnExactDiscountForSpec : ChangeSpec := { name := "fnExactDiscountFor", fn := fun _ => fun
  | [d1, d2] => { results := [.lit (.bool true)], args := [d1, d2] }
  | _ => none }
def fnExactDiscountForRow : OpenClaim := { program := "ytajjnpcpeaiieaa", sum := "acf7dbb309736e7e823d26446483e82bbfd7ebcdae7c8064632e35388ff4b001", func := "loop.example/g01044/laws.FnExactDiscountFor", spec := "fnExactDiscountFor", apart := false }
def FnExactDiscountForSaid : Prop := fnExactDiscountForRow.holds Try.pinned (OpenSpec.ofChange fnExactDiscountForSpec)

/-- ITS FALSE NEIGHBOUR: 'it returns false'. Refute it at one input. -/
def fnExactDiscountForWrong : ChangeSpec := { name := "fnExactDiscountFor", fn := fun _ => fun
  | [d1, d2] => { results := [.lit (.bool false)], args := [d1, d2] }
  | _ => none }
def FnExactDiscountForWrongFalsely : Prop := fnExactDiscountForRow.holds Try.pinned (OpenSpec.ofChange fnExactDiscountForWrong)

/-- 'laws.FnExactPriceOfPieces': WHATEVER THE INPUT: true; the input reads as it did. -/
def fnExactPriceOfPiecesSpec : ChangeSpec := { name := "fnExactPriceOfPieces", fn := fun _ => fun
  | [d1, d2, d3] => { results := [.lit (.bool true)], args := [d1, d2, d3] }
  | _ => none }
def fnExactPriceOfPiecesRow : OpenClaim := { program := "ytajjnpcpeaiieaa", sum := "acf7dbb309736e7e823d26446483e82bbfd7ebcdae7c8064632e35388ff4b001", func := "loop.example/g01044/laws.FnExactPriceOfPieces", spec := "fnExactPriceOfPieces", apart := false }
def FnExactPriceOfPiecesSaid : Prop := fnExactPriceOfPiecesRow.holds Try.pinned (OpenSpec.ofChange fnExactPriceOfPiecesSpec)

/-- ITS FALSE NEIGHBOUR: 'it returns false'. Refute it at one input. -/
def fnExactPriceOfPiecesWrong : ChangeSpec := { name := "fnExactPriceOfPieces", fn := fun _ => fun
  | [d1, d2, d3] => { results := [.lit (.bool false)], args := [d1, d2, d3] }
  | _ => none }
def FnExactPriceOfPiecesWrongFalsely : Prop := fnExactPriceOfPiecesRow.holds Try.pinned (OpenSpec.ofChange fnExactPriceOfPiecesWrong)

/-- 'laws.FnExactCheaperMore': WHATEVER THE INPUT: true; the input reads as it did. -/
def fnExactCheaperMoreSpec : ChangeSpec := { name := "fnExactCheaperMore", fn := fun _ => fun
  | [d1, d2, d3] => { results := [.lit (.bool true)], args := [d1, d2, d3] }
  | _ => none }
def fnExactCheaperMoreRow : OpenClaim := { program := "ytajjnpcpeaiieaa", sum := "acf7dbb309736e7e823d26446483e82bbfd7ebcdae7c8064632e35388ff4b001", func := "loop.example/g01044/laws.FnExactCheaperMore", spec := "fnExactCheaperMore", apart := false }
def FnExactCheaperMoreSaid : Prop := fnExactCheaperMoreRow.holds Try.pinned (OpenSpec.ofChange fnExactCheaperMoreSpec)

/-- ITS FALSE NEIGHBOUR: 'it returns false'. Refute it at one input. -/
def fnExactCheaperMoreWrong : ChangeSpec := { name := "fnExactCheaperMore", fn := fun _ => fun
  | [d1, d2, d3] => { results := [.lit (.bool false)], args := [d1, d2, d3] }
  | _ => none }
def FnExactCheaperMoreWrongFalsely : Prop := fnExactCheaperMoreRow.holds Try.pinned (OpenSpec.ofChange fnExactCheaperMoreWrong)

/-- 'laws.FnExactSplitPrice': WHATEVER THE INPUT: true; the input reads as it did. -/
def fnExactSplitPriceSpec : ChangeSpec := { name := "fnExactSplitPrice", fn := fun _ => fun
  | [d1, d2] => { results := [.lit (.bool true)], args := [d1, d2] }
  | _ => none }
def fnExactSplitPriceRow : OpenClaim := { program := "ytajjnpcpeaiieaa", sum := "acf7dbb309736e7e823d26446483e82bbfd7ebcdae7c8064632e35388ff4b001", func := "loop.example/g01044/laws.FnExactSplitPrice", spec := "fnExactSplitPrice", apart := false }
def FnExactSplitPriceSaid : Prop := fnExactSplitPriceRow.holds Try.pinned (OpenSpec.ofChange fnExactSplitPriceSpec)

/-- ITS FALSE NEIGHBOUR: 'it returns false'. Refute it at one input. -/
def fnExactSplitPriceWrong : ChangeSpec := { name := "fnExactSplitPrice", fn := fun _ => fun
  | [d1, d2] => { results := [.lit (.bool false)], args := [d1, d2] }
  | _ => none }
def FnExactSplitPriceWrongFalsely : Prop := fnExactSplitPriceRow.holds Try.pinned (OpenSpec.ofChange fnExactSplitPriceWrong)

/-- 'laws.FnPieces': WHATEVER THE INPUT: true; the input reads as it did. -/
def fnPiecesSpec : ChangeSpec := { name := "fnPieces", fn := fun _ => fun
  | [d1, d2] => { results := [.lit (.bool true)], args := [d1, d2] }
  | _ => none }
def fnPiecesRow : OpenClaim := { program := "ytajjnpcpeaiieaa", sum := "acf7dbb309736e7e823d26446483e82bbfd7ebcdae7c8064632e35388ff4b001", func := "loop.example/g01044/laws.FnPieces", spec := "fnPieces", apart := false }
def FnPiecesSaid : Prop := fnPiecesRow.holds Try.pinned (OpenSpec.ofChange fnPiecesSpec)

/-- ITS FALSE NEIGHBOUR: 'it returns false'. Refute it at one input. -/
def fnPiecesWrong : ChangeSpec := { name := "fnPieces", fn := fun _ => fun
  | [d1, d2] => { results := [.lit (.bool false)], args := [d1, d2] }
  | _ => none }
def FnPiecesWrongFalsely : Prop := fnPiecesRow.holds Try.pinned (OpenSpec.ofChange fnPiecesWrong)

/- THE SECOND FORM. 'bulk': how many values and letters a reading holds, each counted each time it is reached (what is shared counts as often as it is met; a slice's spare places count too). A statement '..UptoSaid' is the law's where the arguments, and the package variables that the reading takes, are together of bulk at most 1048576: NARROWER than '..Said'. Prove '..Said' where nothing that the law and all that it calls make is longer than what came in: it says more and counts as full. Else prove '..UptoSaid'. A law counts once. -/
mutual
def uptoBulk {H : Type} : DataW H → Nat
  | .lit (.string bytes) => bytes.length + 1
  | .lit _ => 1
  | .nil => 1
  | .ptr d => uptoBulk d + 1
  | .slice elems spare => uptoBulkAll elems + uptoBulkAll spare + 1
  | .agg parts => uptoBulkAll parts + 1
  | .iface _ d => uptoBulk d + 1
  | .map entries => uptoBulkEntries entries + 1
  | .held _ => 1
def uptoBulkAll {H : Type} : List (DataW H) → Nat
  | [] => 0
  | d :: r => uptoBulk d + uptoBulkAll r
def uptoBulkEntries {H : Type} : List (Lit × DataW H) → Nat
  | [] => 0
  | x :: r => uptoBulkEntry x + uptoBulkEntries r
def uptoBulkEntry {H : Type} : Lit × DataW H → Nat
  | (.string bytes, d) => bytes.length + uptoBulk d + 1
  | (_, d) => uptoBulk d + 1
 end
def uptoSmall : (H : Type) → List (DataW H) → Bool := fun _ ds => decide (uptoBulkAll ds ≤ 1048576)
def OpenSpec.upto (s : _root_.Go.ChangeSpec) : _root_.Go.OpenSpec := { _root_.Go.OpenSpec.ofChange s with cond := some uptoSmall }

/-- 'laws.FnExactSumOf', WHERE WHAT IT READS IS OF BULK AT MOST 1048576: true; the input reads as it did. -/
def fnExactSumOfUptoRow : OpenClaim := { program := "ytajjnpcpeaiieaa", sum := "acf7dbb309736e7e823d26446483e82bbfd7ebcdae7c8064632e35388ff4b001", func := "loop.example/g01044/laws.FnExactSumOf", spec := "fnExactSumOf", apart := false, narrowed := true }
def FnExactSumOfUptoSaid : Prop := fnExactSumOfUptoRow.holds Try.pinned (OpenSpec.upto fnExactSumOfSpec)

/-- 'laws.FnExactRoundPrice', WHERE WHAT IT READS IS OF BULK AT MOST 1048576: true; the input reads as it did. -/
def fnExactRoundPriceUptoRow : OpenClaim := { program := "ytajjnpcpeaiieaa", sum := "acf7dbb309736e7e823d26446483e82bbfd7ebcdae7c8064632e35388ff4b001", func := "loop.example/g01044/laws.FnExactRoundPrice", spec := "fnExactRoundPrice", apart := false, narrowed := true }
def FnExactRoundPriceUptoSaid : Prop := fnExactRoundPriceUptoRow.holds Try.pinned (OpenSpec.upto fnExactRoundPriceSpec)

/-- 'laws.FnExactMakingPrice', WHERE WHAT IT READS IS OF BULK AT MOST 1048576: true; the input reads as it did. -/
def fnExactMakingPriceUptoRow : OpenClaim := { program := "ytajjnpcpeaiieaa", sum := "acf7dbb309736e7e823d26446483e82bbfd7ebcdae7c8064632e35388ff4b001", func := "loop.example/g01044/laws.FnExactMakingPrice", spec := "fnExactMakingPrice", apart := false, narrowed := true }
def FnExactMakingPriceUptoSaid : Prop := fnExactMakingPriceUptoRow.holds Try.pinned (OpenSpec.upto fnExactMakingPriceSpec)

/-- 'laws.FnExactNetOf', WHERE WHAT IT READS IS OF BULK AT MOST 1048576: true; the input reads as it did. -/
def fnExactNetOfUptoRow : OpenClaim := { program := "ytajjnpcpeaiieaa", sum := "acf7dbb309736e7e823d26446483e82bbfd7ebcdae7c8064632e35388ff4b001", func := "loop.example/g01044/laws.FnExactNetOf", spec := "fnExactNetOf", apart := false, narrowed := true }
def FnExactNetOfUptoSaid : Prop := fnExactNetOfUptoRow.holds Try.pinned (OpenSpec.upto fnExactNetOfSpec)

/-- 'laws.FnExactValidTiers', WHERE WHAT IT READS IS OF BULK AT MOST 1048576: true; the input reads as it did. -/
def fnExactValidTiersUptoRow : OpenClaim := { program := "ytajjnpcpeaiieaa", sum := "acf7dbb309736e7e823d26446483e82bbfd7ebcdae7c8064632e35388ff4b001", func := "loop.example/g01044/laws.FnExactValidTiers", spec := "fnExactValidTiers", apart := false, narrowed := true }
def FnExactValidTiersUptoSaid : Prop := fnExactValidTiersUptoRow.holds Try.pinned (OpenSpec.upto fnExactValidTiersSpec)

/-- 'laws.FnExactDiscountFor', WHERE WHAT IT READS IS OF BULK AT MOST 1048576: true; the input reads as it did. -/
def fnExactDiscountForUptoRow : OpenClaim := { program := "ytajjnpcpeaiieaa", sum := "acf7dbb309736e7e823d26446483e82bbfd7ebcdae7c8064632e35388ff4b001", func := "loop.example/g01044/laws.FnExactDiscountFor", spec := "fnExactDiscountFor", apart := false, narrowed := true }
def FnExactDiscountForUptoSaid : Prop := fnExactDiscountForUptoRow.holds Try.pinned (OpenSpec.upto fnExactDiscountForSpec)

/-- 'laws.FnExactPriceOfPieces', WHERE WHAT IT READS IS OF BULK AT MOST 1048576: true; the input reads as it did. -/
def fnExactPriceOfPiecesUptoRow : OpenClaim := { program := "ytajjnpcpeaiieaa", sum := "acf7dbb309736e7e823d26446483e82bbfd7ebcdae7c8064632e35388ff4b001", func := "loop.example/g01044/laws.FnExactPriceOfPieces", spec := "fnExactPriceOfPieces", apart := false, narrowed := true }
def FnExactPriceOfPiecesUptoSaid : Prop := fnExactPriceOfPiecesUptoRow.holds Try.pinned (OpenSpec.upto fnExactPriceOfPiecesSpec)

/-- 'laws.FnExactCheaperMore', WHERE WHAT IT READS IS OF BULK AT MOST 1048576: true; the input reads as it did. -/
def fnExactCheaperMoreUptoRow : OpenClaim := { program := "ytajjnpcpeaiieaa", sum := "acf7dbb309736e7e823d26446483e82bbfd7ebcdae7c8064632e35388ff4b001", func := "loop.example/g01044/laws.FnExactCheaperMore", spec := "fnExactCheaperMore", apart := false, narrowed := true }
def FnExactCheaperMoreUptoSaid : Prop := fnExactCheaperMoreUptoRow.holds Try.pinned (OpenSpec.upto fnExactCheaperMoreSpec)

/-- 'laws.FnExactSplitPrice', WHERE WHAT IT READS IS OF BULK AT MOST 1048576: true; the input reads as it did. -/
def fnExactSplitPriceUptoRow : OpenClaim := { program := "ytajjnpcpeaiieaa", sum := "acf7dbb309736e7e823d26446483e82bbfd7ebcdae7c8064632e35388ff4b001", func := "loop.example/g01044/laws.FnExactSplitPrice", spec := "fnExactSplitPrice", apart := false, narrowed := true }
def FnExactSplitPriceUptoSaid : Prop := fnExactSplitPriceUptoRow.holds Try.pinned (OpenSpec.upto fnExactSplitPriceSpec)

/-- 'laws.FnPieces', WHERE WHAT IT READS IS OF BULK AT MOST 1048576: true; the input reads as it did. -/
def fnPiecesUptoRow : OpenClaim := { program := "ytajjnpcpeaiieaa", sum := "acf7dbb309736e7e823d26446483e82bbfd7ebcdae7c8064632e35388ff4b001", func := "loop.example/g01044/laws.FnPieces", spec := "fnPieces", apart := false, narrowed := true }
def FnPiecesUptoSaid : Prop := fnPiecesUptoRow.holds Try.pinned (OpenSpec.upto fnPiecesSpec)

end Rows
end Go.Proofs.Ytajjnpcpeaiieaa
