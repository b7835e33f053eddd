/-
  DERIVED. GIVEN WITH THE SEED: THE CARDS: each row of YtdamlohbplfdgaaDoorRows.lean that lists a variable, with what it lists TIED to the program's text (the seventh form; the later family's looks); each row that meets fmt, with fmt's text TOLD by the authors' own Lean function (tested against real Go, not proved from fmt's source: count such statements apart). THE CARD IS WHAT COUNTS. Prove the row's statement (the work); the ties are given (YtdamlohbplfdgaaDoorTie.lean); close each card by the builder's one call (the guide's Derived/Test/ToyasCard.lean, 'card_holds'). Laid BY PROGRAM, IN A SANDBOX (cutbox-door.mjs). By AI agents, Wed Nov 11 2026. No macro, syntax, notation, axiom, sorry.
-/
import Derived.Test.YtdamlohbplfdgaaDoorRows
import GoSem.ClaimSeven
namespace Go.Proofs.YtdamlohbplfdgaaDoor
namespace Rows

/-- THE TIED CARD OF 'laws.FnCheapHands'. -/
def fnCheapHandsCard : Claim7 := { stood := { row := fnCheapHandsRow, standIns := [], harness := (true, "a42d9d18731ed810a1b4b07d7f1fc93ec1f298a27f9ed8d5c16e96e1a8828384"), looks := false }, kinds := [], alts := [], laidByText := true, laidKinds := [.data, .data, .data], laidTests := true, laidLooks := .later }
def FnCheapHandsCardSaid : Prop := Claim7.holds Tryd.pinned (.plain (OpenSpec.ofChange fnCheapHandsSpec)) fnCheapHandsCard

/-- THE SECOND FORM's CARD OF 'laws.FnCheapHands'. -/
def fnCheapHandsUptoCard : Claim7 := { stood := { row := fnCheapHandsUptoRow, standIns := [], harness := (true, "a42d9d18731ed810a1b4b07d7f1fc93ec1f298a27f9ed8d5c16e96e1a8828384"), looks := false }, kinds := [], alts := [], laidByText := true, laidKinds := [.data, .data, .data], laidTests := true, laidLooks := .later }
def FnCheapHandsUptoCardSaid : Prop := Claim7.holds Tryd.pinned (.plain (OpenSpec.upto fnCheapHandsSpec)) fnCheapHandsUptoCard
end Rows
end Go.Proofs.YtdamlohbplfdgaaDoor
