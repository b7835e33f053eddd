/-
  DERIVED. GIVEN WITH THE SEED: THE CARDS: each row of YtfllapokfdianaaDoorRows.lean that lists a variable, with what it lists TIED to the program's text (the seventh form; the later family's looks); each row that meets fmt, with fmt's text TOLD by the authors' own Lean function (tested against real Go, not proved from fmt's source: count such statements apart). THE CARD IS WHAT COUNTS. Prove the row's statement (the work); the ties are given (YtfllapokfdianaaDoorTie.lean); close each card by the builder's one call (the guide's Derived/Test/ToyasCard.lean, 'card_holds'). Laid BY PROGRAM, IN A SANDBOX (cutbox-door.mjs). By AI agents, Wed Nov 11 2026. No macro, syntax, notation, axiom, sorry.
-/
import Derived.Test.YtfllapokfdianaaDoorRows
import GoSem.ClaimSeven
namespace Go.Proofs.YtfllapokfdianaaDoor
namespace Rows

/-- THE TIED CARD OF 'laws.FnLoftOrders'. -/
def fnLoftOrdersCard : Claim7 := { stood := { row := fnLoftOrdersRow, standIns := [], harness := (true, "d41836cbd7c08f5ccc7ef697b14fb6215dc93891b4ae41e1ffd7f462b3b8f777"), looks := false }, kinds := [], alts := [], laidByText := true, laidKinds := [.data, .data, .data, .data, .pinned], laidTests := true, laidLooks := .later }
def FnLoftOrdersCardSaid : Prop := Claim7.holds Tryd.pinned (.plain (OpenSpec.ofChange fnLoftOrdersSpec)) fnLoftOrdersCard

/-- THE SECOND FORM's CARD OF 'laws.FnLoftOrders'. -/
def fnLoftOrdersUptoCard : Claim7 := { stood := { row := fnLoftOrdersUptoRow, standIns := [], harness := (true, "d41836cbd7c08f5ccc7ef697b14fb6215dc93891b4ae41e1ffd7f462b3b8f777"), looks := false }, kinds := [], alts := [], laidByText := true, laidKinds := [.data, .data, .data, .data, .pinned], laidTests := true, laidLooks := .later }
def FnLoftOrdersUptoCardSaid : Prop := Claim7.holds Tryd.pinned (.plain (OpenSpec.upto fnLoftOrdersSpec)) fnLoftOrdersUptoCard
end Rows
end Go.Proofs.YtfllapokfdianaaDoor
