/-
  DERIVED. GIVEN WITH THE SEED: THE CARDS: each row of YtnfcgofpfhajoaaDoorRows.lean that lists a variable, with what it lists TIED to the program's text (the seventh form; the later family's looks); each row that meets fmt, with fmt's text TOLD by the authors' own Lean function (tested against real Go, not proved from fmt's source: count such statements apart). THE CARD IS WHAT COUNTS. Prove the row's statement (the work); the ties are given (YtnfcgofpfhajoaaDoorTie.lean); close each card by the builder's one call (the guide's Derived/Test/ToyasCard.lean, 'card_holds'). Laid BY PROGRAM, IN A SANDBOX (cutbox-door.mjs). By AI agents, Wed Nov 11 2026. No macro, syntax, notation, axiom, sorry.
-/
import Derived.Test.YtnfcgofpfhajoaaDoorRows
import GoSem.ClaimSeven
namespace Go.Proofs.YtnfcgofpfhajoaaDoor
namespace Rows

/-- THE TIED CARD OF 'laws.FnExactReadOrder'. -/
def fnExactReadOrderCard : Claim7 := { stood := { row := fnExactReadOrderRow, standIns := [], harness := (true, "da8f91edc14fb93ed7d7a740e7ec6057d49b1905a000da9c119c9ca42baf397f"), looks := false }, kinds := [], alts := [], laidByText := true, laidKinds := [.data, .data, .data, .data, .pinned], laidTests := true, laidLooks := .later }
def FnExactReadOrderCardSaid : Prop := Claim7.holds Tryd.pinned (.plain (OpenSpec.ofChange fnExactReadOrderSpec)) fnExactReadOrderCard

/-- THE TIED CARD OF 'laws.FnExactIsChange'. -/
def fnExactIsChangeCard : Claim7 := { stood := { row := fnExactIsChangeRow, standIns := [], harness := (true, "da8f91edc14fb93ed7d7a740e7ec6057d49b1905a000da9c119c9ca42baf397f"), looks := false }, kinds := [], alts := [], laidByText := true, laidKinds := [.data, .pinned], laidTests := true, laidLooks := .later }
def FnExactIsChangeCardSaid : Prop := Claim7.holds Tryd.pinned (.plain (OpenSpec.ofChange fnExactIsChangeSpec)) fnExactIsChangeCard

/-- THE SECOND FORM's CARD OF 'laws.FnExactReadOrder'. -/
def fnExactReadOrderUptoCard : Claim7 := { stood := { row := fnExactReadOrderUptoRow, standIns := [], harness := (true, "da8f91edc14fb93ed7d7a740e7ec6057d49b1905a000da9c119c9ca42baf397f"), looks := false }, kinds := [], alts := [], laidByText := true, laidKinds := [.data, .data, .data, .data, .pinned], laidTests := true, laidLooks := .later }
def FnExactReadOrderUptoCardSaid : Prop := Claim7.holds Tryd.pinned (.plain (OpenSpec.upto fnExactReadOrderSpec)) fnExactReadOrderUptoCard

/-- THE SECOND FORM's CARD OF 'laws.FnExactIsChange'. -/
def fnExactIsChangeUptoCard : Claim7 := { stood := { row := fnExactIsChangeUptoRow, standIns := [], harness := (true, "da8f91edc14fb93ed7d7a740e7ec6057d49b1905a000da9c119c9ca42baf397f"), looks := false }, kinds := [], alts := [], laidByText := true, laidKinds := [.data, .pinned], laidTests := true, laidLooks := .later }
def FnExactIsChangeUptoCardSaid : Prop := Claim7.holds Tryd.pinned (.plain (OpenSpec.upto fnExactIsChangeSpec)) fnExactIsChangeUptoCard
end Rows
end Go.Proofs.YtnfcgofpfhajoaaDoor
