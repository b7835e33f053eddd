/-
  DERIVED. GIVEN WITH THE SEED: THE CARDS: each row of YtajjnpcpeaiieaaDoorRows.lean that lists a variable, with what it lists TIED to the program's text (the seventh form; the later family's looks); each row that meets fmt, with fmt's text TOLD by the authors' own Lean function (tested against real Go, not proved from fmt's source: count such statements apart). THE CARD IS WHAT COUNTS. Prove the row's statement (the work); the ties are given (YtajjnpcpeaiieaaDoorTie.lean); close each card by the builder's one call (the guide's Derived/Test/ToyasCard.lean, 'card_holds'). Laid BY PROGRAM, IN A SANDBOX (cutbox-door.mjs). By AI agents, Wed Nov 11 2026. No macro, syntax, notation, axiom, sorry.
-/
import Derived.Test.YtajjnpcpeaiieaaDoorRows
import GoSem.ClaimSeven
namespace Go.Proofs.YtajjnpcpeaiieaaDoor
namespace Rows

/-- THE TIED CARD OF 'laws.FnExactPriceText'. -/
def fnExactPriceTextCard : Claim7 := { stood := { row := fnExactPriceTextRow, standIns := [], harness := (true, "7330500cb9a9bc8fd8b3a091c2e97839abf5c7329dda56180bdaf94ef425df05"), looks := false }, kinds := [], alts := [], laidByText := true, laidKinds := [.data, .data, .data], laidTests := true, laidLooks := .later }
def FnExactPriceTextCardSaid : Prop := Claim7.holds Tryd.pinned (.plain (OpenSpec.ofChange fnExactPriceTextSpec)) fnExactPriceTextCard

/-- THE TIED CARD OF 'laws.FnExactReadPrice'. -/
def fnExactReadPriceCard : Claim7 := { stood := { row := fnExactReadPriceRow, standIns := [], harness := (true, "7330500cb9a9bc8fd8b3a091c2e97839abf5c7329dda56180bdaf94ef425df05"), looks := false }, kinds := [], alts := [], laidByText := true, laidKinds := [.data, .data, .data], laidTests := true, laidLooks := .later }
def FnExactReadPriceCardSaid : Prop := Claim7.holds Tryd.pinned (.plain (OpenSpec.ofChange fnExactReadPriceSpec)) fnExactReadPriceCard

/-- THE TIED CARD OF 'laws.FnSplitPrices'. -/
def fnSplitPricesCard : Claim7 := { stood := { row := fnSplitPricesRow, standIns := [], harness := (true, "7330500cb9a9bc8fd8b3a091c2e97839abf5c7329dda56180bdaf94ef425df05"), looks := false }, kinds := [], alts := [], laidByText := true, laidKinds := [.data, .data, .data], laidTests := true, laidLooks := .later }
def FnSplitPricesCardSaid : Prop := Claim7.holds Tryd.pinned (.plain (OpenSpec.ofChange fnSplitPricesSpec)) fnSplitPricesCard

/-- THE SECOND FORM's CARD OF 'laws.FnExactPriceText'. -/
def fnExactPriceTextUptoCard : Claim7 := { stood := { row := fnExactPriceTextUptoRow, standIns := [], harness := (true, "7330500cb9a9bc8fd8b3a091c2e97839abf5c7329dda56180bdaf94ef425df05"), looks := false }, kinds := [], alts := [], laidByText := true, laidKinds := [.data, .data, .data], laidTests := true, laidLooks := .later }
def FnExactPriceTextUptoCardSaid : Prop := Claim7.holds Tryd.pinned (.plain (OpenSpec.upto fnExactPriceTextSpec)) fnExactPriceTextUptoCard

/-- THE SECOND FORM's CARD OF 'laws.FnExactReadPrice'. -/
def fnExactReadPriceUptoCard : Claim7 := { stood := { row := fnExactReadPriceUptoRow, standIns := [], harness := (true, "7330500cb9a9bc8fd8b3a091c2e97839abf5c7329dda56180bdaf94ef425df05"), looks := false }, kinds := [], alts := [], laidByText := true, laidKinds := [.data, .data, .data], laidTests := true, laidLooks := .later }
def FnExactReadPriceUptoCardSaid : Prop := Claim7.holds Tryd.pinned (.plain (OpenSpec.upto fnExactReadPriceSpec)) fnExactReadPriceUptoCard

/-- THE SECOND FORM's CARD OF 'laws.FnSplitPrices'. -/
def fnSplitPricesUptoCard : Claim7 := { stood := { row := fnSplitPricesUptoRow, standIns := [], harness := (true, "7330500cb9a9bc8fd8b3a091c2e97839abf5c7329dda56180bdaf94ef425df05"), looks := false }, kinds := [], alts := [], laidByText := true, laidKinds := [.data, .data, .data], laidTests := true, laidLooks := .later }
def FnSplitPricesUptoCardSaid : Prop := Claim7.holds Tryd.pinned (.plain (OpenSpec.upto fnSplitPricesSpec)) fnSplitPricesUptoCard
end Rows
end Go.Proofs.YtajjnpcpeaiieaaDoor
