/-
  DERIVED. GIVEN WITH THE SEED: THE CARDS: each row of YtnmfndfldhgaeaaDoorRows.lean that lists a variable, with what it lists TIED to the program's text (the seventh form; the later family's looks); each row that meets fmt, with fmt's text TOLD by the authors' own Lean function (tested against real Go, not proved from fmt's source: count such statements apart). THE CARD IS WHAT COUNTS. Prove the row's statement (the work); the ties are given (YtnmfndfldhgaeaaDoorTie.lean); close each card by the builder's one call (the guide's Derived/Test/ToyasCard.lean, 'card_holds'). Laid BY PROGRAM, IN A SANDBOX (cutbox-door.mjs). By AI agents, Wed Nov 11 2026. No macro, syntax, notation, axiom, sorry.
-/
import Derived.Test.YtnmfndfldhgaeaaDoorRows
import GoSem.ClaimSeven
namespace Go.Proofs.YtnmfndfldhgaeaaDoor
namespace Rows

/-- THE TIED CARD OF 'laws.FnExactClockText'. -/
def fnExactClockTextCard : Claim7 := { stood := { row := fnExactClockTextRow, standIns := [], harness := (true, "64b2df163aa3ec54776fba9e0b81f1aebbb9635527c18903f8505f5379698fc1"), looks := false }, kinds := [], alts := [], laidByText := true, laidKinds := [.data, .data, .data], laidTests := true, laidLooks := .later }
def FnExactClockTextCardSaid : Prop := Claim7.holds Tryd.pinned (.plain (OpenSpec.ofChange fnExactClockTextSpec)) fnExactClockTextCard

/-- THE TIED CARD OF 'laws.FnExactReadClock'. -/
def fnExactReadClockCard : Claim7 := { stood := { row := fnExactReadClockRow, standIns := [], harness := (true, "64b2df163aa3ec54776fba9e0b81f1aebbb9635527c18903f8505f5379698fc1"), looks := false }, kinds := [], alts := [], laidByText := true, laidKinds := [.data, .data, .data], laidTests := true, laidLooks := .later }
def FnExactReadClockCardSaid : Prop := Claim7.holds Tryd.pinned (.plain (OpenSpec.ofChange fnExactReadClockSpec)) fnExactReadClockCard

/-- THE TIED CARD OF 'laws.FnCheapHands'. -/
def fnCheapHandsCard : Claim7 := { stood := { row := fnCheapHandsRow, standIns := [], harness := (true, "64b2df163aa3ec54776fba9e0b81f1aebbb9635527c18903f8505f5379698fc1"), looks := false }, kinds := [], alts := [], laidByText := true, laidKinds := [.data, .data, .data], laidTests := true, laidLooks := .later }
def FnCheapHandsCardSaid : Prop := Claim7.holds Tryd.pinned (.plain (OpenSpec.ofChange fnCheapHandsSpec)) fnCheapHandsCard

/-- THE SECOND FORM's CARD OF 'laws.FnExactClockText'. -/
def fnExactClockTextUptoCard : Claim7 := { stood := { row := fnExactClockTextUptoRow, standIns := [], harness := (true, "64b2df163aa3ec54776fba9e0b81f1aebbb9635527c18903f8505f5379698fc1"), looks := false }, kinds := [], alts := [], laidByText := true, laidKinds := [.data, .data, .data], laidTests := true, laidLooks := .later }
def FnExactClockTextUptoCardSaid : Prop := Claim7.holds Tryd.pinned (.plain (OpenSpec.upto fnExactClockTextSpec)) fnExactClockTextUptoCard

/-- THE SECOND FORM's CARD OF 'laws.FnExactReadClock'. -/
def fnExactReadClockUptoCard : Claim7 := { stood := { row := fnExactReadClockUptoRow, standIns := [], harness := (true, "64b2df163aa3ec54776fba9e0b81f1aebbb9635527c18903f8505f5379698fc1"), looks := false }, kinds := [], alts := [], laidByText := true, laidKinds := [.data, .data, .data], laidTests := true, laidLooks := .later }
def FnExactReadClockUptoCardSaid : Prop := Claim7.holds Tryd.pinned (.plain (OpenSpec.upto fnExactReadClockSpec)) fnExactReadClockUptoCard

/-- THE SECOND FORM's CARD OF 'laws.FnCheapHands'. -/
def fnCheapHandsUptoCard : Claim7 := { stood := { row := fnCheapHandsUptoRow, standIns := [], harness := (true, "64b2df163aa3ec54776fba9e0b81f1aebbb9635527c18903f8505f5379698fc1"), looks := false }, kinds := [], alts := [], laidByText := true, laidKinds := [.data, .data, .data], laidTests := true, laidLooks := .later }
def FnCheapHandsUptoCardSaid : Prop := Claim7.holds Tryd.pinned (.plain (OpenSpec.upto fnCheapHandsSpec)) fnCheapHandsUptoCard
end Rows
end Go.Proofs.YtnmfndfldhgaeaaDoor
