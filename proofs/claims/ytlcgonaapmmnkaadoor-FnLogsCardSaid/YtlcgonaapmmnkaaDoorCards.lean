/-
  DERIVED. GIVEN WITH THE SEED: THE CARDS: each row of YtlcgonaapmmnkaaDoorRows.lean that lists a variable, with what it lists TIED to the program's text (the seventh form; the later family's looks); each row that meets fmt, with fmt's text TOLD by the authors' own Lean function (tested against real Go, not proved from fmt's source: count such statements apart). THE CARD IS WHAT COUNTS. Prove the row's statement (the work); the ties are given (YtlcgonaapmmnkaaDoorTie.lean); close each card by the builder's one call (the guide's Derived/Test/ToyasCard.lean, 'card_holds'). Laid BY PROGRAM, IN A SANDBOX (cutbox-door.mjs). By AI agents, Wed Nov 11 2026. No macro, syntax, notation, axiom, sorry.
-/
import Derived.Test.YtlcgonaapmmnkaaDoorRows
import GoSem.ClaimSeven
namespace Go.Proofs.YtlcgonaapmmnkaaDoor
namespace Rows

/-- THE TIED CARD OF 'laws.FnExactFrameOf'. -/
def fnExactFrameOfCard : Claim7 := { stood := { row := fnExactFrameOfRow, standIns := [], harness := (true, "5b233d54facc7839358642091071c9c5c6677a78d6b8d2862a3374d7143f204d"), looks := false }, kinds := [], alts := [], laidByText := true, laidKinds := [.data, .data, .data], laidTests := true, laidLooks := .later }
def FnExactFrameOfCardSaid : Prop := Claim7.holds Tryd.pinned (.plain (OpenSpec.ofChange fnExactFrameOfSpec)) fnExactFrameOfCard

/-- THE TIED CARD OF 'laws.FnExactFlushLog'. -/
def fnExactFlushLogCard : Claim7 := { stood := { row := fnExactFlushLogRow, standIns := [], harness := (true, "5b233d54facc7839358642091071c9c5c6677a78d6b8d2862a3374d7143f204d"), looks := false }, kinds := [], alts := [], laidByText := true, laidKinds := [.data, .data, .data, .data, .pinned], laidTests := true, laidLooks := .later }
def FnExactFlushLogCardSaid : Prop := Claim7.holds Tryd.pinned (.plain (OpenSpec.ofChange fnExactFlushLogSpec)) fnExactFlushLogCard

/-- THE TIED CARD OF 'laws.FnExactLosePower'. -/
def fnExactLosePowerCard : Claim7 := { stood := { row := fnExactLosePowerRow, standIns := [], harness := (true, "5b233d54facc7839358642091071c9c5c6677a78d6b8d2862a3374d7143f204d"), looks := false }, kinds := [], alts := [], laidByText := true, laidKinds := [.data, .data, .data, .data, .pinned], laidTests := true, laidLooks := .later }
def FnExactLosePowerCardSaid : Prop := Claim7.holds Tryd.pinned (.plain (OpenSpec.ofChange fnExactLosePowerSpec)) fnExactLosePowerCard

/-- THE TIED CARD OF 'laws.FnExactRecoverLog'. -/
def fnExactRecoverLogCard : Claim7 := { stood := { row := fnExactRecoverLogRow, standIns := [], harness := (true, "5b233d54facc7839358642091071c9c5c6677a78d6b8d2862a3374d7143f204d"), looks := false }, kinds := [], alts := [], laidByText := true, laidKinds := [.data, .data, .data, .data, .pinned], laidTests := true, laidLooks := .later }
def FnExactRecoverLogCardSaid : Prop := Claim7.holds Tryd.pinned (.plain (OpenSpec.ofChange fnExactRecoverLogSpec)) fnExactRecoverLogCard

/-- THE TIED CARD OF 'laws.FnExactReadFrames'. -/
def fnExactReadFramesCard : Claim7 := { stood := { row := fnExactReadFramesRow, standIns := [], harness := (true, "5b233d54facc7839358642091071c9c5c6677a78d6b8d2862a3374d7143f204d"), looks := false }, kinds := [], alts := [], laidByText := true, laidKinds := [.data, .data, .data, .data, .pinned], laidTests := true, laidLooks := .later }
def FnExactReadFramesCardSaid : Prop := Claim7.holds Tryd.pinned (.plain (OpenSpec.ofChange fnExactReadFramesSpec)) fnExactReadFramesCard

/-- THE TIED CARD OF 'laws.FnExactWriteEntry'. -/
def fnExactWriteEntryCard : Claim7 := { stood := { row := fnExactWriteEntryRow, standIns := [], harness := (true, "5b233d54facc7839358642091071c9c5c6677a78d6b8d2862a3374d7143f204d"), looks := false }, kinds := [], alts := [], laidByText := true, laidKinds := [.data, .data, .data, .data, .pinned], laidTests := true, laidLooks := .later }
def FnExactWriteEntryCardSaid : Prop := Claim7.holds Tryd.pinned (.plain (OpenSpec.ofChange fnExactWriteEntrySpec)) fnExactWriteEntryCard

/-- THE TIED CARD OF 'laws.FnExactCountKinds'. -/
def fnExactCountKindsCard : Claim7 := { stood := { row := fnExactCountKindsRow, standIns := [], harness := (true, "5b233d54facc7839358642091071c9c5c6677a78d6b8d2862a3374d7143f204d"), looks := false }, kinds := [], alts := [], laidByText := true, laidKinds := [.data, .data, .data, .data, .pinned], laidTests := true, laidLooks := .later }
def FnExactCountKindsCardSaid : Prop := Claim7.holds Tryd.pinned (.plain (OpenSpec.ofChange fnExactCountKindsSpec)) fnExactCountKindsCard

/-- THE TIED CARD OF 'laws.FnExactEntriesOf'. -/
def fnExactEntriesOfCard : Claim7 := { stood := { row := fnExactEntriesOfRow, standIns := [], harness := (true, "5b233d54facc7839358642091071c9c5c6677a78d6b8d2862a3374d7143f204d"), looks := false }, kinds := [], alts := [], laidByText := true, laidKinds := [.data, .data, .data, .data, .pinned], laidTests := true, laidLooks := .later }
def FnExactEntriesOfCardSaid : Prop := Claim7.holds Tryd.pinned (.plain (OpenSpec.ofChange fnExactEntriesOfSpec)) fnExactEntriesOfCard

/-- THE TIED CARD OF 'laws.FnExactEntriesBetween'. -/
def fnExactEntriesBetweenCard : Claim7 := { stood := { row := fnExactEntriesBetweenRow, standIns := [], harness := (true, "5b233d54facc7839358642091071c9c5c6677a78d6b8d2862a3374d7143f204d"), looks := false }, kinds := [], alts := [], laidByText := true, laidKinds := [.data, .data, .data, .data, .pinned], laidTests := true, laidLooks := .later }
def FnExactEntriesBetweenCardSaid : Prop := Claim7.holds Tryd.pinned (.plain (OpenSpec.ofChange fnExactEntriesBetweenSpec)) fnExactEntriesBetweenCard

/-- THE TIED CARD OF 'laws.FnPowerLoss'. -/
def fnPowerLossCard : Claim7 := { stood := { row := fnPowerLossRow, standIns := [], harness := (true, "5b233d54facc7839358642091071c9c5c6677a78d6b8d2862a3374d7143f204d"), looks := false }, kinds := [], alts := [], laidByText := true, laidKinds := [.data, .data, .data, .data, .pinned], laidTests := true, laidLooks := .later }
def FnPowerLossCardSaid : Prop := Claim7.holds Tryd.pinned (.plain (OpenSpec.ofChange fnPowerLossSpec)) fnPowerLossCard

/-- THE TIED CARD OF 'laws.FnLogs'. -/
def fnLogsCard : Claim7 := { stood := { row := fnLogsRow, standIns := [], harness := (true, "5b233d54facc7839358642091071c9c5c6677a78d6b8d2862a3374d7143f204d"), looks := false }, kinds := [], alts := [], laidByText := true, laidKinds := [.data, .data, .data, .data, .pinned], laidTests := true, laidLooks := .later }
def FnLogsCardSaid : Prop := Claim7.holds Tryd.pinned (.plain (OpenSpec.ofChange fnLogsSpec)) fnLogsCard

/-- THE SECOND FORM's CARD OF 'laws.FnExactFrameOf'. -/
def fnExactFrameOfUptoCard : Claim7 := { stood := { row := fnExactFrameOfUptoRow, standIns := [], harness := (true, "5b233d54facc7839358642091071c9c5c6677a78d6b8d2862a3374d7143f204d"), looks := false }, kinds := [], alts := [], laidByText := true, laidKinds := [.data, .data, .data], laidTests := true, laidLooks := .later }
def FnExactFrameOfUptoCardSaid : Prop := Claim7.holds Tryd.pinned (.plain (OpenSpec.upto fnExactFrameOfSpec)) fnExactFrameOfUptoCard

/-- THE SECOND FORM's CARD OF 'laws.FnExactFlushLog'. -/
def fnExactFlushLogUptoCard : Claim7 := { stood := { row := fnExactFlushLogUptoRow, standIns := [], harness := (true, "5b233d54facc7839358642091071c9c5c6677a78d6b8d2862a3374d7143f204d"), looks := false }, kinds := [], alts := [], laidByText := true, laidKinds := [.data, .data, .data, .data, .pinned], laidTests := true, laidLooks := .later }
def FnExactFlushLogUptoCardSaid : Prop := Claim7.holds Tryd.pinned (.plain (OpenSpec.upto fnExactFlushLogSpec)) fnExactFlushLogUptoCard

/-- THE SECOND FORM's CARD OF 'laws.FnExactLosePower'. -/
def fnExactLosePowerUptoCard : Claim7 := { stood := { row := fnExactLosePowerUptoRow, standIns := [], harness := (true, "5b233d54facc7839358642091071c9c5c6677a78d6b8d2862a3374d7143f204d"), looks := false }, kinds := [], alts := [], laidByText := true, laidKinds := [.data, .data, .data, .data, .pinned], laidTests := true, laidLooks := .later }
def FnExactLosePowerUptoCardSaid : Prop := Claim7.holds Tryd.pinned (.plain (OpenSpec.upto fnExactLosePowerSpec)) fnExactLosePowerUptoCard

/-- THE SECOND FORM's CARD OF 'laws.FnExactRecoverLog'. -/
def fnExactRecoverLogUptoCard : Claim7 := { stood := { row := fnExactRecoverLogUptoRow, standIns := [], harness := (true, "5b233d54facc7839358642091071c9c5c6677a78d6b8d2862a3374d7143f204d"), looks := false }, kinds := [], alts := [], laidByText := true, laidKinds := [.data, .data, .data, .data, .pinned], laidTests := true, laidLooks := .later }
def FnExactRecoverLogUptoCardSaid : Prop := Claim7.holds Tryd.pinned (.plain (OpenSpec.upto fnExactRecoverLogSpec)) fnExactRecoverLogUptoCard

/-- THE SECOND FORM's CARD OF 'laws.FnExactReadFrames'. -/
def fnExactReadFramesUptoCard : Claim7 := { stood := { row := fnExactReadFramesUptoRow, standIns := [], harness := (true, "5b233d54facc7839358642091071c9c5c6677a78d6b8d2862a3374d7143f204d"), looks := false }, kinds := [], alts := [], laidByText := true, laidKinds := [.data, .data, .data, .data, .pinned], laidTests := true, laidLooks := .later }
def FnExactReadFramesUptoCardSaid : Prop := Claim7.holds Tryd.pinned (.plain (OpenSpec.upto fnExactReadFramesSpec)) fnExactReadFramesUptoCard

/-- THE SECOND FORM's CARD OF 'laws.FnExactWriteEntry'. -/
def fnExactWriteEntryUptoCard : Claim7 := { stood := { row := fnExactWriteEntryUptoRow, standIns := [], harness := (true, "5b233d54facc7839358642091071c9c5c6677a78d6b8d2862a3374d7143f204d"), looks := false }, kinds := [], alts := [], laidByText := true, laidKinds := [.data, .data, .data, .data, .pinned], laidTests := true, laidLooks := .later }
def FnExactWriteEntryUptoCardSaid : Prop := Claim7.holds Tryd.pinned (.plain (OpenSpec.upto fnExactWriteEntrySpec)) fnExactWriteEntryUptoCard

/-- THE SECOND FORM's CARD OF 'laws.FnExactCountKinds'. -/
def fnExactCountKindsUptoCard : Claim7 := { stood := { row := fnExactCountKindsUptoRow, standIns := [], harness := (true, "5b233d54facc7839358642091071c9c5c6677a78d6b8d2862a3374d7143f204d"), looks := false }, kinds := [], alts := [], laidByText := true, laidKinds := [.data, .data, .data, .data, .pinned], laidTests := true, laidLooks := .later }
def FnExactCountKindsUptoCardSaid : Prop := Claim7.holds Tryd.pinned (.plain (OpenSpec.upto fnExactCountKindsSpec)) fnExactCountKindsUptoCard

/-- THE SECOND FORM's CARD OF 'laws.FnExactEntriesOf'. -/
def fnExactEntriesOfUptoCard : Claim7 := { stood := { row := fnExactEntriesOfUptoRow, standIns := [], harness := (true, "5b233d54facc7839358642091071c9c5c6677a78d6b8d2862a3374d7143f204d"), looks := false }, kinds := [], alts := [], laidByText := true, laidKinds := [.data, .data, .data, .data, .pinned], laidTests := true, laidLooks := .later }
def FnExactEntriesOfUptoCardSaid : Prop := Claim7.holds Tryd.pinned (.plain (OpenSpec.upto fnExactEntriesOfSpec)) fnExactEntriesOfUptoCard

/-- THE SECOND FORM's CARD OF 'laws.FnExactEntriesBetween'. -/
def fnExactEntriesBetweenUptoCard : Claim7 := { stood := { row := fnExactEntriesBetweenUptoRow, standIns := [], harness := (true, "5b233d54facc7839358642091071c9c5c6677a78d6b8d2862a3374d7143f204d"), looks := false }, kinds := [], alts := [], laidByText := true, laidKinds := [.data, .data, .data, .data, .pinned], laidTests := true, laidLooks := .later }
def FnExactEntriesBetweenUptoCardSaid : Prop := Claim7.holds Tryd.pinned (.plain (OpenSpec.upto fnExactEntriesBetweenSpec)) fnExactEntriesBetweenUptoCard

/-- THE SECOND FORM's CARD OF 'laws.FnPowerLoss'. -/
def fnPowerLossUptoCard : Claim7 := { stood := { row := fnPowerLossUptoRow, standIns := [], harness := (true, "5b233d54facc7839358642091071c9c5c6677a78d6b8d2862a3374d7143f204d"), looks := false }, kinds := [], alts := [], laidByText := true, laidKinds := [.data, .data, .data, .data, .pinned], laidTests := true, laidLooks := .later }
def FnPowerLossUptoCardSaid : Prop := Claim7.holds Tryd.pinned (.plain (OpenSpec.upto fnPowerLossSpec)) fnPowerLossUptoCard

/-- THE SECOND FORM's CARD OF 'laws.FnLogs'. -/
def fnLogsUptoCard : Claim7 := { stood := { row := fnLogsUptoRow, standIns := [], harness := (true, "5b233d54facc7839358642091071c9c5c6677a78d6b8d2862a3374d7143f204d"), looks := false }, kinds := [], alts := [], laidByText := true, laidKinds := [.data, .data, .data, .data, .pinned], laidTests := true, laidLooks := .later }
def FnLogsUptoCardSaid : Prop := Claim7.holds Tryd.pinned (.plain (OpenSpec.upto fnLogsSpec)) fnLogsUptoCard
end Rows
end Go.Proofs.YtlcgonaapmmnkaaDoor
