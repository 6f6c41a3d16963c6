/-
  DERIVED. GIVEN WITH THE SEED: THE CARDS: each row of YtlhmpmmblnbmbaaDoorRows.lean that lists a variable, with what it lists TIED to the program's text (the seventh form; the later family's looks); each row that meets fmt, with fmt's text TOLD by the authors' own Lean function (tested against real Go, not proved from fmt's source: count such statements apart). THE CARD IS WHAT COUNTS. Prove the row's statement (the work); the ties are given (YtlhmpmmblnbmbaaDoorTie.lean); close each card by the builder's one call (the guide's Derived/Test/ToyasCard.lean, 'card_holds'). Laid BY PROGRAM, IN A SANDBOX (cutbox-door.mjs). By AI agents, Wed Nov 11 2026. No macro, syntax, notation, axiom, sorry.
-/
import Derived.Test.YtlhmpmmblnbmbaaDoorRows
import GoSem.ClaimSeven
namespace Go.Proofs.YtlhmpmmblnbmbaaDoor
namespace Rows

/-- THE TIED CARD OF 'revetmentlaw32.ReportZones'. -/
def reportZonesCard : Claim7 := { stood := { row := reportZonesRow, standIns := [], harness := (true, "9a8eeaf265d1964f626dea6041a18db30e6902f0d6d62871fe9f7aac8942600e"), looks := false }, kinds := [], alts := [], laidByText := true, laidKinds := [.data, .data, .data], laidTests := true, laidLooks := .later }
def ReportZonesCardSaid : Prop := Claim7.holds Tryd.pinned (.plain (OpenSpec.ofChange reportZonesSpec)) reportZonesCard

/-- THE TIED CARD OF 'revetmentlaw32.ReportLogs'. -/
def reportLogsCard : Claim7 := { stood := { row := reportLogsRow, standIns := [], harness := (true, "9a8eeaf265d1964f626dea6041a18db30e6902f0d6d62871fe9f7aac8942600e"), looks := false }, kinds := [], alts := [], laidByText := true, laidKinds := [.data, .data, .data], laidTests := true, laidLooks := .later }
def ReportLogsCardSaid : Prop := Claim7.holds Tryd.pinned (.plain (OpenSpec.ofChange reportLogsSpec)) reportLogsCard

/-- THE TIED CARD OF 'revetmentlaw32.ReportRecs'. -/
def reportRecsCard : Claim7 := { stood := { row := reportRecsRow, standIns := [], harness := (true, "9a8eeaf265d1964f626dea6041a18db30e6902f0d6d62871fe9f7aac8942600e"), looks := false }, kinds := [], alts := [], laidByText := true, laidKinds := [.data, .data, .data], laidTests := true, laidLooks := .later }
def ReportRecsCardSaid : Prop := Claim7.holds Tryd.pinned (.plain (OpenSpec.ofChange reportRecsSpec)) reportRecsCard

/-- THE TIED CARD OF 'revetmentlaw37.ConsoleParses'. -/
def consoleParsesCard : Claim7 := { stood := { row := consoleParsesRow, standIns := [], harness := (true, "9a8eeaf265d1964f626dea6041a18db30e6902f0d6d62871fe9f7aac8942600e"), looks := false }, kinds := [], alts := [], laidByText := true, laidKinds := [.data, .pinned], laidTests := true, laidLooks := .later }
def ConsoleParsesCardSaid : Prop := Claim7.holds Tryd.pinned (.plain (OpenSpec.ofChange consoleParsesSpec)) consoleParsesCard

/-- THE TIED CARD OF 'revetmentlaw37.ConsoleFormats'. -/
def consoleFormatsCard : Claim7 := { stood := { row := consoleFormatsRow, standIns := [], harness := (true, "9a8eeaf265d1964f626dea6041a18db30e6902f0d6d62871fe9f7aac8942600e"), looks := false }, kinds := [], alts := [], laidByText := true, laidKinds := [.data, .data, .data], laidTests := true, laidLooks := .later }
def ConsoleFormatsCardSaid : Prop := Claim7.holds Tryd.pinned (.plain (OpenSpec.ofChange consoleFormatsSpec)) consoleFormatsCard

/-- THE SECOND FORM's CARD OF 'revetmentlaw32.ReportZones'. -/
def reportZonesUptoCard : Claim7 := { stood := { row := reportZonesUptoRow, standIns := [], harness := (true, "9a8eeaf265d1964f626dea6041a18db30e6902f0d6d62871fe9f7aac8942600e"), looks := false }, kinds := [], alts := [], laidByText := true, laidKinds := [.data, .data, .data], laidTests := true, laidLooks := .later }
def ReportZonesUptoCardSaid : Prop := Claim7.holds Tryd.pinned (.plain (OpenSpec.upto reportZonesSpec)) reportZonesUptoCard

/-- THE SECOND FORM's CARD OF 'revetmentlaw32.ReportLogs'. -/
def reportLogsUptoCard : Claim7 := { stood := { row := reportLogsUptoRow, standIns := [], harness := (true, "9a8eeaf265d1964f626dea6041a18db30e6902f0d6d62871fe9f7aac8942600e"), looks := false }, kinds := [], alts := [], laidByText := true, laidKinds := [.data, .data, .data], laidTests := true, laidLooks := .later }
def ReportLogsUptoCardSaid : Prop := Claim7.holds Tryd.pinned (.plain (OpenSpec.upto reportLogsSpec)) reportLogsUptoCard

/-- THE SECOND FORM's CARD OF 'revetmentlaw32.ReportRecs'. -/
def reportRecsUptoCard : Claim7 := { stood := { row := reportRecsUptoRow, standIns := [], harness := (true, "9a8eeaf265d1964f626dea6041a18db30e6902f0d6d62871fe9f7aac8942600e"), looks := false }, kinds := [], alts := [], laidByText := true, laidKinds := [.data, .data, .data], laidTests := true, laidLooks := .later }
def ReportRecsUptoCardSaid : Prop := Claim7.holds Tryd.pinned (.plain (OpenSpec.upto reportRecsSpec)) reportRecsUptoCard

/-- THE SECOND FORM's CARD OF 'revetmentlaw37.ConsoleParses'. -/
def consoleParsesUptoCard : Claim7 := { stood := { row := consoleParsesUptoRow, standIns := [], harness := (true, "9a8eeaf265d1964f626dea6041a18db30e6902f0d6d62871fe9f7aac8942600e"), looks := false }, kinds := [], alts := [], laidByText := true, laidKinds := [.data, .pinned], laidTests := true, laidLooks := .later }
def ConsoleParsesUptoCardSaid : Prop := Claim7.holds Tryd.pinned (.plain (OpenSpec.upto consoleParsesSpec)) consoleParsesUptoCard

/-- THE SECOND FORM's CARD OF 'revetmentlaw37.ConsoleFormats'. -/
def consoleFormatsUptoCard : Claim7 := { stood := { row := consoleFormatsUptoRow, standIns := [], harness := (true, "9a8eeaf265d1964f626dea6041a18db30e6902f0d6d62871fe9f7aac8942600e"), looks := false }, kinds := [], alts := [], laidByText := true, laidKinds := [.data, .data, .data], laidTests := true, laidLooks := .later }
def ConsoleFormatsUptoCardSaid : Prop := Claim7.holds Tryd.pinned (.plain (OpenSpec.upto consoleFormatsSpec)) consoleFormatsUptoCard
end Rows
end Go.Proofs.YtlhmpmmblnbmbaaDoor
