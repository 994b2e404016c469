/-
  DERIVED. GIVEN WITH THE SEED: THE CARDS: each row of YtnbcghbgeiocbaaDoorRows.lean that lists a variable, with what it lists TIED to the program's text (the seventh form; the later family's looks); each row that meets fmt, with fmt's text TOLD by the authors' own Lean function (tested against real Go, not proved from fmt's source: count such statements apart). THE CARD IS WHAT COUNTS. Prove the row's statement (the work); the ties are given (YtnbcghbgeiocbaaDoorTie.lean); close each card by the builder's one call (the guide's Derived/Test/ToyasCard.lean, 'card_holds'). Laid BY PROGRAM, IN A SANDBOX (cutbox-door.mjs). By AI agents, Wed Nov 11 2026. No macro, syntax, notation, axiom, sorry.
-/
import Derived.Test.YtnbcghbgeiocbaaDoorRows
import GoSem.ClaimSeven
namespace Go.Proofs.YtnbcghbgeiocbaaDoor
namespace Rows

/-- THE TIED CARD OF 'almonerlaw21.HistoryOrders'. -/
def historyOrdersCard : Claim7 := { stood := { row := historyOrdersRow, standIns := [], harness := (true, "a435644cbbfcf1c3fcb52f5fbd495d497b6173d18037ff7b20b738d83fee232b"), looks := true }, kinds := [], alts := [], laidByText := true, laidKinds := [.data, .pinned], laidTests := true, laidLooks := .later }
def HistoryOrdersCardSaid : Prop := Claim7.holds Tryd.pinned (.plain (OpenSpec.ofChange historyOrdersSpec)) historyOrdersCard

/-- THE TIED CARD OF 'almonerlaw21.HistorySerial'. -/
def historySerialCard : Claim7 := { stood := { row := historySerialRow, standIns := [], harness := (true, "a435644cbbfcf1c3fcb52f5fbd495d497b6173d18037ff7b20b738d83fee232b"), looks := true }, kinds := [], alts := [], laidByText := true, laidKinds := [.data, .pinned], laidTests := true, laidLooks := .later }
def HistorySerialCardSaid : Prop := Claim7.holds Tryd.pinned (.plain (OpenSpec.ofChange historySerialSpec)) historySerialCard

/-- THE TIED CARD OF 'almonerlaw21.HistoryMore'. -/
def historyMoreCard : Claim7 := { stood := { row := historyMoreRow, standIns := [], harness := (true, "a435644cbbfcf1c3fcb52f5fbd495d497b6173d18037ff7b20b738d83fee232b"), looks := true }, kinds := [], alts := [], laidByText := true, laidKinds := [.data, .pinned], laidTests := true, laidLooks := .later }
def HistoryMoreCardSaid : Prop := Claim7.holds Tryd.pinned (.plain (OpenSpec.ofChange historyMoreSpec)) historyMoreCard

/-- THE TIED CARD OF 'almonerlaw21.HistorySound'. -/
def historySoundCard : Claim7 := { stood := { row := historySoundRow, standIns := [], harness := (true, "a435644cbbfcf1c3fcb52f5fbd495d497b6173d18037ff7b20b738d83fee232b"), looks := true }, kinds := [], alts := [], laidByText := true, laidKinds := [.data, .pinned], laidTests := true, laidLooks := .later }
def HistorySoundCardSaid : Prop := Claim7.holds Tryd.pinned (.plain (OpenSpec.ofChange historySoundSpec)) historySoundCard

/-- THE TIED CARD OF 'almonerlaw21.HistoryTurns'. -/
def historyTurnsCard : Claim7 := { stood := { row := historyTurnsRow, standIns := [], harness := (true, "a435644cbbfcf1c3fcb52f5fbd495d497b6173d18037ff7b20b738d83fee232b"), looks := true }, kinds := [], alts := [], laidByText := true, laidKinds := [.data, .pinned], laidTests := true, laidLooks := .later }
def HistoryTurnsCardSaid : Prop := Claim7.holds Tryd.pinned (.plain (OpenSpec.ofChange historyTurnsSpec)) historyTurnsCard

/-- THE TIED CARD OF 'almonerlaw21.HistoryRecords'. -/
def historyRecordsCard : Claim7 := { stood := { row := historyRecordsRow, standIns := [], harness := (true, "a435644cbbfcf1c3fcb52f5fbd495d497b6173d18037ff7b20b738d83fee232b"), looks := true }, kinds := [], alts := [], laidByText := true, laidKinds := [.data, .pinned], laidTests := true, laidLooks := .later }
def HistoryRecordsCardSaid : Prop := Claim7.holds Tryd.pinned (.plain (OpenSpec.ofChange historyRecordsSpec)) historyRecordsCard

/-- THE SECOND FORM's CARD OF 'almonerlaw21.HistoryOrders'. -/
def historyOrdersUptoCard : Claim7 := { stood := { row := historyOrdersUptoRow, standIns := [], harness := (true, "a435644cbbfcf1c3fcb52f5fbd495d497b6173d18037ff7b20b738d83fee232b"), looks := true }, kinds := [], alts := [], laidByText := true, laidKinds := [.data, .pinned], laidTests := true, laidLooks := .later }
def HistoryOrdersUptoCardSaid : Prop := Claim7.holds Tryd.pinned (.plain (OpenSpec.upto historyOrdersSpec)) historyOrdersUptoCard

/-- THE SECOND FORM's CARD OF 'almonerlaw21.HistorySerial'. -/
def historySerialUptoCard : Claim7 := { stood := { row := historySerialUptoRow, standIns := [], harness := (true, "a435644cbbfcf1c3fcb52f5fbd495d497b6173d18037ff7b20b738d83fee232b"), looks := true }, kinds := [], alts := [], laidByText := true, laidKinds := [.data, .pinned], laidTests := true, laidLooks := .later }
def HistorySerialUptoCardSaid : Prop := Claim7.holds Tryd.pinned (.plain (OpenSpec.upto historySerialSpec)) historySerialUptoCard

/-- THE SECOND FORM's CARD OF 'almonerlaw21.HistoryMore'. -/
def historyMoreUptoCard : Claim7 := { stood := { row := historyMoreUptoRow, standIns := [], harness := (true, "a435644cbbfcf1c3fcb52f5fbd495d497b6173d18037ff7b20b738d83fee232b"), looks := true }, kinds := [], alts := [], laidByText := true, laidKinds := [.data, .pinned], laidTests := true, laidLooks := .later }
def HistoryMoreUptoCardSaid : Prop := Claim7.holds Tryd.pinned (.plain (OpenSpec.upto historyMoreSpec)) historyMoreUptoCard

/-- THE SECOND FORM's CARD OF 'almonerlaw21.HistorySound'. -/
def historySoundUptoCard : Claim7 := { stood := { row := historySoundUptoRow, standIns := [], harness := (true, "a435644cbbfcf1c3fcb52f5fbd495d497b6173d18037ff7b20b738d83fee232b"), looks := true }, kinds := [], alts := [], laidByText := true, laidKinds := [.data, .pinned], laidTests := true, laidLooks := .later }
def HistorySoundUptoCardSaid : Prop := Claim7.holds Tryd.pinned (.plain (OpenSpec.upto historySoundSpec)) historySoundUptoCard

/-- THE SECOND FORM's CARD OF 'almonerlaw21.HistoryTurns'. -/
def historyTurnsUptoCard : Claim7 := { stood := { row := historyTurnsUptoRow, standIns := [], harness := (true, "a435644cbbfcf1c3fcb52f5fbd495d497b6173d18037ff7b20b738d83fee232b"), looks := true }, kinds := [], alts := [], laidByText := true, laidKinds := [.data, .pinned], laidTests := true, laidLooks := .later }
def HistoryTurnsUptoCardSaid : Prop := Claim7.holds Tryd.pinned (.plain (OpenSpec.upto historyTurnsSpec)) historyTurnsUptoCard

/-- THE SECOND FORM's CARD OF 'almonerlaw21.HistoryRecords'. -/
def historyRecordsUptoCard : Claim7 := { stood := { row := historyRecordsUptoRow, standIns := [], harness := (true, "a435644cbbfcf1c3fcb52f5fbd495d497b6173d18037ff7b20b738d83fee232b"), looks := true }, kinds := [], alts := [], laidByText := true, laidKinds := [.data, .pinned], laidTests := true, laidLooks := .later }
def HistoryRecordsUptoCardSaid : Prop := Claim7.holds Tryd.pinned (.plain (OpenSpec.upto historyRecordsSpec)) historyRecordsUptoCard
end Rows
end Go.Proofs.YtnbcghbgeiocbaaDoor
