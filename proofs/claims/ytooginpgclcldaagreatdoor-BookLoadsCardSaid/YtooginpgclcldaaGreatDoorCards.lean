/-
  DERIVED. GIVEN WITH THE SEED: THE CARDS: each row of YtooginpgclcldaaGreatDoorRows.lean that lists a variable, with what it lists TIED to the program's text (the seventh form; the later family's looks); each row that meets fmt, with fmt's text TOLD by the authors' own Lean function (tested against real Go, not proved from fmt's source: count such statements apart). THE CARD IS WHAT COUNTS. Prove the row's statement (the work); the ties are given (YtooginpgclcldaaGreatDoorTie.lean); close each card by the builder's one call (the guide's Derived/Test/ToyasCard.lean, 'card_holds'). Laid BY PROGRAM, IN A SANDBOX (cutbox-door.mjs). By AI agents, Wed Nov 11 2026. No macro, syntax, notation, axiom, sorry.
-/
import Derived.Test.YtooginpgclcldaaGreatDoorRows
import GoSem.ClaimSeven
namespace Go.Proofs.YtooginpgclcldaaGreatDoor
namespace Rows

/-- THE TIED CARD OF 'almonerlaw11.BookLoads'. -/
def bookLoadsCard : Claim7 := { stood := { row := bookLoadsRow, standIns := [], harness := (true, "ab940c325e00543395c0ef864a88b23dba42d24a7b6139830bf5562400e1cd75"), looks := true }, kinds := [], alts := [], laidByText := true, laidKinds := [.data, .pinned], laidTests := true, laidLooks := .later }
def BookLoadsCardSaid : Prop := Claim7.holds Tryz.pinned (.plain (OpenSpec.ofChange bookLoadsSpec)) bookLoadsCard

/-- THE TIED CARD OF 'almonerlaw11.BookPlays'. -/
def bookPlaysCard : Claim7 := { stood := { row := bookPlaysRow, standIns := [], harness := (true, "ab940c325e00543395c0ef864a88b23dba42d24a7b6139830bf5562400e1cd75"), looks := true }, kinds := [], alts := [], laidByText := true, laidKinds := [.data, .pinned], laidTests := true, laidLooks := .later }
def BookPlaysCardSaid : Prop := Claim7.holds Tryz.pinned (.plain (OpenSpec.ofChange bookPlaysSpec)) bookPlaysCard

/-- THE SECOND FORM's CARD OF 'almonerlaw11.BookLoads'. -/
def bookLoadsUptoCard : Claim7 := { stood := { row := bookLoadsUptoRow, standIns := [], harness := (true, "ab940c325e00543395c0ef864a88b23dba42d24a7b6139830bf5562400e1cd75"), looks := true }, kinds := [], alts := [], laidByText := true, laidKinds := [.data, .pinned], laidTests := true, laidLooks := .later }
def BookLoadsUptoCardSaid : Prop := Claim7.holds Tryz.pinned (.plain (OpenSpec.upto bookLoadsSpec)) bookLoadsUptoCard

/-- THE SECOND FORM's CARD OF 'almonerlaw11.BookPlays'. -/
def bookPlaysUptoCard : Claim7 := { stood := { row := bookPlaysUptoRow, standIns := [], harness := (true, "ab940c325e00543395c0ef864a88b23dba42d24a7b6139830bf5562400e1cd75"), looks := true }, kinds := [], alts := [], laidByText := true, laidKinds := [.data, .pinned], laidTests := true, laidLooks := .later }
def BookPlaysUptoCardSaid : Prop := Claim7.holds Tryz.pinned (.plain (OpenSpec.upto bookPlaysSpec)) bookPlaysUptoCard
end Rows
end Go.Proofs.YtooginpgclcldaaGreatDoor
