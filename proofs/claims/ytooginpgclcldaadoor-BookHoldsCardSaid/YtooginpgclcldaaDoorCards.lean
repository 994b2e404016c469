/-
  DERIVED. GIVEN WITH THE SEED: THE CARDS: each row of YtooginpgclcldaaDoorRows.lean that lists a variable, with what it lists TIED to the program's text (the seventh form; the later family's looks); each row that meets fmt, with fmt's text TOLD by the authors' own Lean function (tested against real Go, not proved from fmt's source: count such statements apart). THE CARD IS WHAT COUNTS. Prove the row's statement (the work); the ties are given (YtooginpgclcldaaDoorTie.lean); close each card by the builder's one call (the guide's Derived/Test/ToyasCard.lean, 'card_holds'). Laid BY PROGRAM, IN A SANDBOX (cutbox-door.mjs). By AI agents, Wed Nov 11 2026. No macro, syntax, notation, axiom, sorry.
-/
import Derived.Test.YtooginpgclcldaaDoorRows
import GoSem.ClaimSeven
namespace Go.Proofs.YtooginpgclcldaaDoor
namespace Rows

/-- THE TIED CARD OF 'almonerlaw11.BookGives'. -/
def bookGivesCard : Claim7 := { stood := { row := bookGivesRow, standIns := [], harness := (true, "bb53a71048e383916377935bffd94c3af352237c36aeb1bd3a0ac4de0b104511"), looks := true }, kinds := [], alts := [], laidByText := true, laidKinds := [.data, .pinned], laidTests := true, laidLooks := .later }
def BookGivesCardSaid : Prop := Claim7.holds Tryd.pinned (.plain (OpenSpec.ofChange bookGivesSpec)) bookGivesCard

/-- THE TIED CARD OF 'almonerlaw11.BookWrong'. -/
def bookWrongCard : Claim7 := { stood := { row := bookWrongRow, standIns := [], harness := (true, "bb53a71048e383916377935bffd94c3af352237c36aeb1bd3a0ac4de0b104511"), looks := true }, kinds := [], alts := [], laidByText := true, laidKinds := [.data, .pinned], laidTests := true, laidLooks := .later }
def BookWrongCardSaid : Prop := Claim7.holds Tryd.pinned (.plain (OpenSpec.ofChange bookWrongSpec)) bookWrongCard

/-- THE TIED CARD OF 'almonerlaw11.BookSums'. -/
def bookSumsCard : Claim7 := { stood := { row := bookSumsRow, standIns := [], harness := (true, "bb53a71048e383916377935bffd94c3af352237c36aeb1bd3a0ac4de0b104511"), looks := true }, kinds := [], alts := [], laidByText := true, laidKinds := [.data, .pinned], laidTests := true, laidLooks := .later }
def BookSumsCardSaid : Prop := Claim7.holds Tryd.pinned (.plain (OpenSpec.ofChange bookSumsSpec)) bookSumsCard

/-- THE TIED CARD OF 'almonerlaw11.BookSlots'. -/
def bookSlotsCard : Claim7 := { stood := { row := bookSlotsRow, standIns := [], harness := (true, "bb53a71048e383916377935bffd94c3af352237c36aeb1bd3a0ac4de0b104511"), looks := true }, kinds := [], alts := [], laidByText := true, laidKinds := [.data, .pinned], laidTests := true, laidLooks := .later }
def BookSlotsCardSaid : Prop := Claim7.holds Tryd.pinned (.plain (OpenSpec.ofChange bookSlotsSpec)) bookSlotsCard

/-- THE TIED CARD OF 'almonerlaw11.BookHolds'. -/
def bookHoldsCard : Claim7 := { stood := { row := bookHoldsRow, standIns := [], harness := (true, "bb53a71048e383916377935bffd94c3af352237c36aeb1bd3a0ac4de0b104511"), looks := true }, kinds := [], alts := [], laidByText := true, laidKinds := [.data, .pinned], laidTests := true, laidLooks := .later }
def BookHoldsCardSaid : Prop := Claim7.holds Tryd.pinned (.plain (OpenSpec.ofChange bookHoldsSpec)) bookHoldsCard

/-- THE TIED CARD OF 'almonerlaw11.BookNil'. -/
def bookNilCard : Claim7 := { stood := { row := bookNilRow, standIns := [], harness := (true, "bb53a71048e383916377935bffd94c3af352237c36aeb1bd3a0ac4de0b104511"), looks := true }, kinds := [], alts := [], laidByText := true, laidKinds := [.data, .pinned], laidTests := true, laidLooks := .later }
def BookNilCardSaid : Prop := Claim7.holds Tryd.pinned (.plain (OpenSpec.ofChange bookNilSpec)) bookNilCard

/-- THE SECOND FORM's CARD OF 'almonerlaw11.BookGives'. -/
def bookGivesUptoCard : Claim7 := { stood := { row := bookGivesUptoRow, standIns := [], harness := (true, "bb53a71048e383916377935bffd94c3af352237c36aeb1bd3a0ac4de0b104511"), looks := true }, kinds := [], alts := [], laidByText := true, laidKinds := [.data, .pinned], laidTests := true, laidLooks := .later }
def BookGivesUptoCardSaid : Prop := Claim7.holds Tryd.pinned (.plain (OpenSpec.upto bookGivesSpec)) bookGivesUptoCard

/-- THE SECOND FORM's CARD OF 'almonerlaw11.BookWrong'. -/
def bookWrongUptoCard : Claim7 := { stood := { row := bookWrongUptoRow, standIns := [], harness := (true, "bb53a71048e383916377935bffd94c3af352237c36aeb1bd3a0ac4de0b104511"), looks := true }, kinds := [], alts := [], laidByText := true, laidKinds := [.data, .pinned], laidTests := true, laidLooks := .later }
def BookWrongUptoCardSaid : Prop := Claim7.holds Tryd.pinned (.plain (OpenSpec.upto bookWrongSpec)) bookWrongUptoCard

/-- THE SECOND FORM's CARD OF 'almonerlaw11.BookSums'. -/
def bookSumsUptoCard : Claim7 := { stood := { row := bookSumsUptoRow, standIns := [], harness := (true, "bb53a71048e383916377935bffd94c3af352237c36aeb1bd3a0ac4de0b104511"), looks := true }, kinds := [], alts := [], laidByText := true, laidKinds := [.data, .pinned], laidTests := true, laidLooks := .later }
def BookSumsUptoCardSaid : Prop := Claim7.holds Tryd.pinned (.plain (OpenSpec.upto bookSumsSpec)) bookSumsUptoCard

/-- THE SECOND FORM's CARD OF 'almonerlaw11.BookSlots'. -/
def bookSlotsUptoCard : Claim7 := { stood := { row := bookSlotsUptoRow, standIns := [], harness := (true, "bb53a71048e383916377935bffd94c3af352237c36aeb1bd3a0ac4de0b104511"), looks := true }, kinds := [], alts := [], laidByText := true, laidKinds := [.data, .pinned], laidTests := true, laidLooks := .later }
def BookSlotsUptoCardSaid : Prop := Claim7.holds Tryd.pinned (.plain (OpenSpec.upto bookSlotsSpec)) bookSlotsUptoCard

/-- THE SECOND FORM's CARD OF 'almonerlaw11.BookHolds'. -/
def bookHoldsUptoCard : Claim7 := { stood := { row := bookHoldsUptoRow, standIns := [], harness := (true, "bb53a71048e383916377935bffd94c3af352237c36aeb1bd3a0ac4de0b104511"), looks := true }, kinds := [], alts := [], laidByText := true, laidKinds := [.data, .pinned], laidTests := true, laidLooks := .later }
def BookHoldsUptoCardSaid : Prop := Claim7.holds Tryd.pinned (.plain (OpenSpec.upto bookHoldsSpec)) bookHoldsUptoCard

/-- THE SECOND FORM's CARD OF 'almonerlaw11.BookNil'. -/
def bookNilUptoCard : Claim7 := { stood := { row := bookNilUptoRow, standIns := [], harness := (true, "bb53a71048e383916377935bffd94c3af352237c36aeb1bd3a0ac4de0b104511"), looks := true }, kinds := [], alts := [], laidByText := true, laidKinds := [.data, .pinned], laidTests := true, laidLooks := .later }
def BookNilUptoCardSaid : Prop := Claim7.holds Tryd.pinned (.plain (OpenSpec.upto bookNilSpec)) bookNilUptoCard
end Rows
end Go.Proofs.YtooginpgclcldaaDoor
