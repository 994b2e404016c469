/-
  DERIVED. GIVEN WITH THE SEED: THE CARDS: each row of YtnfeemhpoaflfaaGreatDoorRows.lean that lists a variable, with what it lists TIED to the program's text (the seventh form; the later family's looks); each row that meets fmt, with fmt's text TOLD by the authors' own Lean function (tested against real Go, not proved from fmt's source: count such statements apart). THE CARD IS WHAT COUNTS. Prove the row's statement (the work); the ties are given (YtnfeemhpoaflfaaGreatDoorTie.lean); close each card by the builder's one call (the guide's Derived/Test/ToyasCard.lean, 'card_holds'). Laid BY PROGRAM, IN A SANDBOX (cutbox-door.mjs). By AI agents, Wed Nov 11 2026. No macro, syntax, notation, axiom, sorry.
-/
import Derived.Test.YtnfeemhpoaflfaaGreatDoorRows
import GoSem.ClaimSeven
namespace Go.Proofs.YtnfeemhpoaflfaaGreatDoor
namespace Rows

/-- THE TIED CARD OF 'almonerlaw12.SerialOnce'. -/
def serialOnceCard : Claim7 := { stood := { row := serialOnceRow, standIns := [], harness := (true, "d09f346fb244bc8a20ec3953330e822abc9def32e91e3f92cac4a01195661334"), looks := true }, kinds := [], alts := [], laidByText := true, laidKinds := [.data, .data, .data, .data, .pinned], laidTests := true, laidLooks := .later }
def SerialOnceCardSaid : Prop := Claim7.holds Tryz.pinned (.plain (OpenSpec.ofChange serialOnceSpec)) serialOnceCard

/-- THE TIED CARD OF 'almonerlaw12.SerialSums'. -/
def serialSumsCard : Claim7 := { stood := { row := serialSumsRow, standIns := [], harness := (true, "d09f346fb244bc8a20ec3953330e822abc9def32e91e3f92cac4a01195661334"), looks := true }, kinds := [], alts := [], laidByText := true, laidKinds := [.data, .data, .data, .data, .pinned], laidTests := true, laidLooks := .later }
def SerialSumsCardSaid : Prop := Claim7.holds Tryz.pinned (.plain (OpenSpec.ofChange serialSumsSpec)) serialSumsCard

/-- THE TIED CARD OF 'almonerlaw12.SerialPlaces'. -/
def serialPlacesCard : Claim7 := { stood := { row := serialPlacesRow, standIns := [], harness := (true, "d09f346fb244bc8a20ec3953330e822abc9def32e91e3f92cac4a01195661334"), looks := true }, kinds := [], alts := [], laidByText := true, laidKinds := [.data, .data, .data, .data, .pinned], laidTests := true, laidLooks := .later }
def SerialPlacesCardSaid : Prop := Claim7.holds Tryz.pinned (.plain (OpenSpec.ofChange serialPlacesSpec)) serialPlacesCard

/-- THE TIED CARD OF 'almonerlaw12.SerialDoes'. -/
def serialDoesCard : Claim7 := { stood := { row := serialDoesRow, standIns := [], harness := (true, "d09f346fb244bc8a20ec3953330e822abc9def32e91e3f92cac4a01195661334"), looks := true }, kinds := [], alts := [], laidByText := true, laidKinds := [.data, .data, .data, .data, .pinned], laidTests := true, laidLooks := .later }
def SerialDoesCardSaid : Prop := Claim7.holds Tryz.pinned (.plain (OpenSpec.ofChange serialDoesSpec)) serialDoesCard

/-- THE TIED CARD OF 'almonerlaw12.SerialNil'. -/
def serialNilCard : Claim7 := { stood := { row := serialNilRow, standIns := [], harness := (true, "d09f346fb244bc8a20ec3953330e822abc9def32e91e3f92cac4a01195661334"), looks := true }, kinds := [], alts := [], laidByText := true, laidKinds := [.data, .data, .data, .data, .pinned], laidTests := true, laidLooks := .later }
def SerialNilCardSaid : Prop := Claim7.holds Tryz.pinned (.plain (OpenSpec.ofChange serialNilSpec)) serialNilCard

/-- THE TIED CARD OF 'almonerlaw12.SerialFits'. -/
def serialFitsCard : Claim7 := { stood := { row := serialFitsRow, standIns := [], harness := (true, "d09f346fb244bc8a20ec3953330e822abc9def32e91e3f92cac4a01195661334"), looks := true }, kinds := [], alts := [], laidByText := true, laidKinds := [.data, .data, .data, .data, .pinned], laidTests := true, laidLooks := .later }
def SerialFitsCardSaid : Prop := Claim7.holds Tryz.pinned (.plain (OpenSpec.ofChange serialFitsSpec)) serialFitsCard

/-- THE SECOND FORM's CARD OF 'almonerlaw12.SerialOnce'. -/
def serialOnceUptoCard : Claim7 := { stood := { row := serialOnceUptoRow, standIns := [], harness := (true, "d09f346fb244bc8a20ec3953330e822abc9def32e91e3f92cac4a01195661334"), looks := true }, kinds := [], alts := [], laidByText := true, laidKinds := [.data, .data, .data, .data, .pinned], laidTests := true, laidLooks := .later }
def SerialOnceUptoCardSaid : Prop := Claim7.holds Tryz.pinned (.plain (OpenSpec.upto serialOnceSpec)) serialOnceUptoCard

/-- THE SECOND FORM's CARD OF 'almonerlaw12.SerialSums'. -/
def serialSumsUptoCard : Claim7 := { stood := { row := serialSumsUptoRow, standIns := [], harness := (true, "d09f346fb244bc8a20ec3953330e822abc9def32e91e3f92cac4a01195661334"), looks := true }, kinds := [], alts := [], laidByText := true, laidKinds := [.data, .data, .data, .data, .pinned], laidTests := true, laidLooks := .later }
def SerialSumsUptoCardSaid : Prop := Claim7.holds Tryz.pinned (.plain (OpenSpec.upto serialSumsSpec)) serialSumsUptoCard

/-- THE SECOND FORM's CARD OF 'almonerlaw12.SerialPlaces'. -/
def serialPlacesUptoCard : Claim7 := { stood := { row := serialPlacesUptoRow, standIns := [], harness := (true, "d09f346fb244bc8a20ec3953330e822abc9def32e91e3f92cac4a01195661334"), looks := true }, kinds := [], alts := [], laidByText := true, laidKinds := [.data, .data, .data, .data, .pinned], laidTests := true, laidLooks := .later }
def SerialPlacesUptoCardSaid : Prop := Claim7.holds Tryz.pinned (.plain (OpenSpec.upto serialPlacesSpec)) serialPlacesUptoCard

/-- THE SECOND FORM's CARD OF 'almonerlaw12.SerialDoes'. -/
def serialDoesUptoCard : Claim7 := { stood := { row := serialDoesUptoRow, standIns := [], harness := (true, "d09f346fb244bc8a20ec3953330e822abc9def32e91e3f92cac4a01195661334"), looks := true }, kinds := [], alts := [], laidByText := true, laidKinds := [.data, .data, .data, .data, .pinned], laidTests := true, laidLooks := .later }
def SerialDoesUptoCardSaid : Prop := Claim7.holds Tryz.pinned (.plain (OpenSpec.upto serialDoesSpec)) serialDoesUptoCard

/-- THE SECOND FORM's CARD OF 'almonerlaw12.SerialNil'. -/
def serialNilUptoCard : Claim7 := { stood := { row := serialNilUptoRow, standIns := [], harness := (true, "d09f346fb244bc8a20ec3953330e822abc9def32e91e3f92cac4a01195661334"), looks := true }, kinds := [], alts := [], laidByText := true, laidKinds := [.data, .data, .data, .data, .pinned], laidTests := true, laidLooks := .later }
def SerialNilUptoCardSaid : Prop := Claim7.holds Tryz.pinned (.plain (OpenSpec.upto serialNilSpec)) serialNilUptoCard

/-- THE SECOND FORM's CARD OF 'almonerlaw12.SerialFits'. -/
def serialFitsUptoCard : Claim7 := { stood := { row := serialFitsUptoRow, standIns := [], harness := (true, "d09f346fb244bc8a20ec3953330e822abc9def32e91e3f92cac4a01195661334"), looks := true }, kinds := [], alts := [], laidByText := true, laidKinds := [.data, .data, .data, .data, .pinned], laidTests := true, laidLooks := .later }
def SerialFitsUptoCardSaid : Prop := Claim7.holds Tryz.pinned (.plain (OpenSpec.upto serialFitsSpec)) serialFitsUptoCard
end Rows
end Go.Proofs.YtnfeemhpoaflfaaGreatDoor
