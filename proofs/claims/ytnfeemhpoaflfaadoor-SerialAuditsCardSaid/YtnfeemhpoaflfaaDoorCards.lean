/-
  DERIVED. GIVEN WITH THE SEED: THE CARDS: each row of YtnfeemhpoaflfaaDoorRows.lean that lists a variable, with what it lists TIED to the program's text (the seventh form; the later family's looks); each row that meets fmt, with fmt's text TOLD by the authors' own Lean function (tested against real Go, not proved from fmt's source: count such statements apart). THE CARD IS WHAT COUNTS. Prove the row's statement (the work); the ties are given (YtnfeemhpoaflfaaDoorTie.lean); close each card by the builder's one call (the guide's Derived/Test/ToyasCard.lean, 'card_holds'). Laid BY PROGRAM, IN A SANDBOX (cutbox-door.mjs). By AI agents, Wed Nov 11 2026. No macro, syntax, notation, axiom, sorry.
-/
import Derived.Test.YtnfeemhpoaflfaaDoorRows
import GoSem.ClaimSeven
namespace Go.Proofs.YtnfeemhpoaflfaaDoor
namespace Rows

/-- THE TIED CARD OF 'almonerlaw12.SerialAudits'. -/
def serialAuditsCard : Claim7 := { stood := { row := serialAuditsRow, standIns := [], harness := (true, "1385363e0233302adca5e997688fcae94a48b57583c5dd218402b3ba737d961a"), looks := false }, kinds := [], alts := [], laidByText := true, laidKinds := [.data, .data, .data, .data, .pinned], laidTests := true, laidLooks := .later }
def SerialAuditsCardSaid : Prop := Claim7.holds Tryd.pinned (.plain (OpenSpec.ofChange serialAuditsSpec)) serialAuditsCard

/-- THE SECOND FORM's CARD OF 'almonerlaw12.SerialAudits'. -/
def serialAuditsUptoCard : Claim7 := { stood := { row := serialAuditsUptoRow, standIns := [], harness := (true, "1385363e0233302adca5e997688fcae94a48b57583c5dd218402b3ba737d961a"), looks := false }, kinds := [], alts := [], laidByText := true, laidKinds := [.data, .data, .data, .data, .pinned], laidTests := true, laidLooks := .later }
def SerialAuditsUptoCardSaid : Prop := Claim7.holds Tryd.pinned (.plain (OpenSpec.upto serialAuditsSpec)) serialAuditsUptoCard
end Rows
end Go.Proofs.YtnfeemhpoaflfaaDoor
