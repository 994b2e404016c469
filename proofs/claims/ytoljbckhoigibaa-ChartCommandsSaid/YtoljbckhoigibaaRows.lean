/-
  No cell of these rows narrows 'for every input' (looked for: loops, veiled, ifaces, maps, wideKeys, modest, calm, conditions, laid).
  DERIVED. THE GIVEN ROWS OF THIS SEAT. 10 by the template 'for every input the law returns true; each argument reads behind the call as it read before'; 0 by the template 'total and deterministic' (their statements: YtoljbckhoigibaaTotals.lean).
  GIVEN WITH THE SEED: the statements are not yours to turn. If you find one false, say at which input.
  Laid BY PROGRAM, IN A SANDBOX (cutbox-rows.mjs): the forced cells as the released guide's own fill.sh prints them over the translation 631cba99e6ccb7bc… (all of the seat's roots in one cut). By AI agents, Wed Nov 11 2026. No macro, syntax, notation, axiom, sorry.
-/
import Derived.Test.YtoljbckhoigibaaChecked
import GoSem.Claim
import GoSem.ClaimJoined
import GoSem.ClaimMapViews
import Derived.JoinedTies
import Derived.KernelRfl
namespace Go.Proofs.Ytoljbckhoigibaa
/- THE CELL 'sum', in the pinned program and in every row, IS THE sha256 OF THE DUMP (.gsa) THAT YtoljbckhoigibaaProg.lean LOADS. Nothing in Lean hashes anything: it is a label: what it is worth is what the hold of that sum in a sandbox is worth. -/
noncomputable def Try.pinned : Pinned := { name := "ytoljbckhoigibaa", sum := "631cba99e6ccb7bcaa3dfaa5b8ecd375b606b7673295e2b2417d7faf236a9b65", checked := Try.checked }
namespace Rows
def none {H : Type} : Left H := { results := [], args := [] }

/-- 'almonerlaw14.ChartMoves': WHATEVER THE INPUT: true; the input reads as it did. -/
def chartMovesSpec : ChangeSpec := { name := "chartMoves", fn := fun _ => fun
  | [d1, d2, d3] => { results := [.lit (.bool true)], args := [d1, d2, d3] }
  | _ => none }
def chartMovesRow : OpenClaim := { program := "ytoljbckhoigibaa", sum := "631cba99e6ccb7bcaa3dfaa5b8ecd375b606b7673295e2b2417d7faf236a9b65", func := "almoner/almonerlaw14.ChartMoves", spec := "chartMoves", unfollowed := true, recurses := true, apart := false }
def ChartMovesSaid : Prop := chartMovesRow.holds Try.pinned (OpenSpec.ofChange chartMovesSpec)

/-- ITS FALSE NEIGHBOUR: 'it returns false'. Refute it at one input. -/
def chartMovesWrong : ChangeSpec := { name := "chartMoves", fn := fun _ => fun
  | [d1, d2, d3] => { results := [.lit (.bool false)], args := [d1, d2, d3] }
  | _ => none }
def ChartMovesWrongFalsely : Prop := chartMovesRow.holds Try.pinned (OpenSpec.ofChange chartMovesWrong)

/-- 'almonerlaw14.ChartAudits': WHATEVER THE INPUT: true; the input reads as it did. -/
def chartAuditsSpec : ChangeSpec := { name := "chartAudits", fn := fun _ => fun
  | [d1, d2] => { results := [.lit (.bool true)], args := [d1, d2] }
  | _ => none }
def chartAuditsRow : OpenClaim := { program := "ytoljbckhoigibaa", sum := "631cba99e6ccb7bcaa3dfaa5b8ecd375b606b7673295e2b2417d7faf236a9b65", func := "almoner/almonerlaw14.ChartAudits", spec := "chartAudits", unfollowed := true, recurses := true, apart := false }
def ChartAuditsSaid : Prop := chartAuditsRow.holds Try.pinned (OpenSpec.ofChange chartAuditsSpec)

/-- ITS FALSE NEIGHBOUR: 'it returns false'. Refute it at one input. -/
def chartAuditsWrong : ChangeSpec := { name := "chartAudits", fn := fun _ => fun
  | [d1, d2] => { results := [.lit (.bool false)], args := [d1, d2] }
  | _ => none }
def ChartAuditsWrongFalsely : Prop := chartAuditsRow.holds Try.pinned (OpenSpec.ofChange chartAuditsWrong)

/-- 'almonerlaw14.ChartOwners': WHATEVER THE INPUT: true; the input reads as it did. -/
def chartOwnersSpec : ChangeSpec := { name := "chartOwners", fn := fun _ => fun
  | [d1, d2] => { results := [.lit (.bool true)], args := [d1, d2] }
  | _ => none }
def chartOwnersRow : OpenClaim := { program := "ytoljbckhoigibaa", sum := "631cba99e6ccb7bcaa3dfaa5b8ecd375b606b7673295e2b2417d7faf236a9b65", func := "almoner/almonerlaw14.ChartOwners", spec := "chartOwners", unfollowed := true, recurses := true, apart := false }
def ChartOwnersSaid : Prop := chartOwnersRow.holds Try.pinned (OpenSpec.ofChange chartOwnersSpec)

/-- ITS FALSE NEIGHBOUR: 'it returns false'. Refute it at one input. -/
def chartOwnersWrong : ChangeSpec := { name := "chartOwners", fn := fun _ => fun
  | [d1, d2] => { results := [.lit (.bool false)], args := [d1, d2] }
  | _ => none }
def ChartOwnersWrongFalsely : Prop := chartOwnersRow.holds Try.pinned (OpenSpec.ofChange chartOwnersWrong)

/-- 'almonerlaw14.ChartDoes': WHATEVER THE INPUT: true; the input reads as it did. -/
def chartDoesSpec : ChangeSpec := { name := "chartDoes", fn := fun _ => fun
  | [d1, d2] => { results := [.lit (.bool true)], args := [d1, d2] }
  | _ => none }
def chartDoesRow : OpenClaim := { program := "ytoljbckhoigibaa", sum := "631cba99e6ccb7bcaa3dfaa5b8ecd375b606b7673295e2b2417d7faf236a9b65", func := "almoner/almonerlaw14.ChartDoes", spec := "chartDoes", unfollowed := true, recurses := true, apart := false }
def ChartDoesSaid : Prop := chartDoesRow.holds Try.pinned (OpenSpec.ofChange chartDoesSpec)

/-- ITS FALSE NEIGHBOUR: 'it returns false'. Refute it at one input. -/
def chartDoesWrong : ChangeSpec := { name := "chartDoes", fn := fun _ => fun
  | [d1, d2] => { results := [.lit (.bool false)], args := [d1, d2] }
  | _ => none }
def ChartDoesWrongFalsely : Prop := chartDoesRow.holds Try.pinned (OpenSpec.ofChange chartDoesWrong)

/-- 'almonerlaw14.ChartNil': WHATEVER THE INPUT: true; the input reads as it did. -/
def chartNilSpec : ChangeSpec := { name := "chartNil", fn := fun _ => fun
  | [d] => { results := [.lit (.bool true)], args := [d] }
  | _ => none }
def chartNilRow : OpenClaim := { program := "ytoljbckhoigibaa", sum := "631cba99e6ccb7bcaa3dfaa5b8ecd375b606b7673295e2b2417d7faf236a9b65", func := "almoner/almonerlaw14.ChartNil", spec := "chartNil", unfollowed := true, recurses := true, apart := false }
def ChartNilSaid : Prop := chartNilRow.holds Try.pinned (OpenSpec.ofChange chartNilSpec)

/-- ITS FALSE NEIGHBOUR: 'it returns false'. Refute it at one input. -/
def chartNilWrong : ChangeSpec := { name := "chartNil", fn := fun _ => fun
  | [d] => { results := [.lit (.bool false)], args := [d] }
  | _ => none }
def ChartNilWrongFalsely : Prop := chartNilRow.holds Try.pinned (OpenSpec.ofChange chartNilWrong)

/-- 'almonerlaw14.ChartCommands': WHATEVER THE INPUT: true; the input reads as it did. -/
def chartCommandsSpec : ChangeSpec := { name := "chartCommands", fn := fun _ => fun
  | [d1, d2] => { results := [.lit (.bool true)], args := [d1, d2] }
  | _ => none }
def chartCommandsRow : OpenClaim := { program := "ytoljbckhoigibaa", sum := "631cba99e6ccb7bcaa3dfaa5b8ecd375b606b7673295e2b2417d7faf236a9b65", func := "almoner/almonerlaw14.ChartCommands", spec := "chartCommands", unfollowed := true, recurses := true, apart := false }
def ChartCommandsSaid : Prop := chartCommandsRow.holds Try.pinned (OpenSpec.ofChange chartCommandsSpec)

/-- ITS FALSE NEIGHBOUR: 'it returns false'. Refute it at one input. -/
def chartCommandsWrong : ChangeSpec := { name := "chartCommands", fn := fun _ => fun
  | [d1, d2] => { results := [.lit (.bool false)], args := [d1, d2] }
  | _ => none }
def ChartCommandsWrongFalsely : Prop := chartCommandsRow.holds Try.pinned (OpenSpec.ofChange chartCommandsWrong)

/-- 'almonerlaw18.ClientApart': WHATEVER THE INPUT: true; the input reads as it did. -/
def clientApartSpec : ChangeSpec := { name := "clientApart", fn := fun _ => fun
  | [d1, d2] => { results := [.lit (.bool true)], args := [d1, d2] }
  | _ => none }
def clientApartRow : OpenClaim := { program := "ytoljbckhoigibaa", sum := "631cba99e6ccb7bcaa3dfaa5b8ecd375b606b7673295e2b2417d7faf236a9b65", func := "almoner/almonerlaw18.ClientApart", spec := "clientApart", unfollowed := true, recurses := true, apart := false }
def ClientApartSaid : Prop := clientApartRow.holds Try.pinned (OpenSpec.ofChange clientApartSpec)

/-- ITS FALSE NEIGHBOUR: 'it returns false'. Refute it at one input. -/
def clientApartWrong : ChangeSpec := { name := "clientApart", fn := fun _ => fun
  | [d1, d2] => { results := [.lit (.bool false)], args := [d1, d2] }
  | _ => none }
def ClientApartWrongFalsely : Prop := clientApartRow.holds Try.pinned (OpenSpec.ofChange clientApartWrong)

/-- 'almonerlaw18.ClientNil': WHATEVER THE INPUT: true; the input reads as it did. -/
def clientNilSpec : ChangeSpec := { name := "clientNil", fn := fun _ => fun
  | [d1, d2] => { results := [.lit (.bool true)], args := [d1, d2] }
  | _ => none }
def clientNilRow : OpenClaim := { program := "ytoljbckhoigibaa", sum := "631cba99e6ccb7bcaa3dfaa5b8ecd375b606b7673295e2b2417d7faf236a9b65", func := "almoner/almonerlaw18.ClientNil", spec := "clientNil", unfollowed := true, recurses := true, apart := false }
def ClientNilSaid : Prop := clientNilRow.holds Try.pinned (OpenSpec.ofChange clientNilSpec)

/-- ITS FALSE NEIGHBOUR: 'it returns false'. Refute it at one input. -/
def clientNilWrong : ChangeSpec := { name := "clientNil", fn := fun _ => fun
  | [d1, d2] => { results := [.lit (.bool false)], args := [d1, d2] }
  | _ => none }
def ClientNilWrongFalsely : Prop := clientNilRow.holds Try.pinned (OpenSpec.ofChange clientNilWrong)

/-- 'almonerlaw18.ClientDesk': WHATEVER THE INPUT: true; the input reads as it did. -/
def clientDeskSpec : ChangeSpec := { name := "clientDesk", fn := fun _ => fun
  | [d] => { results := [.lit (.bool true)], args := [d] }
  | _ => none }
def clientDeskRow : OpenClaim := { program := "ytoljbckhoigibaa", sum := "631cba99e6ccb7bcaa3dfaa5b8ecd375b606b7673295e2b2417d7faf236a9b65", func := "almoner/almonerlaw18.ClientDesk", spec := "clientDesk", unfollowed := true, recurses := true, apart := false }
def ClientDeskSaid : Prop := clientDeskRow.holds Try.pinned (OpenSpec.ofChange clientDeskSpec)

/-- ITS FALSE NEIGHBOUR: 'it returns false'. Refute it at one input. -/
def clientDeskWrong : ChangeSpec := { name := "clientDesk", fn := fun _ => fun
  | [d] => { results := [.lit (.bool false)], args := [d] }
  | _ => none }
def ClientDeskWrongFalsely : Prop := clientDeskRow.holds Try.pinned (OpenSpec.ofChange clientDeskWrong)

/-- 'almonerlaw18.ClientLetters': WHATEVER THE INPUT: true; the input reads as it did. -/
def clientLettersSpec : ChangeSpec := { name := "clientLetters", fn := fun _ => fun
  | [d1, d2] => { results := [.lit (.bool true)], args := [d1, d2] }
  | _ => none }
def clientLettersRow : OpenClaim := { program := "ytoljbckhoigibaa", sum := "631cba99e6ccb7bcaa3dfaa5b8ecd375b606b7673295e2b2417d7faf236a9b65", func := "almoner/almonerlaw18.ClientLetters", spec := "clientLetters", unfollowed := true, recurses := true, apart := false }
def ClientLettersSaid : Prop := clientLettersRow.holds Try.pinned (OpenSpec.ofChange clientLettersSpec)

/-- ITS FALSE NEIGHBOUR: 'it returns false'. Refute it at one input. -/
def clientLettersWrong : ChangeSpec := { name := "clientLetters", fn := fun _ => fun
  | [d1, d2] => { results := [.lit (.bool false)], args := [d1, d2] }
  | _ => none }
def ClientLettersWrongFalsely : Prop := clientLettersRow.holds Try.pinned (OpenSpec.ofChange clientLettersWrong)

/- THE SECOND FORM. 'bulk': how many values and letters a reading holds, each counted each time it is reached (what is shared counts as often as it is met; a slice's spare places count too). A statement '..UptoSaid' is the law's where the arguments, and the package variables that the reading takes, are together of bulk at most 1048576: NARROWER than '..Said'. Prove '..Said' where nothing that the law and all that it calls make is longer than what came in: it says more and counts as full. Else prove '..UptoSaid'. A law counts once. -/
mutual
def uptoBulk {H : Type} : DataW H → Nat
  | .lit (.string bytes) => bytes.length + 1
  | .lit _ => 1
  | .nil => 1
  | .ptr d => uptoBulk d + 1
  | .slice elems spare => uptoBulkAll elems + uptoBulkAll spare + 1
  | .agg parts => uptoBulkAll parts + 1
  | .iface _ d => uptoBulk d + 1
  | .map entries => uptoBulkEntries entries + 1
  | .held _ => 1
def uptoBulkAll {H : Type} : List (DataW H) → Nat
  | [] => 0
  | d :: r => uptoBulk d + uptoBulkAll r
def uptoBulkEntries {H : Type} : List (Lit × DataW H) → Nat
  | [] => 0
  | x :: r => uptoBulkEntry x + uptoBulkEntries r
def uptoBulkEntry {H : Type} : Lit × DataW H → Nat
  | (.string bytes, d) => bytes.length + uptoBulk d + 1
  | (_, d) => uptoBulk d + 1
 end
def uptoSmall : (H : Type) → List (DataW H) → Bool := fun _ ds => decide (uptoBulkAll ds ≤ 1048576)
def OpenSpec.upto (s : _root_.Go.ChangeSpec) : _root_.Go.OpenSpec := { _root_.Go.OpenSpec.ofChange s with cond := some uptoSmall }

/-- 'almonerlaw14.ChartMoves', WHERE WHAT IT READS IS OF BULK AT MOST 1048576: true; the input reads as it did. -/
def chartMovesUptoRow : OpenClaim := { program := "ytoljbckhoigibaa", sum := "631cba99e6ccb7bcaa3dfaa5b8ecd375b606b7673295e2b2417d7faf236a9b65", func := "almoner/almonerlaw14.ChartMoves", spec := "chartMoves", unfollowed := true, recurses := true, apart := false, narrowed := true }
def ChartMovesUptoSaid : Prop := chartMovesUptoRow.holds Try.pinned (OpenSpec.upto chartMovesSpec)

/-- 'almonerlaw14.ChartAudits', WHERE WHAT IT READS IS OF BULK AT MOST 1048576: true; the input reads as it did. -/
def chartAuditsUptoRow : OpenClaim := { program := "ytoljbckhoigibaa", sum := "631cba99e6ccb7bcaa3dfaa5b8ecd375b606b7673295e2b2417d7faf236a9b65", func := "almoner/almonerlaw14.ChartAudits", spec := "chartAudits", unfollowed := true, recurses := true, apart := false, narrowed := true }
def ChartAuditsUptoSaid : Prop := chartAuditsUptoRow.holds Try.pinned (OpenSpec.upto chartAuditsSpec)

/-- 'almonerlaw14.ChartOwners', WHERE WHAT IT READS IS OF BULK AT MOST 1048576: true; the input reads as it did. -/
def chartOwnersUptoRow : OpenClaim := { program := "ytoljbckhoigibaa", sum := "631cba99e6ccb7bcaa3dfaa5b8ecd375b606b7673295e2b2417d7faf236a9b65", func := "almoner/almonerlaw14.ChartOwners", spec := "chartOwners", unfollowed := true, recurses := true, apart := false, narrowed := true }
def ChartOwnersUptoSaid : Prop := chartOwnersUptoRow.holds Try.pinned (OpenSpec.upto chartOwnersSpec)

/-- 'almonerlaw14.ChartDoes', WHERE WHAT IT READS IS OF BULK AT MOST 1048576: true; the input reads as it did. -/
def chartDoesUptoRow : OpenClaim := { program := "ytoljbckhoigibaa", sum := "631cba99e6ccb7bcaa3dfaa5b8ecd375b606b7673295e2b2417d7faf236a9b65", func := "almoner/almonerlaw14.ChartDoes", spec := "chartDoes", unfollowed := true, recurses := true, apart := false, narrowed := true }
def ChartDoesUptoSaid : Prop := chartDoesUptoRow.holds Try.pinned (OpenSpec.upto chartDoesSpec)

/-- 'almonerlaw14.ChartNil', WHERE WHAT IT READS IS OF BULK AT MOST 1048576: true; the input reads as it did. -/
def chartNilUptoRow : OpenClaim := { program := "ytoljbckhoigibaa", sum := "631cba99e6ccb7bcaa3dfaa5b8ecd375b606b7673295e2b2417d7faf236a9b65", func := "almoner/almonerlaw14.ChartNil", spec := "chartNil", unfollowed := true, recurses := true, apart := false, narrowed := true }
def ChartNilUptoSaid : Prop := chartNilUptoRow.holds Try.pinned (OpenSpec.upto chartNilSpec)

/-- 'almonerlaw14.ChartCommands', WHERE WHAT IT READS IS OF BULK AT MOST 1048576: true; the input reads as it did. -/
def chartCommandsUptoRow : OpenClaim := { program := "ytoljbckhoigibaa", sum := "631cba99e6ccb7bcaa3dfaa5b8ecd375b606b7673295e2b2417d7faf236a9b65", func := "almoner/almonerlaw14.ChartCommands", spec := "chartCommands", unfollowed := true, recurses := true, apart := false, narrowed := true }
def ChartCommandsUptoSaid : Prop := chartCommandsUptoRow.holds Try.pinned (OpenSpec.upto chartCommandsSpec)

/-- 'almonerlaw18.ClientApart', WHERE WHAT IT READS IS OF BULK AT MOST 1048576: true; the input reads as it did. -/
def clientApartUptoRow : OpenClaim := { program := "ytoljbckhoigibaa", sum := "631cba99e6ccb7bcaa3dfaa5b8ecd375b606b7673295e2b2417d7faf236a9b65", func := "almoner/almonerlaw18.ClientApart", spec := "clientApart", unfollowed := true, recurses := true, apart := false, narrowed := true }
def ClientApartUptoSaid : Prop := clientApartUptoRow.holds Try.pinned (OpenSpec.upto clientApartSpec)

/-- 'almonerlaw18.ClientNil', WHERE WHAT IT READS IS OF BULK AT MOST 1048576: true; the input reads as it did. -/
def clientNilUptoRow : OpenClaim := { program := "ytoljbckhoigibaa", sum := "631cba99e6ccb7bcaa3dfaa5b8ecd375b606b7673295e2b2417d7faf236a9b65", func := "almoner/almonerlaw18.ClientNil", spec := "clientNil", unfollowed := true, recurses := true, apart := false, narrowed := true }
def ClientNilUptoSaid : Prop := clientNilUptoRow.holds Try.pinned (OpenSpec.upto clientNilSpec)

/-- 'almonerlaw18.ClientDesk', WHERE WHAT IT READS IS OF BULK AT MOST 1048576: true; the input reads as it did. -/
def clientDeskUptoRow : OpenClaim := { program := "ytoljbckhoigibaa", sum := "631cba99e6ccb7bcaa3dfaa5b8ecd375b606b7673295e2b2417d7faf236a9b65", func := "almoner/almonerlaw18.ClientDesk", spec := "clientDesk", unfollowed := true, recurses := true, apart := false, narrowed := true }
def ClientDeskUptoSaid : Prop := clientDeskUptoRow.holds Try.pinned (OpenSpec.upto clientDeskSpec)

/-- 'almonerlaw18.ClientLetters', WHERE WHAT IT READS IS OF BULK AT MOST 1048576: true; the input reads as it did. -/
def clientLettersUptoRow : OpenClaim := { program := "ytoljbckhoigibaa", sum := "631cba99e6ccb7bcaa3dfaa5b8ecd375b606b7673295e2b2417d7faf236a9b65", func := "almoner/almonerlaw18.ClientLetters", spec := "clientLetters", unfollowed := true, recurses := true, apart := false, narrowed := true }
def ClientLettersUptoSaid : Prop := clientLettersUptoRow.holds Try.pinned (OpenSpec.upto clientLettersSpec)

end Rows
end Go.Proofs.Ytoljbckhoigibaa
