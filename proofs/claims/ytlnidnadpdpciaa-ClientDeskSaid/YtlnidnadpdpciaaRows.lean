/-
  No cell of these rows narrows 'for every input' (looked for: loops, veiled, ifaces, maps, wideKeys, modest, calm, conditions, laid).
  DERIVED. THE GIVEN ROWS OF THIS SEAT. 4 by the template 'for every input the law returns true; each argument reads behind the call as it read before'; 0 by the template 'total and deterministic' (their statements: YtlnidnadpdpciaaTotals.lean).
  GIVEN WITH THE SEED: the statements are not yours to turn. If you find one false, say at which input.
  Laid BY PROGRAM, IN A SANDBOX (cutbox-rows.mjs): the forced cells as the released guide's own fill.sh prints them over the translation dcfe0d95c355145b… (all of the seat's roots in one cut). By AI agents, Wed Nov 11 2026. No macro, syntax, notation, axiom, sorry.
-/
import Derived.Test.YtlnidnadpdpciaaChecked
import GoSem.Claim
import GoSem.ClaimJoined
import GoSem.ClaimMapViews
import Derived.JoinedTies
import Derived.KernelRfl
namespace Go.Proofs.Ytlnidnadpdpciaa
/- THE CELL 'sum', in the pinned program and in every row, IS THE sha256 OF THE DUMP (.gsa) THAT YtlnidnadpdpciaaProg.lean LOADS. Nothing in Lean hashes anything: it is a label: what it is worth is what the hold of that sum in a sandbox is worth. -/
noncomputable def Try.pinned : Pinned := { name := "ytlnidnadpdpciaa", sum := "dcfe0d95c355145b575437a7224f8bc25320be3f7473fbb36e5f86c35fe7019a", checked := Try.checked }
namespace Rows
def none {H : Type} : Left H := { results := [], args := [] }

/-- 'almonerlaw18.ClientApart': WHATEVER THE INPUT: true; the input reads as it did. -/
def clientApartSpec : ChangeSpec := { name := "clientApart", fn := fun _ => fun
  | [d1, d2] => { results := [.lit (.bool true)], args := [d1, d2] }
  | _ => none }
def clientApartRow : OpenClaim := { program := "ytlnidnadpdpciaa", sum := "dcfe0d95c355145b575437a7224f8bc25320be3f7473fbb36e5f86c35fe7019a", func := "almoner/almonerlaw18.ClientApart", spec := "clientApart", unfollowed := true, recurses := true, apart := false }
def ClientApartSaid : Prop := clientApartRow.holds Try.pinned (OpenSpec.ofChange clientApartSpec)

/-- ITS FALSE NEIGHBOUR: 'it returns false'. Refute it at one input. -/
def clientApartWrong : ChangeSpec := { name := "clientApart", fn := fun _ => fun
  | [d1, d2] => { results := [.lit (.bool false)], args := [d1, d2] }
  | _ => none }
def ClientApartWrongFalsely : Prop := clientApartRow.holds Try.pinned (OpenSpec.ofChange clientApartWrong)

/-- 'almonerlaw18.ClientNil': WHATEVER THE INPUT: true; the input reads as it did. -/
def clientNilSpec : ChangeSpec := { name := "clientNil", fn := fun _ => fun
  | [d1, d2] => { results := [.lit (.bool true)], args := [d1, d2] }
  | _ => none }
def clientNilRow : OpenClaim := { program := "ytlnidnadpdpciaa", sum := "dcfe0d95c355145b575437a7224f8bc25320be3f7473fbb36e5f86c35fe7019a", func := "almoner/almonerlaw18.ClientNil", spec := "clientNil", unfollowed := true, recurses := true, apart := false }
def ClientNilSaid : Prop := clientNilRow.holds Try.pinned (OpenSpec.ofChange clientNilSpec)

/-- ITS FALSE NEIGHBOUR: 'it returns false'. Refute it at one input. -/
def clientNilWrong : ChangeSpec := { name := "clientNil", fn := fun _ => fun
  | [d1, d2] => { results := [.lit (.bool false)], args := [d1, d2] }
  | _ => none }
def ClientNilWrongFalsely : Prop := clientNilRow.holds Try.pinned (OpenSpec.ofChange clientNilWrong)

/-- 'almonerlaw18.ClientDesk': WHATEVER THE INPUT: true; the input reads as it did. -/
def clientDeskSpec : ChangeSpec := { name := "clientDesk", fn := fun _ => fun
  | [d] => { results := [.lit (.bool true)], args := [d] }
  | _ => none }
def clientDeskRow : OpenClaim := { program := "ytlnidnadpdpciaa", sum := "dcfe0d95c355145b575437a7224f8bc25320be3f7473fbb36e5f86c35fe7019a", func := "almoner/almonerlaw18.ClientDesk", spec := "clientDesk", unfollowed := true, recurses := true, apart := false }
def ClientDeskSaid : Prop := clientDeskRow.holds Try.pinned (OpenSpec.ofChange clientDeskSpec)

/-- ITS FALSE NEIGHBOUR: 'it returns false'. Refute it at one input. -/
def clientDeskWrong : ChangeSpec := { name := "clientDesk", fn := fun _ => fun
  | [d] => { results := [.lit (.bool false)], args := [d] }
  | _ => none }
def ClientDeskWrongFalsely : Prop := clientDeskRow.holds Try.pinned (OpenSpec.ofChange clientDeskWrong)

/-- 'almonerlaw18.ClientLetters': WHATEVER THE INPUT: true; the input reads as it did. -/
def clientLettersSpec : ChangeSpec := { name := "clientLetters", fn := fun _ => fun
  | [d1, d2] => { results := [.lit (.bool true)], args := [d1, d2] }
  | _ => none }
def clientLettersRow : OpenClaim := { program := "ytlnidnadpdpciaa", sum := "dcfe0d95c355145b575437a7224f8bc25320be3f7473fbb36e5f86c35fe7019a", func := "almoner/almonerlaw18.ClientLetters", spec := "clientLetters", unfollowed := true, recurses := true, apart := false }
def ClientLettersSaid : Prop := clientLettersRow.holds Try.pinned (OpenSpec.ofChange clientLettersSpec)

/-- ITS FALSE NEIGHBOUR: 'it returns false'. Refute it at one input. -/
def clientLettersWrong : ChangeSpec := { name := "clientLetters", fn := fun _ => fun
  | [d1, d2] => { results := [.lit (.bool false)], args := [d1, d2] }
  | _ => none }
def ClientLettersWrongFalsely : Prop := clientLettersRow.holds Try.pinned (OpenSpec.ofChange clientLettersWrong)

/- THE SECOND FORM. 'bulk': how many values and letters a reading holds, each counted each time it is reached (what is shared counts as often as it is met; a slice's spare places count too). A statement '..UptoSaid' is the law's where the arguments, and the package variables that the reading takes, are together of bulk at most 1048576: NARROWER than '..Said'. Prove '..Said' where nothing that the law and all that it calls make is longer than what came in: it says more and counts as full. Else prove '..UptoSaid'. A law counts once. -/
mutual
def uptoBulk {H : Type} : DataW H → Nat
  | .lit (.string bytes) => bytes.length + 1
  | .lit _ => 1
  | .nil => 1
  | .ptr d => uptoBulk d + 1
  | .slice elems spare => uptoBulkAll elems + uptoBulkAll spare + 1
  | .agg parts => uptoBulkAll parts + 1
  | .iface _ d => uptoBulk d + 1
  | .map entries => uptoBulkEntries entries + 1
  | .held _ => 1
def uptoBulkAll {H : Type} : List (DataW H) → Nat
  | [] => 0
  | d :: r => uptoBulk d + uptoBulkAll r
def uptoBulkEntries {H : Type} : List (Lit × DataW H) → Nat
  | [] => 0
  | x :: r => uptoBulkEntry x + uptoBulkEntries r
def uptoBulkEntry {H : Type} : Lit × DataW H → Nat
  | (.string bytes, d) => bytes.length + uptoBulk d + 1
  | (_, d) => uptoBulk d + 1
 end
def uptoSmall : (H : Type) → List (DataW H) → Bool := fun _ ds => decide (uptoBulkAll ds ≤ 1048576)
def OpenSpec.upto (s : _root_.Go.ChangeSpec) : _root_.Go.OpenSpec := { _root_.Go.OpenSpec.ofChange s with cond := some uptoSmall }

/-- 'almonerlaw18.ClientApart', WHERE WHAT IT READS IS OF BULK AT MOST 1048576: true; the input reads as it did. -/
def clientApartUptoRow : OpenClaim := { program := "ytlnidnadpdpciaa", sum := "dcfe0d95c355145b575437a7224f8bc25320be3f7473fbb36e5f86c35fe7019a", func := "almoner/almonerlaw18.ClientApart", spec := "clientApart", unfollowed := true, recurses := true, apart := false, narrowed := true }
def ClientApartUptoSaid : Prop := clientApartUptoRow.holds Try.pinned (OpenSpec.upto clientApartSpec)

/-- 'almonerlaw18.ClientNil', WHERE WHAT IT READS IS OF BULK AT MOST 1048576: true; the input reads as it did. -/
def clientNilUptoRow : OpenClaim := { program := "ytlnidnadpdpciaa", sum := "dcfe0d95c355145b575437a7224f8bc25320be3f7473fbb36e5f86c35fe7019a", func := "almoner/almonerlaw18.ClientNil", spec := "clientNil", unfollowed := true, recurses := true, apart := false, narrowed := true }
def ClientNilUptoSaid : Prop := clientNilUptoRow.holds Try.pinned (OpenSpec.upto clientNilSpec)

/-- 'almonerlaw18.ClientDesk', WHERE WHAT IT READS IS OF BULK AT MOST 1048576: true; the input reads as it did. -/
def clientDeskUptoRow : OpenClaim := { program := "ytlnidnadpdpciaa", sum := "dcfe0d95c355145b575437a7224f8bc25320be3f7473fbb36e5f86c35fe7019a", func := "almoner/almonerlaw18.ClientDesk", spec := "clientDesk", unfollowed := true, recurses := true, apart := false, narrowed := true }
def ClientDeskUptoSaid : Prop := clientDeskUptoRow.holds Try.pinned (OpenSpec.upto clientDeskSpec)

/-- 'almonerlaw18.ClientLetters', WHERE WHAT IT READS IS OF BULK AT MOST 1048576: true; the input reads as it did. -/
def clientLettersUptoRow : OpenClaim := { program := "ytlnidnadpdpciaa", sum := "dcfe0d95c355145b575437a7224f8bc25320be3f7473fbb36e5f86c35fe7019a", func := "almoner/almonerlaw18.ClientLetters", spec := "clientLetters", unfollowed := true, recurses := true, apart := false, narrowed := true }
def ClientLettersUptoSaid : Prop := clientLettersUptoRow.holds Try.pinned (OpenSpec.upto clientLettersSpec)

end Rows
end Go.Proofs.Ytlnidnadpdpciaa
