/-
  No cell of these rows narrows 'for every input' (looked for: loops, veiled, ifaces, maps, wideKeys, modest, calm, conditions, laid).
  DERIVED. THE GIVEN ROWS OF THIS SEAT. 5 by the template 'for every input the law returns true; each argument reads behind the call as it read before'; 0 by the template 'total and deterministic' (their statements: YtncjidepplaocaaTotals.lean).
  GIVEN WITH THE SEED: the statements are not yours to turn. If you find one false, say at which input.
  Laid BY PROGRAM, IN A SANDBOX (cutbox-rows.mjs): the forced cells as the released guide's own fill.sh prints them over the translation a96e91d720600351… (all of the seat's roots in one cut). By AI agents, Wed Nov 11 2026. No macro, syntax, notation, axiom, sorry.
-/
import Derived.Test.YtncjidepplaocaaChecked
import GoSem.Claim
import GoSem.ClaimJoined
import GoSem.ClaimMapViews
import Derived.JoinedTies
import Derived.KernelRfl
namespace Go.Proofs.Ytncjidepplaocaa
/- THE CELL 'sum', in the pinned program and in every row, IS THE sha256 OF THE DUMP (.gsa) THAT YtncjidepplaocaaProg.lean LOADS. Nothing in Lean hashes anything: it is a label: what it is worth is what the hold of that sum in a sandbox is worth. -/
noncomputable def Try.pinned : Pinned := { name := "ytncjidepplaocaa", sum := "a96e91d7206003517f1b99b8b40e859e2e8a9df828591ff51a84c69b69cb90f7", checked := Try.checked }
namespace Rows
def none {H : Type} : Left H := { results := [], args := [] }

/-- 'almonerlaw09.RlogMatches': WHATEVER THE INPUT: true; the input reads as it did. -/
def rlogMatchesSpec : ChangeSpec := { name := "rlogMatches", fn := fun _ => fun
  | [d1, d2, d3, d4] => { results := [.lit (.bool true)], args := [d1, d2, d3, d4] }
  | _ => none }
def rlogMatchesRow : OpenClaim := { program := "ytncjidepplaocaa", sum := "a96e91d7206003517f1b99b8b40e859e2e8a9df828591ff51a84c69b69cb90f7", func := "almoner/almonerlaw09.RlogMatches", spec := "rlogMatches", unfollowed := true, recurses := true, apart := false }
def RlogMatchesSaid : Prop := rlogMatchesRow.holds Try.pinned (OpenSpec.ofChange rlogMatchesSpec)

/-- ITS FALSE NEIGHBOUR: 'it returns false'. Refute it at one input. -/
def rlogMatchesWrong : ChangeSpec := { name := "rlogMatches", fn := fun _ => fun
  | [d1, d2, d3, d4] => { results := [.lit (.bool false)], args := [d1, d2, d3, d4] }
  | _ => none }
def RlogMatchesWrongFalsely : Prop := rlogMatchesRow.holds Try.pinned (OpenSpec.ofChange rlogMatchesWrong)

/-- 'almonerlaw09.RlogCompacts': WHATEVER THE INPUT: true; the input reads as it did. -/
def rlogCompactsSpec : ChangeSpec := { name := "rlogCompacts", fn := fun _ => fun
  | [d1, d2] => { results := [.lit (.bool true)], args := [d1, d2] }
  | _ => none }
def rlogCompactsRow : OpenClaim := { program := "ytncjidepplaocaa", sum := "a96e91d7206003517f1b99b8b40e859e2e8a9df828591ff51a84c69b69cb90f7", func := "almoner/almonerlaw09.RlogCompacts", spec := "rlogCompacts", unfollowed := true, recurses := true, apart := false }
def RlogCompactsSaid : Prop := rlogCompactsRow.holds Try.pinned (OpenSpec.ofChange rlogCompactsSpec)

/-- ITS FALSE NEIGHBOUR: 'it returns false'. Refute it at one input. -/
def rlogCompactsWrong : ChangeSpec := { name := "rlogCompacts", fn := fun _ => fun
  | [d1, d2] => { results := [.lit (.bool false)], args := [d1, d2] }
  | _ => none }
def RlogCompactsWrongFalsely : Prop := rlogCompactsRow.holds Try.pinned (OpenSpec.ofChange rlogCompactsWrong)

/-- 'almonerlaw09.RlogParts': WHATEVER THE INPUT: true; the input reads as it did. -/
def rlogPartsSpec : ChangeSpec := { name := "rlogParts", fn := fun _ => fun
  | [d1, d2, d3, d4] => { results := [.lit (.bool true)], args := [d1, d2, d3, d4] }
  | _ => none }
def rlogPartsRow : OpenClaim := { program := "ytncjidepplaocaa", sum := "a96e91d7206003517f1b99b8b40e859e2e8a9df828591ff51a84c69b69cb90f7", func := "almoner/almonerlaw09.RlogParts", spec := "rlogParts", unfollowed := true, recurses := true, apart := false }
def RlogPartsSaid : Prop := rlogPartsRow.holds Try.pinned (OpenSpec.ofChange rlogPartsSpec)

/-- ITS FALSE NEIGHBOUR: 'it returns false'. Refute it at one input. -/
def rlogPartsWrong : ChangeSpec := { name := "rlogParts", fn := fun _ => fun
  | [d1, d2, d3, d4] => { results := [.lit (.bool false)], args := [d1, d2, d3, d4] }
  | _ => none }
def RlogPartsWrongFalsely : Prop := rlogPartsRow.holds Try.pinned (OpenSpec.ofChange rlogPartsWrong)

/-- 'almonerlaw09.RlogCuts': WHATEVER THE INPUT: true; the input reads as it did. -/
def rlogCutsSpec : ChangeSpec := { name := "rlogCuts", fn := fun _ => fun
  | [d1, d2] => { results := [.lit (.bool true)], args := [d1, d2] }
  | _ => none }
def rlogCutsRow : OpenClaim := { program := "ytncjidepplaocaa", sum := "a96e91d7206003517f1b99b8b40e859e2e8a9df828591ff51a84c69b69cb90f7", func := "almoner/almonerlaw09.RlogCuts", spec := "rlogCuts", unfollowed := true, recurses := true, apart := false }
def RlogCutsSaid : Prop := rlogCutsRow.holds Try.pinned (OpenSpec.ofChange rlogCutsSpec)

/-- ITS FALSE NEIGHBOUR: 'it returns false'. Refute it at one input. -/
def rlogCutsWrong : ChangeSpec := { name := "rlogCuts", fn := fun _ => fun
  | [d1, d2] => { results := [.lit (.bool false)], args := [d1, d2] }
  | _ => none }
def RlogCutsWrongFalsely : Prop := rlogCutsRow.holds Try.pinned (OpenSpec.ofChange rlogCutsWrong)

/-- 'almonerlaw09.RlogNil': WHATEVER THE INPUT: true; the input reads as it did. -/
def rlogNilSpec : ChangeSpec := { name := "rlogNil", fn := fun _ => fun
  | [d] => { results := [.lit (.bool true)], args := [d] }
  | _ => none }
def rlogNilRow : OpenClaim := { program := "ytncjidepplaocaa", sum := "a96e91d7206003517f1b99b8b40e859e2e8a9df828591ff51a84c69b69cb90f7", func := "almoner/almonerlaw09.RlogNil", spec := "rlogNil", unfollowed := true, recurses := true, apart := false }
def RlogNilSaid : Prop := rlogNilRow.holds Try.pinned (OpenSpec.ofChange rlogNilSpec)

/-- ITS FALSE NEIGHBOUR: 'it returns false'. Refute it at one input. -/
def rlogNilWrong : ChangeSpec := { name := "rlogNil", fn := fun _ => fun
  | [d] => { results := [.lit (.bool false)], args := [d] }
  | _ => none }
def RlogNilWrongFalsely : Prop := rlogNilRow.holds Try.pinned (OpenSpec.ofChange rlogNilWrong)

/- THE SECOND FORM. 'bulk': how many values and letters a reading holds, each counted each time it is reached (what is shared counts as often as it is met; a slice's spare places count too). A statement '..UptoSaid' is the law's where the arguments, and the package variables that the reading takes, are together of bulk at most 1048576: NARROWER than '..Said'. Prove '..Said' where nothing that the law and all that it calls make is longer than what came in: it says more and counts as full. Else prove '..UptoSaid'. A law counts once. -/
mutual
def uptoBulk {H : Type} : DataW H → Nat
  | .lit (.string bytes) => bytes.length + 1
  | .lit _ => 1
  | .nil => 1
  | .ptr d => uptoBulk d + 1
  | .slice elems spare => uptoBulkAll elems + uptoBulkAll spare + 1
  | .agg parts => uptoBulkAll parts + 1
  | .iface _ d => uptoBulk d + 1
  | .map entries => uptoBulkEntries entries + 1
  | .held _ => 1
def uptoBulkAll {H : Type} : List (DataW H) → Nat
  | [] => 0
  | d :: r => uptoBulk d + uptoBulkAll r
def uptoBulkEntries {H : Type} : List (Lit × DataW H) → Nat
  | [] => 0
  | x :: r => uptoBulkEntry x + uptoBulkEntries r
def uptoBulkEntry {H : Type} : Lit × DataW H → Nat
  | (.string bytes, d) => bytes.length + uptoBulk d + 1
  | (_, d) => uptoBulk d + 1
 end
def uptoSmall : (H : Type) → List (DataW H) → Bool := fun _ ds => decide (uptoBulkAll ds ≤ 1048576)
def OpenSpec.upto (s : _root_.Go.ChangeSpec) : _root_.Go.OpenSpec := { _root_.Go.OpenSpec.ofChange s with cond := some uptoSmall }

/-- 'almonerlaw09.RlogMatches', WHERE WHAT IT READS IS OF BULK AT MOST 1048576: true; the input reads as it did. -/
def rlogMatchesUptoRow : OpenClaim := { program := "ytncjidepplaocaa", sum := "a96e91d7206003517f1b99b8b40e859e2e8a9df828591ff51a84c69b69cb90f7", func := "almoner/almonerlaw09.RlogMatches", spec := "rlogMatches", unfollowed := true, recurses := true, apart := false, narrowed := true }
def RlogMatchesUptoSaid : Prop := rlogMatchesUptoRow.holds Try.pinned (OpenSpec.upto rlogMatchesSpec)

/-- 'almonerlaw09.RlogCompacts', WHERE WHAT IT READS IS OF BULK AT MOST 1048576: true; the input reads as it did. -/
def rlogCompactsUptoRow : OpenClaim := { program := "ytncjidepplaocaa", sum := "a96e91d7206003517f1b99b8b40e859e2e8a9df828591ff51a84c69b69cb90f7", func := "almoner/almonerlaw09.RlogCompacts", spec := "rlogCompacts", unfollowed := true, recurses := true, apart := false, narrowed := true }
def RlogCompactsUptoSaid : Prop := rlogCompactsUptoRow.holds Try.pinned (OpenSpec.upto rlogCompactsSpec)

/-- 'almonerlaw09.RlogParts', WHERE WHAT IT READS IS OF BULK AT MOST 1048576: true; the input reads as it did. -/
def rlogPartsUptoRow : OpenClaim := { program := "ytncjidepplaocaa", sum := "a96e91d7206003517f1b99b8b40e859e2e8a9df828591ff51a84c69b69cb90f7", func := "almoner/almonerlaw09.RlogParts", spec := "rlogParts", unfollowed := true, recurses := true, apart := false, narrowed := true }
def RlogPartsUptoSaid : Prop := rlogPartsUptoRow.holds Try.pinned (OpenSpec.upto rlogPartsSpec)

/-- 'almonerlaw09.RlogCuts', WHERE WHAT IT READS IS OF BULK AT MOST 1048576: true; the input reads as it did. -/
def rlogCutsUptoRow : OpenClaim := { program := "ytncjidepplaocaa", sum := "a96e91d7206003517f1b99b8b40e859e2e8a9df828591ff51a84c69b69cb90f7", func := "almoner/almonerlaw09.RlogCuts", spec := "rlogCuts", unfollowed := true, recurses := true, apart := false, narrowed := true }
def RlogCutsUptoSaid : Prop := rlogCutsUptoRow.holds Try.pinned (OpenSpec.upto rlogCutsSpec)

/-- 'almonerlaw09.RlogNil', WHERE WHAT IT READS IS OF BULK AT MOST 1048576: true; the input reads as it did. -/
def rlogNilUptoRow : OpenClaim := { program := "ytncjidepplaocaa", sum := "a96e91d7206003517f1b99b8b40e859e2e8a9df828591ff51a84c69b69cb90f7", func := "almoner/almonerlaw09.RlogNil", spec := "rlogNil", unfollowed := true, recurses := true, apart := false, narrowed := true }
def RlogNilUptoSaid : Prop := rlogNilUptoRow.holds Try.pinned (OpenSpec.upto rlogNilSpec)

end Rows
end Go.Proofs.Ytncjidepplaocaa
