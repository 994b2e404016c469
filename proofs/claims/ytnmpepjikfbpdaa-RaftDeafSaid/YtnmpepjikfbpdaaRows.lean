/-
  No cell of these rows narrows 'for every input' (looked for: loops, veiled, ifaces, maps, wideKeys, modest, calm, conditions, laid).
  DERIVED. THE GIVEN ROWS OF THIS SEAT. 7 by the template 'for every input the law returns true; each argument reads behind the call as it read before'; 0 by the template 'total and deterministic' (their statements: YtnmpepjikfbpdaaTotals.lean).
  GIVEN WITH THE SEED: the statements are not yours to turn. If you find one false, say at which input.
  Laid BY PROGRAM, IN A SANDBOX (cutbox-rows.mjs): the forced cells as the released guide's own fill.sh prints them over the translation 6ed0541a01a3ded0… (all of the seat's roots in one cut). By AI agents, Wed Nov 11 2026. No macro, syntax, notation, axiom, sorry.
-/
import Derived.Test.YtnmpepjikfbpdaaChecked
import GoSem.Claim
import GoSem.ClaimJoined
import GoSem.ClaimMapViews
import Derived.JoinedTies
import Derived.KernelRfl
namespace Go.Proofs.Ytnmpepjikfbpdaa
/- THE CELL 'sum', in the pinned program and in every row, IS THE sha256 OF THE DUMP (.gsa) THAT YtnmpepjikfbpdaaProg.lean LOADS. Nothing in Lean hashes anything: it is a label: what it is worth is what the hold of that sum in a sandbox is worth. -/
noncomputable def Try.pinned : Pinned := { name := "ytnmpepjikfbpdaa", sum := "6ed0541a01a3ded0338358292ad4ef02e068abe81756b7aa6fd785987b8bb7ff", checked := Try.checked }
namespace Rows
def none {H : Type} : Left H := { results := [], args := [] }

/-- 'almonerlaw10.RaftAlone': WHATEVER THE INPUT: true; the input reads as it did. -/
def raftAloneSpec : ChangeSpec := { name := "raftAlone", fn := fun _ => fun
  | [d1, d2, d3] => { results := [.lit (.bool true)], args := [d1, d2, d3] }
  | _ => none }
def raftAloneRow : OpenClaim := { program := "ytnmpepjikfbpdaa", sum := "6ed0541a01a3ded0338358292ad4ef02e068abe81756b7aa6fd785987b8bb7ff", func := "almoner/almonerlaw10.RaftAlone", spec := "raftAlone", unfollowed := true, recurses := true, apart := false }
def RaftAloneSaid : Prop := raftAloneRow.holds Try.pinned (OpenSpec.ofChange raftAloneSpec)

/-- ITS FALSE NEIGHBOUR: 'it returns false'. Refute it at one input. -/
def raftAloneWrong : ChangeSpec := { name := "raftAlone", fn := fun _ => fun
  | [d1, d2, d3] => { results := [.lit (.bool false)], args := [d1, d2, d3] }
  | _ => none }
def RaftAloneWrongFalsely : Prop := raftAloneRow.holds Try.pinned (OpenSpec.ofChange raftAloneWrong)

/-- 'almonerlaw10.RaftDeaf': WHATEVER THE INPUT: true; the input reads as it did. -/
def raftDeafSpec : ChangeSpec := { name := "raftDeaf", fn := fun _ => fun
  | [d1, d2, d3] => { results := [.lit (.bool true)], args := [d1, d2, d3] }
  | _ => none }
def raftDeafRow : OpenClaim := { program := "ytnmpepjikfbpdaa", sum := "6ed0541a01a3ded0338358292ad4ef02e068abe81756b7aa6fd785987b8bb7ff", func := "almoner/almonerlaw10.RaftDeaf", spec := "raftDeaf", unfollowed := true, recurses := true, apart := false }
def RaftDeafSaid : Prop := raftDeafRow.holds Try.pinned (OpenSpec.ofChange raftDeafSpec)

/-- ITS FALSE NEIGHBOUR: 'it returns false'. Refute it at one input. -/
def raftDeafWrong : ChangeSpec := { name := "raftDeaf", fn := fun _ => fun
  | [d1, d2, d3] => { results := [.lit (.bool false)], args := [d1, d2, d3] }
  | _ => none }
def RaftDeafWrongFalsely : Prop := raftDeafRow.holds Try.pinned (OpenSpec.ofChange raftDeafWrong)

/-- 'almonerlaw10.RaftLeads': WHATEVER THE INPUT: true; the input reads as it did. -/
def raftLeadsSpec : ChangeSpec := { name := "raftLeads", fn := fun _ => fun
  | [d1, d2] => { results := [.lit (.bool true)], args := [d1, d2] }
  | _ => none }
def raftLeadsRow : OpenClaim := { program := "ytnmpepjikfbpdaa", sum := "6ed0541a01a3ded0338358292ad4ef02e068abe81756b7aa6fd785987b8bb7ff", func := "almoner/almonerlaw10.RaftLeads", spec := "raftLeads", unfollowed := true, recurses := true, apart := false }
def RaftLeadsSaid : Prop := raftLeadsRow.holds Try.pinned (OpenSpec.ofChange raftLeadsSpec)

/-- ITS FALSE NEIGHBOUR: 'it returns false'. Refute it at one input. -/
def raftLeadsWrong : ChangeSpec := { name := "raftLeads", fn := fun _ => fun
  | [d1, d2] => { results := [.lit (.bool false)], args := [d1, d2] }
  | _ => none }
def RaftLeadsWrongFalsely : Prop := raftLeadsRow.holds Try.pinned (OpenSpec.ofChange raftLeadsWrong)

/-- 'almonerlaw10.RaftVotes': WHATEVER THE INPUT: true; the input reads as it did. -/
def raftVotesSpec : ChangeSpec := { name := "raftVotes", fn := fun _ => fun
  | [d1, d2, d3] => { results := [.lit (.bool true)], args := [d1, d2, d3] }
  | _ => none }
def raftVotesRow : OpenClaim := { program := "ytnmpepjikfbpdaa", sum := "6ed0541a01a3ded0338358292ad4ef02e068abe81756b7aa6fd785987b8bb7ff", func := "almoner/almonerlaw10.RaftVotes", spec := "raftVotes", unfollowed := true, recurses := true, apart := false }
def RaftVotesSaid : Prop := raftVotesRow.holds Try.pinned (OpenSpec.ofChange raftVotesSpec)

/-- ITS FALSE NEIGHBOUR: 'it returns false'. Refute it at one input. -/
def raftVotesWrong : ChangeSpec := { name := "raftVotes", fn := fun _ => fun
  | [d1, d2, d3] => { results := [.lit (.bool false)], args := [d1, d2, d3] }
  | _ => none }
def RaftVotesWrongFalsely : Prop := raftVotesRow.holds Try.pinned (OpenSpec.ofChange raftVotesWrong)

/-- 'almonerlaw10.RaftAgrees': WHATEVER THE INPUT: true; the input reads as it did. -/
def raftAgreesSpec : ChangeSpec := { name := "raftAgrees", fn := fun _ => fun
  | [d1, d2] => { results := [.lit (.bool true)], args := [d1, d2] }
  | _ => none }
def raftAgreesRow : OpenClaim := { program := "ytnmpepjikfbpdaa", sum := "6ed0541a01a3ded0338358292ad4ef02e068abe81756b7aa6fd785987b8bb7ff", func := "almoner/almonerlaw10.RaftAgrees", spec := "raftAgrees", unfollowed := true, recurses := true, apart := false }
def RaftAgreesSaid : Prop := raftAgreesRow.holds Try.pinned (OpenSpec.ofChange raftAgreesSpec)

/-- ITS FALSE NEIGHBOUR: 'it returns false'. Refute it at one input. -/
def raftAgreesWrong : ChangeSpec := { name := "raftAgrees", fn := fun _ => fun
  | [d1, d2] => { results := [.lit (.bool false)], args := [d1, d2] }
  | _ => none }
def RaftAgreesWrongFalsely : Prop := raftAgreesRow.holds Try.pinned (OpenSpec.ofChange raftAgreesWrong)

/-- 'almonerlaw10.RaftCatchesUp': WHATEVER THE INPUT: true; the input reads as it did. -/
def raftCatchesUpSpec : ChangeSpec := { name := "raftCatchesUp", fn := fun _ => fun
  | [d1, d2] => { results := [.lit (.bool true)], args := [d1, d2] }
  | _ => none }
def raftCatchesUpRow : OpenClaim := { program := "ytnmpepjikfbpdaa", sum := "6ed0541a01a3ded0338358292ad4ef02e068abe81756b7aa6fd785987b8bb7ff", func := "almoner/almonerlaw10.RaftCatchesUp", spec := "raftCatchesUp", unfollowed := true, recurses := true, apart := false }
def RaftCatchesUpSaid : Prop := raftCatchesUpRow.holds Try.pinned (OpenSpec.ofChange raftCatchesUpSpec)

/-- ITS FALSE NEIGHBOUR: 'it returns false'. Refute it at one input. -/
def raftCatchesUpWrong : ChangeSpec := { name := "raftCatchesUp", fn := fun _ => fun
  | [d1, d2] => { results := [.lit (.bool false)], args := [d1, d2] }
  | _ => none }
def RaftCatchesUpWrongFalsely : Prop := raftCatchesUpRow.holds Try.pinned (OpenSpec.ofChange raftCatchesUpWrong)

/-- 'almonerlaw10.RaftNil': WHATEVER THE INPUT: true; the input reads as it did. -/
def raftNilSpec : ChangeSpec := { name := "raftNil", fn := fun _ => fun
  | [d1, d2] => { results := [.lit (.bool true)], args := [d1, d2] }
  | _ => none }
def raftNilRow : OpenClaim := { program := "ytnmpepjikfbpdaa", sum := "6ed0541a01a3ded0338358292ad4ef02e068abe81756b7aa6fd785987b8bb7ff", func := "almoner/almonerlaw10.RaftNil", spec := "raftNil", unfollowed := true, recurses := true, apart := false }
def RaftNilSaid : Prop := raftNilRow.holds Try.pinned (OpenSpec.ofChange raftNilSpec)

/-- ITS FALSE NEIGHBOUR: 'it returns false'. Refute it at one input. -/
def raftNilWrong : ChangeSpec := { name := "raftNil", fn := fun _ => fun
  | [d1, d2] => { results := [.lit (.bool false)], args := [d1, d2] }
  | _ => none }
def RaftNilWrongFalsely : Prop := raftNilRow.holds Try.pinned (OpenSpec.ofChange raftNilWrong)

/- THE SECOND FORM. 'bulk': how many values and letters a reading holds, each counted each time it is reached (what is shared counts as often as it is met; a slice's spare places count too). A statement '..UptoSaid' is the law's where the arguments, and the package variables that the reading takes, are together of bulk at most 1048576: NARROWER than '..Said'. Prove '..Said' where nothing that the law and all that it calls make is longer than what came in: it says more and counts as full. Else prove '..UptoSaid'. A law counts once. -/
mutual
def uptoBulk {H : Type} : DataW H → Nat
  | .lit (.string bytes) => bytes.length + 1
  | .lit _ => 1
  | .nil => 1
  | .ptr d => uptoBulk d + 1
  | .slice elems spare => uptoBulkAll elems + uptoBulkAll spare + 1
  | .agg parts => uptoBulkAll parts + 1
  | .iface _ d => uptoBulk d + 1
  | .map entries => uptoBulkEntries entries + 1
  | .held _ => 1
def uptoBulkAll {H : Type} : List (DataW H) → Nat
  | [] => 0
  | d :: r => uptoBulk d + uptoBulkAll r
def uptoBulkEntries {H : Type} : List (Lit × DataW H) → Nat
  | [] => 0
  | x :: r => uptoBulkEntry x + uptoBulkEntries r
def uptoBulkEntry {H : Type} : Lit × DataW H → Nat
  | (.string bytes, d) => bytes.length + uptoBulk d + 1
  | (_, d) => uptoBulk d + 1
 end
def uptoSmall : (H : Type) → List (DataW H) → Bool := fun _ ds => decide (uptoBulkAll ds ≤ 1048576)
def OpenSpec.upto (s : _root_.Go.ChangeSpec) : _root_.Go.OpenSpec := { _root_.Go.OpenSpec.ofChange s with cond := some uptoSmall }

/-- 'almonerlaw10.RaftAlone', WHERE WHAT IT READS IS OF BULK AT MOST 1048576: true; the input reads as it did. -/
def raftAloneUptoRow : OpenClaim := { program := "ytnmpepjikfbpdaa", sum := "6ed0541a01a3ded0338358292ad4ef02e068abe81756b7aa6fd785987b8bb7ff", func := "almoner/almonerlaw10.RaftAlone", spec := "raftAlone", unfollowed := true, recurses := true, apart := false, narrowed := true }
def RaftAloneUptoSaid : Prop := raftAloneUptoRow.holds Try.pinned (OpenSpec.upto raftAloneSpec)

/-- 'almonerlaw10.RaftDeaf', WHERE WHAT IT READS IS OF BULK AT MOST 1048576: true; the input reads as it did. -/
def raftDeafUptoRow : OpenClaim := { program := "ytnmpepjikfbpdaa", sum := "6ed0541a01a3ded0338358292ad4ef02e068abe81756b7aa6fd785987b8bb7ff", func := "almoner/almonerlaw10.RaftDeaf", spec := "raftDeaf", unfollowed := true, recurses := true, apart := false, narrowed := true }
def RaftDeafUptoSaid : Prop := raftDeafUptoRow.holds Try.pinned (OpenSpec.upto raftDeafSpec)

/-- 'almonerlaw10.RaftLeads', WHERE WHAT IT READS IS OF BULK AT MOST 1048576: true; the input reads as it did. -/
def raftLeadsUptoRow : OpenClaim := { program := "ytnmpepjikfbpdaa", sum := "6ed0541a01a3ded0338358292ad4ef02e068abe81756b7aa6fd785987b8bb7ff", func := "almoner/almonerlaw10.RaftLeads", spec := "raftLeads", unfollowed := true, recurses := true, apart := false, narrowed := true }
def RaftLeadsUptoSaid : Prop := raftLeadsUptoRow.holds Try.pinned (OpenSpec.upto raftLeadsSpec)

/-- 'almonerlaw10.RaftVotes', WHERE WHAT IT READS IS OF BULK AT MOST 1048576: true; the input reads as it did. -/
def raftVotesUptoRow : OpenClaim := { program := "ytnmpepjikfbpdaa", sum := "6ed0541a01a3ded0338358292ad4ef02e068abe81756b7aa6fd785987b8bb7ff", func := "almoner/almonerlaw10.RaftVotes", spec := "raftVotes", unfollowed := true, recurses := true, apart := false, narrowed := true }
def RaftVotesUptoSaid : Prop := raftVotesUptoRow.holds Try.pinned (OpenSpec.upto raftVotesSpec)

/-- 'almonerlaw10.RaftAgrees', WHERE WHAT IT READS IS OF BULK AT MOST 1048576: true; the input reads as it did. -/
def raftAgreesUptoRow : OpenClaim := { program := "ytnmpepjikfbpdaa", sum := "6ed0541a01a3ded0338358292ad4ef02e068abe81756b7aa6fd785987b8bb7ff", func := "almoner/almonerlaw10.RaftAgrees", spec := "raftAgrees", unfollowed := true, recurses := true, apart := false, narrowed := true }
def RaftAgreesUptoSaid : Prop := raftAgreesUptoRow.holds Try.pinned (OpenSpec.upto raftAgreesSpec)

/-- 'almonerlaw10.RaftCatchesUp', WHERE WHAT IT READS IS OF BULK AT MOST 1048576: true; the input reads as it did. -/
def raftCatchesUpUptoRow : OpenClaim := { program := "ytnmpepjikfbpdaa", sum := "6ed0541a01a3ded0338358292ad4ef02e068abe81756b7aa6fd785987b8bb7ff", func := "almoner/almonerlaw10.RaftCatchesUp", spec := "raftCatchesUp", unfollowed := true, recurses := true, apart := false, narrowed := true }
def RaftCatchesUpUptoSaid : Prop := raftCatchesUpUptoRow.holds Try.pinned (OpenSpec.upto raftCatchesUpSpec)

/-- 'almonerlaw10.RaftNil', WHERE WHAT IT READS IS OF BULK AT MOST 1048576: true; the input reads as it did. -/
def raftNilUptoRow : OpenClaim := { program := "ytnmpepjikfbpdaa", sum := "6ed0541a01a3ded0338358292ad4ef02e068abe81756b7aa6fd785987b8bb7ff", func := "almoner/almonerlaw10.RaftNil", spec := "raftNil", unfollowed := true, recurses := true, apart := false, narrowed := true }
def RaftNilUptoSaid : Prop := raftNilUptoRow.holds Try.pinned (OpenSpec.upto raftNilSpec)

end Rows
end Go.Proofs.Ytnmpepjikfbpdaa
