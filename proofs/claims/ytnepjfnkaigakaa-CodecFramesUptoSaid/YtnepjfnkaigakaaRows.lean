/-
  No cell of these rows narrows 'for every input' (looked for: loops, veiled, ifaces, maps, wideKeys, modest, calm, conditions, laid).
  DERIVED. THE GIVEN ROWS OF THIS SEAT. 9 by the template 'for every input the law returns true; each argument reads behind the call as it read before'; 0 by the template 'total and deterministic' (their statements: YtnepjfnkaigakaaTotals.lean).
  GIVEN WITH THE SEED: the statements are not yours to turn. If you find one false, say at which input.
  Laid BY PROGRAM, IN A SANDBOX (cutbox-rows.mjs): the forced cells as the released guide's own fill.sh prints them over the translation 8efbde82816598fe… (all of the seat's roots in one cut). By AI agents, Wed Nov 11 2026. No macro, syntax, notation, axiom, sorry.
-/
import Derived.Test.YtnepjfnkaigakaaChecked
import GoSem.Claim
import GoSem.ClaimJoined
import GoSem.ClaimMapViews
import Derived.JoinedTies
import Derived.KernelRfl
namespace Go.Proofs.Ytnepjfnkaigakaa
/- THE CELL 'sum', in the pinned program and in every row, IS THE sha256 OF THE DUMP (.gsa) THAT YtnepjfnkaigakaaProg.lean LOADS. Nothing in Lean hashes anything: it is a label: what it is worth is what the hold of that sum in a sandbox is worth. -/
noncomputable def Try.pinned : Pinned := { name := "ytnepjfnkaigakaa", sum := "8efbde82816598fe35f7efd5ef49f97b50885a1fc016647ea9930759fe7f630f", checked := Try.checked }
namespace Rows
def none {H : Type} : Left H := { results := [], args := [] }

/-- 'almonerlaw02.CodecNumbers': WHATEVER THE INPUT: true; the input reads as it did. -/
def codecNumbersSpec : ChangeSpec := { name := "codecNumbers", fn := fun _ => fun
  | [d1, d2] => { results := [.lit (.bool true)], args := [d1, d2] }
  | _ => none }
def codecNumbersRow : OpenClaim := { program := "ytnepjfnkaigakaa", sum := "8efbde82816598fe35f7efd5ef49f97b50885a1fc016647ea9930759fe7f630f", func := "almoner/almonerlaw02.CodecNumbers", spec := "codecNumbers", apart := false }
def CodecNumbersSaid : Prop := codecNumbersRow.holds Try.pinned (OpenSpec.ofChange codecNumbersSpec)

/-- ITS FALSE NEIGHBOUR: 'it returns false'. Refute it at one input. -/
def codecNumbersWrong : ChangeSpec := { name := "codecNumbers", fn := fun _ => fun
  | [d1, d2] => { results := [.lit (.bool false)], args := [d1, d2] }
  | _ => none }
def CodecNumbersWrongFalsely : Prop := codecNumbersRow.holds Try.pinned (OpenSpec.ofChange codecNumbersWrong)

/-- 'almonerlaw02.CodecStreams': WHATEVER THE INPUT: true; the input reads as it did. -/
def codecStreamsSpec : ChangeSpec := { name := "codecStreams", fn := fun _ => fun
  | [d1, d2] => { results := [.lit (.bool true)], args := [d1, d2] }
  | _ => none }
def codecStreamsRow : OpenClaim := { program := "ytnepjfnkaigakaa", sum := "8efbde82816598fe35f7efd5ef49f97b50885a1fc016647ea9930759fe7f630f", func := "almoner/almonerlaw02.CodecStreams", spec := "codecStreams", unfollowed := true, recurses := true, apart := false }
def CodecStreamsSaid : Prop := codecStreamsRow.holds Try.pinned (OpenSpec.ofChange codecStreamsSpec)

/-- ITS FALSE NEIGHBOUR: 'it returns false'. Refute it at one input. -/
def codecStreamsWrong : ChangeSpec := { name := "codecStreams", fn := fun _ => fun
  | [d1, d2] => { results := [.lit (.bool false)], args := [d1, d2] }
  | _ => none }
def CodecStreamsWrongFalsely : Prop := codecStreamsRow.holds Try.pinned (OpenSpec.ofChange codecStreamsWrong)

/-- 'almonerlaw02.CodecWrites': WHATEVER THE INPUT: true; the input reads as it did. -/
def codecWritesSpec : ChangeSpec := { name := "codecWrites", fn := fun _ => fun
  | [d1, d2, d3, d4, d5, d6, d7] => { results := [.lit (.bool true)], args := [d1, d2, d3, d4, d5, d6, d7] }
  | _ => none }
def codecWritesRow : OpenClaim := { program := "ytnepjfnkaigakaa", sum := "8efbde82816598fe35f7efd5ef49f97b50885a1fc016647ea9930759fe7f630f", func := "almoner/almonerlaw02.CodecWrites", spec := "codecWrites", apart := false }
def CodecWritesSaid : Prop := codecWritesRow.holds Try.pinned (OpenSpec.ofChange codecWritesSpec)

/-- ITS FALSE NEIGHBOUR: 'it returns false'. Refute it at one input. -/
def codecWritesWrong : ChangeSpec := { name := "codecWrites", fn := fun _ => fun
  | [d1, d2, d3, d4, d5, d6, d7] => { results := [.lit (.bool false)], args := [d1, d2, d3, d4, d5, d6, d7] }
  | _ => none }
def CodecWritesWrongFalsely : Prop := codecWritesRow.holds Try.pinned (OpenSpec.ofChange codecWritesWrong)

/-- 'almonerlaw02.CodecApart': WHATEVER THE INPUT: true; the input reads as it did. -/
def codecApartSpec : ChangeSpec := { name := "codecApart", fn := fun _ => fun
  | [d1, d2, d3, d4, d5, d6] => { results := [.lit (.bool true)], args := [d1, d2, d3, d4, d5, d6] }
  | _ => none }
def codecApartRow : OpenClaim := { program := "ytnepjfnkaigakaa", sum := "8efbde82816598fe35f7efd5ef49f97b50885a1fc016647ea9930759fe7f630f", func := "almoner/almonerlaw02.CodecApart", spec := "codecApart", apart := false }
def CodecApartSaid : Prop := codecApartRow.holds Try.pinned (OpenSpec.ofChange codecApartSpec)

/-- ITS FALSE NEIGHBOUR: 'it returns false'. Refute it at one input. -/
def codecApartWrong : ChangeSpec := { name := "codecApart", fn := fun _ => fun
  | [d1, d2, d3, d4, d5, d6] => { results := [.lit (.bool false)], args := [d1, d2, d3, d4, d5, d6] }
  | _ => none }
def CodecApartWrongFalsely : Prop := codecApartRow.holds Try.pinned (OpenSpec.ofChange codecApartWrong)

/-- 'almonerlaw02.CodecErrors': WHATEVER THE INPUT: true; the input reads as it did. -/
def codecErrorsSpec : ChangeSpec := { name := "codecErrors", fn := fun _ => fun
  | [d1, d2] => { results := [.lit (.bool true)], args := [d1, d2] }
  | _ => none }
def codecErrorsRow : OpenClaim := { program := "ytnepjfnkaigakaa", sum := "8efbde82816598fe35f7efd5ef49f97b50885a1fc016647ea9930759fe7f630f", func := "almoner/almonerlaw02.CodecErrors", spec := "codecErrors", apart := false }
def CodecErrorsSaid : Prop := codecErrorsRow.holds Try.pinned (OpenSpec.ofChange codecErrorsSpec)

/-- ITS FALSE NEIGHBOUR: 'it returns false'. Refute it at one input. -/
def codecErrorsWrong : ChangeSpec := { name := "codecErrors", fn := fun _ => fun
  | [d1, d2] => { results := [.lit (.bool false)], args := [d1, d2] }
  | _ => none }
def CodecErrorsWrongFalsely : Prop := codecErrorsRow.holds Try.pinned (OpenSpec.ofChange codecErrorsWrong)

/-- 'almonerlaw02.CodecReads': WHATEVER THE INPUT: true; the input reads as it did. -/
def codecReadsSpec : ChangeSpec := { name := "codecReads", fn := fun _ => fun
  | [d1, d2, d3] => { results := [.lit (.bool true)], args := [d1, d2, d3] }
  | _ => none }
def codecReadsRow : OpenClaim := { program := "ytnepjfnkaigakaa", sum := "8efbde82816598fe35f7efd5ef49f97b50885a1fc016647ea9930759fe7f630f", func := "almoner/almonerlaw02.CodecReads", spec := "codecReads", apart := false }
def CodecReadsSaid : Prop := codecReadsRow.holds Try.pinned (OpenSpec.ofChange codecReadsSpec)

/-- ITS FALSE NEIGHBOUR: 'it returns false'. Refute it at one input. -/
def codecReadsWrong : ChangeSpec := { name := "codecReads", fn := fun _ => fun
  | [d1, d2, d3] => { results := [.lit (.bool false)], args := [d1, d2, d3] }
  | _ => none }
def CodecReadsWrongFalsely : Prop := codecReadsRow.holds Try.pinned (OpenSpec.ofChange codecReadsWrong)

/-- 'almonerlaw02.CodecFrames': WHATEVER THE INPUT: true; the input reads as it did. -/
def codecFramesSpec : ChangeSpec := { name := "codecFrames", fn := fun _ => fun
  | [d] => { results := [.lit (.bool true)], args := [d] }
  | _ => none }
def codecFramesRow : OpenClaim := { program := "ytnepjfnkaigakaa", sum := "8efbde82816598fe35f7efd5ef49f97b50885a1fc016647ea9930759fe7f630f", func := "almoner/almonerlaw02.CodecFrames", spec := "codecFrames", unfollowed := true, recurses := true, apart := false }
def CodecFramesSaid : Prop := codecFramesRow.holds Try.pinned (OpenSpec.ofChange codecFramesSpec)

/-- ITS FALSE NEIGHBOUR: 'it returns false'. Refute it at one input. -/
def codecFramesWrong : ChangeSpec := { name := "codecFrames", fn := fun _ => fun
  | [d] => { results := [.lit (.bool false)], args := [d] }
  | _ => none }
def CodecFramesWrongFalsely : Prop := codecFramesRow.holds Try.pinned (OpenSpec.ofChange codecFramesWrong)

/-- 'almonerlaw02.CodecBack': WHATEVER THE INPUT: true; the input reads as it did. -/
def codecBackSpec : ChangeSpec := { name := "codecBack", fn := fun _ => fun
  | [d1, d2, d3, d4, d5] => { results := [.lit (.bool true)], args := [d1, d2, d3, d4, d5] }
  | _ => none }
def codecBackRow : OpenClaim := { program := "ytnepjfnkaigakaa", sum := "8efbde82816598fe35f7efd5ef49f97b50885a1fc016647ea9930759fe7f630f", func := "almoner/almonerlaw02.CodecBack", spec := "codecBack", apart := false }
def CodecBackSaid : Prop := codecBackRow.holds Try.pinned (OpenSpec.ofChange codecBackSpec)

/-- ITS FALSE NEIGHBOUR: 'it returns false'. Refute it at one input. -/
def codecBackWrong : ChangeSpec := { name := "codecBack", fn := fun _ => fun
  | [d1, d2, d3, d4, d5] => { results := [.lit (.bool false)], args := [d1, d2, d3, d4, d5] }
  | _ => none }
def CodecBackWrongFalsely : Prop := codecBackRow.holds Try.pinned (OpenSpec.ofChange codecBackWrong)

/-- 'almonerlaw02.CodecMessages': WHATEVER THE INPUT: true; the input reads as it did. -/
def codecMessagesSpec : ChangeSpec := { name := "codecMessages", fn := fun _ => fun
  | [d1, d2, d3, d4] => { results := [.lit (.bool true)], args := [d1, d2, d3, d4] }
  | _ => none }
def codecMessagesRow : OpenClaim := { program := "ytnepjfnkaigakaa", sum := "8efbde82816598fe35f7efd5ef49f97b50885a1fc016647ea9930759fe7f630f", func := "almoner/almonerlaw02.CodecMessages", spec := "codecMessages", unfollowed := true, recurses := true, apart := false }
def CodecMessagesSaid : Prop := codecMessagesRow.holds Try.pinned (OpenSpec.ofChange codecMessagesSpec)

/-- ITS FALSE NEIGHBOUR: 'it returns false'. Refute it at one input. -/
def codecMessagesWrong : ChangeSpec := { name := "codecMessages", fn := fun _ => fun
  | [d1, d2, d3, d4] => { results := [.lit (.bool false)], args := [d1, d2, d3, d4] }
  | _ => none }
def CodecMessagesWrongFalsely : Prop := codecMessagesRow.holds Try.pinned (OpenSpec.ofChange codecMessagesWrong)

/- THE SECOND FORM. 'bulk': how many values and letters a reading holds, each counted each time it is reached (what is shared counts as often as it is met; a slice's spare places count too). A statement '..UptoSaid' is the law's where the arguments, and the package variables that the reading takes, are together of bulk at most 1048576: NARROWER than '..Said'. Prove '..Said' where nothing that the law and all that it calls make is longer than what came in: it says more and counts as full. Else prove '..UptoSaid'. A law counts once. -/
mutual
def uptoBulk {H : Type} : DataW H → Nat
  | .lit (.string bytes) => bytes.length + 1
  | .lit _ => 1
  | .nil => 1
  | .ptr d => uptoBulk d + 1
  | .slice elems spare => uptoBulkAll elems + uptoBulkAll spare + 1
  | .agg parts => uptoBulkAll parts + 1
  | .iface _ d => uptoBulk d + 1
  | .map entries => uptoBulkEntries entries + 1
  | .held _ => 1
def uptoBulkAll {H : Type} : List (DataW H) → Nat
  | [] => 0
  | d :: r => uptoBulk d + uptoBulkAll r
def uptoBulkEntries {H : Type} : List (Lit × DataW H) → Nat
  | [] => 0
  | x :: r => uptoBulkEntry x + uptoBulkEntries r
def uptoBulkEntry {H : Type} : Lit × DataW H → Nat
  | (.string bytes, d) => bytes.length + uptoBulk d + 1
  | (_, d) => uptoBulk d + 1
 end
def uptoSmall : (H : Type) → List (DataW H) → Bool := fun _ ds => decide (uptoBulkAll ds ≤ 1048576)
def OpenSpec.upto (s : _root_.Go.ChangeSpec) : _root_.Go.OpenSpec := { _root_.Go.OpenSpec.ofChange s with cond := some uptoSmall }

/-- 'almonerlaw02.CodecNumbers', WHERE WHAT IT READS IS OF BULK AT MOST 1048576: true; the input reads as it did. -/
def codecNumbersUptoRow : OpenClaim := { program := "ytnepjfnkaigakaa", sum := "8efbde82816598fe35f7efd5ef49f97b50885a1fc016647ea9930759fe7f630f", func := "almoner/almonerlaw02.CodecNumbers", spec := "codecNumbers", apart := false, narrowed := true }
def CodecNumbersUptoSaid : Prop := codecNumbersUptoRow.holds Try.pinned (OpenSpec.upto codecNumbersSpec)

/-- 'almonerlaw02.CodecStreams', WHERE WHAT IT READS IS OF BULK AT MOST 1048576: true; the input reads as it did. -/
def codecStreamsUptoRow : OpenClaim := { program := "ytnepjfnkaigakaa", sum := "8efbde82816598fe35f7efd5ef49f97b50885a1fc016647ea9930759fe7f630f", func := "almoner/almonerlaw02.CodecStreams", spec := "codecStreams", unfollowed := true, recurses := true, apart := false, narrowed := true }
def CodecStreamsUptoSaid : Prop := codecStreamsUptoRow.holds Try.pinned (OpenSpec.upto codecStreamsSpec)

/-- 'almonerlaw02.CodecWrites', WHERE WHAT IT READS IS OF BULK AT MOST 1048576: true; the input reads as it did. -/
def codecWritesUptoRow : OpenClaim := { program := "ytnepjfnkaigakaa", sum := "8efbde82816598fe35f7efd5ef49f97b50885a1fc016647ea9930759fe7f630f", func := "almoner/almonerlaw02.CodecWrites", spec := "codecWrites", apart := false, narrowed := true }
def CodecWritesUptoSaid : Prop := codecWritesUptoRow.holds Try.pinned (OpenSpec.upto codecWritesSpec)

/-- 'almonerlaw02.CodecApart', WHERE WHAT IT READS IS OF BULK AT MOST 1048576: true; the input reads as it did. -/
def codecApartUptoRow : OpenClaim := { program := "ytnepjfnkaigakaa", sum := "8efbde82816598fe35f7efd5ef49f97b50885a1fc016647ea9930759fe7f630f", func := "almoner/almonerlaw02.CodecApart", spec := "codecApart", apart := false, narrowed := true }
def CodecApartUptoSaid : Prop := codecApartUptoRow.holds Try.pinned (OpenSpec.upto codecApartSpec)

/-- 'almonerlaw02.CodecErrors', WHERE WHAT IT READS IS OF BULK AT MOST 1048576: true; the input reads as it did. -/
def codecErrorsUptoRow : OpenClaim := { program := "ytnepjfnkaigakaa", sum := "8efbde82816598fe35f7efd5ef49f97b50885a1fc016647ea9930759fe7f630f", func := "almoner/almonerlaw02.CodecErrors", spec := "codecErrors", apart := false, narrowed := true }
def CodecErrorsUptoSaid : Prop := codecErrorsUptoRow.holds Try.pinned (OpenSpec.upto codecErrorsSpec)

/-- 'almonerlaw02.CodecReads', WHERE WHAT IT READS IS OF BULK AT MOST 1048576: true; the input reads as it did. -/
def codecReadsUptoRow : OpenClaim := { program := "ytnepjfnkaigakaa", sum := "8efbde82816598fe35f7efd5ef49f97b50885a1fc016647ea9930759fe7f630f", func := "almoner/almonerlaw02.CodecReads", spec := "codecReads", apart := false, narrowed := true }
def CodecReadsUptoSaid : Prop := codecReadsUptoRow.holds Try.pinned (OpenSpec.upto codecReadsSpec)

/-- 'almonerlaw02.CodecFrames', WHERE WHAT IT READS IS OF BULK AT MOST 1048576: true; the input reads as it did. -/
def codecFramesUptoRow : OpenClaim := { program := "ytnepjfnkaigakaa", sum := "8efbde82816598fe35f7efd5ef49f97b50885a1fc016647ea9930759fe7f630f", func := "almoner/almonerlaw02.CodecFrames", spec := "codecFrames", unfollowed := true, recurses := true, apart := false, narrowed := true }
def CodecFramesUptoSaid : Prop := codecFramesUptoRow.holds Try.pinned (OpenSpec.upto codecFramesSpec)

/-- 'almonerlaw02.CodecBack', WHERE WHAT IT READS IS OF BULK AT MOST 1048576: true; the input reads as it did. -/
def codecBackUptoRow : OpenClaim := { program := "ytnepjfnkaigakaa", sum := "8efbde82816598fe35f7efd5ef49f97b50885a1fc016647ea9930759fe7f630f", func := "almoner/almonerlaw02.CodecBack", spec := "codecBack", apart := false, narrowed := true }
def CodecBackUptoSaid : Prop := codecBackUptoRow.holds Try.pinned (OpenSpec.upto codecBackSpec)

/-- 'almonerlaw02.CodecMessages', WHERE WHAT IT READS IS OF BULK AT MOST 1048576: true; the input reads as it did. -/
def codecMessagesUptoRow : OpenClaim := { program := "ytnepjfnkaigakaa", sum := "8efbde82816598fe35f7efd5ef49f97b50885a1fc016647ea9930759fe7f630f", func := "almoner/almonerlaw02.CodecMessages", spec := "codecMessages", unfollowed := true, recurses := true, apart := false, narrowed := true }
def CodecMessagesUptoSaid : Prop := codecMessagesUptoRow.holds Try.pinned (OpenSpec.upto codecMessagesSpec)

end Rows
end Go.Proofs.Ytnepjfnkaigakaa
