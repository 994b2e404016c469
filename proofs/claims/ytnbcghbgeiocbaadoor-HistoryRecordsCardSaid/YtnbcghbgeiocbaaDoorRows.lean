/-
  NARROWER THAN 'FOR EVERY INPUT', by the rows' own cells (each row's printed sentence says how): HistoryOrders: laid · HistorySerial: laid · HistoryMore: laid · HistorySound: laid · HistoryTurns: laid · HistoryRecords: laid.
  DERIVED. THE GIVEN ROWS OF THIS SEAT. 6 by the template 'for every input the law returns true; each argument reads behind the call as it read before'; 0 by the template 'total and deterministic' (their statements: YtnbcghbgeiocbaaDoorTotals.lean).
  GIVEN WITH THE SEED: the statements are not yours to turn. If you find one false, say at which input.
  Laid BY PROGRAM, IN A SANDBOX (cutbox-rows.mjs): the forced cells as the released guide's own fill.sh prints them over the translation a4a8b85c9741e344… (all of the seat's roots in one cut). By AI agents, Wed Nov 11 2026. No macro, syntax, notation, axiom, sorry.
-/
import Derived.Test.YtnbcghbgeiocbaaDoorChecked
import GoSem.PinnedTables
import GoSem.Claim
import GoSem.ClaimJoined
import GoSem.ClaimMapViews
import Derived.JoinedTies
import Derived.KernelRfl
namespace Go.Proofs.YtnbcghbgeiocbaaDoor
/- THE CELL 'sum', in the pinned program and in every row, IS THE sha256 OF THE DUMP (.gsa) THAT YtnbcghbgeiocbaaDoorProg.lean LOADS. Nothing in Lean hashes anything: it is a label: what it is worth is what the hold of that sum in a sandbox is worth. -/
noncomputable def Tryd.pinned : Pinned := { name := "ytnbcghbgeiocbaadoor", sum := "a4a8b85c9741e34461785ac78c92f0422763b4eab535d998888e6e72907ba422", checked := Tryd.checked }
namespace Rows
def none {H : Type} : Left H := { results := [], args := [] }

/- WHAT THE LISTED PACKAGE-LEVEL VARIABLES READ AS WHEN THE CALL BEGINS. Each datum BY PROGRAM (the guide's laid-datum.mjs) off the statement by which the dump's own 'gosem.cut.vars' lays the variable. In a bare row this is a premise. The card (YtnbcghbgeiocbaaDoorCards.lean) ties it to the program's text. -/
def laid_unicode_utf8_acceptRanges {H : Type} : DataW H := .agg [.agg [.lit (.int .u8 128), .lit (.int .u8 191)], .agg [.lit (.int .u8 160), .lit (.int .u8 191)], .agg [.lit (.int .u8 128), .lit (.int .u8 159)], .agg [.lit (.int .u8 144), .lit (.int .u8 191)], .agg [.lit (.int .u8 128), .lit (.int .u8 143)], .agg [.lit (.int .u8 0), .lit (.int .u8 0)], .agg [.lit (.int .u8 0), .lit (.int .u8 0)], .agg [.lit (.int .u8 0), .lit (.int .u8 0)], .agg [.lit (.int .u8 0), .lit (.int .u8 0)], .agg [.lit (.int .u8 0), .lit (.int .u8 0)], .agg [.lit (.int .u8 0), .lit (.int .u8 0)], .agg [.lit (.int .u8 0), .lit (.int .u8 0)], .agg [.lit (.int .u8 0), .lit (.int .u8 0)], .agg [.lit (.int .u8 0), .lit (.int .u8 0)], .agg [.lit (.int .u8 0), .lit (.int .u8 0)], .agg [.lit (.int .u8 0), .lit (.int .u8 0)]]
/-- One of Go's own tables, pinned by name: the form's constant. -/
def laid_unicode_utf8_first : DataW Unit := Go.Pinned.utf8First

/-- 'almonerlaw21.HistoryOrders': WHATEVER THE INPUT: true; the input reads as it did. -/
def historyOrdersSpec : ChangeSpec := { name := "historyOrders", fn := fun _ => fun
  | [d1, d2, d3] => { results := [.lit (.bool true)], args := [d1, d2, d3] }
  | _ => none }
def historyOrdersRow : OpenClaim := { program := "ytnbcghbgeiocbaadoor", sum := "a4a8b85c9741e34461785ac78c92f0422763b4eab535d998888e6e72907ba422", func := "almoner/almonerlaw21.HistoryOrders", spec := "historyOrders", inPlace := ["maps.clone", "internal/bytealg.IndexByteString", "internal/bytealg.IndexString"], unfollowed := true, recurses := true, named := ["unicode/utf8.first", "unicode/utf8.acceptRanges", "internal/bytealg.MaxLen"], plainKeys := false, apart := false, laid := [("unicode/utf8.acceptRanges", laid_unicode_utf8_acceptRanges), ("unicode/utf8.first", laid_unicode_utf8_first)] }
def HistoryOrdersSaid : Prop := historyOrdersRow.holds Tryd.pinned (OpenSpec.ofChange historyOrdersSpec)

/-- ITS FALSE NEIGHBOUR: 'it returns false'. Refute it at one input. -/
def historyOrdersWrong : ChangeSpec := { name := "historyOrders", fn := fun _ => fun
  | [d1, d2, d3] => { results := [.lit (.bool false)], args := [d1, d2, d3] }
  | _ => none }
def HistoryOrdersWrongFalsely : Prop := historyOrdersRow.holds Tryd.pinned (OpenSpec.ofChange historyOrdersWrong)

/-- 'almonerlaw21.HistorySerial': WHATEVER THE INPUT: true; the input reads as it did. -/
def historySerialSpec : ChangeSpec := { name := "historySerial", fn := fun _ => fun
  | [d1, d2, d3] => { results := [.lit (.bool true)], args := [d1, d2, d3] }
  | _ => none }
def historySerialRow : OpenClaim := { program := "ytnbcghbgeiocbaadoor", sum := "a4a8b85c9741e34461785ac78c92f0422763b4eab535d998888e6e72907ba422", func := "almoner/almonerlaw21.HistorySerial", spec := "historySerial", inPlace := ["maps.clone", "internal/bytealg.IndexByteString", "internal/bytealg.IndexString"], unfollowed := true, recurses := true, named := ["unicode/utf8.first", "unicode/utf8.acceptRanges", "internal/bytealg.MaxLen"], plainKeys := false, apart := false, laid := [("unicode/utf8.acceptRanges", laid_unicode_utf8_acceptRanges), ("unicode/utf8.first", laid_unicode_utf8_first)] }
def HistorySerialSaid : Prop := historySerialRow.holds Tryd.pinned (OpenSpec.ofChange historySerialSpec)

/-- ITS FALSE NEIGHBOUR: 'it returns false'. Refute it at one input. -/
def historySerialWrong : ChangeSpec := { name := "historySerial", fn := fun _ => fun
  | [d1, d2, d3] => { results := [.lit (.bool false)], args := [d1, d2, d3] }
  | _ => none }
def HistorySerialWrongFalsely : Prop := historySerialRow.holds Tryd.pinned (OpenSpec.ofChange historySerialWrong)

/-- 'almonerlaw21.HistoryMore': WHATEVER THE INPUT: true; the input reads as it did. -/
def historyMoreSpec : ChangeSpec := { name := "historyMore", fn := fun _ => fun
  | [d1, d2, d3, d4, d5] => { results := [.lit (.bool true)], args := [d1, d2, d3, d4, d5] }
  | _ => none }
def historyMoreRow : OpenClaim := { program := "ytnbcghbgeiocbaadoor", sum := "a4a8b85c9741e34461785ac78c92f0422763b4eab535d998888e6e72907ba422", func := "almoner/almonerlaw21.HistoryMore", spec := "historyMore", inPlace := ["maps.clone", "internal/bytealg.IndexByteString", "internal/bytealg.IndexString"], unfollowed := true, recurses := true, named := ["unicode/utf8.first", "unicode/utf8.acceptRanges", "internal/bytealg.MaxLen"], plainKeys := false, apart := false, laid := [("unicode/utf8.acceptRanges", laid_unicode_utf8_acceptRanges), ("unicode/utf8.first", laid_unicode_utf8_first)] }
def HistoryMoreSaid : Prop := historyMoreRow.holds Tryd.pinned (OpenSpec.ofChange historyMoreSpec)

/-- ITS FALSE NEIGHBOUR: 'it returns false'. Refute it at one input. -/
def historyMoreWrong : ChangeSpec := { name := "historyMore", fn := fun _ => fun
  | [d1, d2, d3, d4, d5] => { results := [.lit (.bool false)], args := [d1, d2, d3, d4, d5] }
  | _ => none }
def HistoryMoreWrongFalsely : Prop := historyMoreRow.holds Tryd.pinned (OpenSpec.ofChange historyMoreWrong)

/-- 'almonerlaw21.HistorySound': WHATEVER THE INPUT: true; the input reads as it did. -/
def historySoundSpec : ChangeSpec := { name := "historySound", fn := fun _ => fun
  | [d] => { results := [.lit (.bool true)], args := [d] }
  | _ => none }
def historySoundRow : OpenClaim := { program := "ytnbcghbgeiocbaadoor", sum := "a4a8b85c9741e34461785ac78c92f0422763b4eab535d998888e6e72907ba422", func := "almoner/almonerlaw21.HistorySound", spec := "historySound", inPlace := ["maps.clone", "internal/bytealg.IndexByteString", "internal/bytealg.IndexString"], unfollowed := true, recurses := true, named := ["unicode/utf8.first", "unicode/utf8.acceptRanges", "internal/bytealg.MaxLen"], plainKeys := false, apart := false, laid := [("unicode/utf8.acceptRanges", laid_unicode_utf8_acceptRanges), ("unicode/utf8.first", laid_unicode_utf8_first)] }
def HistorySoundSaid : Prop := historySoundRow.holds Tryd.pinned (OpenSpec.ofChange historySoundSpec)

/-- ITS FALSE NEIGHBOUR: 'it returns false'. Refute it at one input. -/
def historySoundWrong : ChangeSpec := { name := "historySound", fn := fun _ => fun
  | [d] => { results := [.lit (.bool false)], args := [d] }
  | _ => none }
def HistorySoundWrongFalsely : Prop := historySoundRow.holds Tryd.pinned (OpenSpec.ofChange historySoundWrong)

/-- 'almonerlaw21.HistoryTurns': WHATEVER THE INPUT: true; the input reads as it did. -/
def historyTurnsSpec : ChangeSpec := { name := "historyTurns", fn := fun _ => fun
  | [d1, d2, d3] => { results := [.lit (.bool true)], args := [d1, d2, d3] }
  | _ => none }
def historyTurnsRow : OpenClaim := { program := "ytnbcghbgeiocbaadoor", sum := "a4a8b85c9741e34461785ac78c92f0422763b4eab535d998888e6e72907ba422", func := "almoner/almonerlaw21.HistoryTurns", spec := "historyTurns", inPlace := ["maps.clone", "internal/bytealg.IndexByteString", "internal/bytealg.IndexString"], unfollowed := true, recurses := true, named := ["unicode/utf8.first", "unicode/utf8.acceptRanges", "internal/bytealg.MaxLen"], plainKeys := false, apart := false, laid := [("unicode/utf8.acceptRanges", laid_unicode_utf8_acceptRanges), ("unicode/utf8.first", laid_unicode_utf8_first)] }
def HistoryTurnsSaid : Prop := historyTurnsRow.holds Tryd.pinned (OpenSpec.ofChange historyTurnsSpec)

/-- ITS FALSE NEIGHBOUR: 'it returns false'. Refute it at one input. -/
def historyTurnsWrong : ChangeSpec := { name := "historyTurns", fn := fun _ => fun
  | [d1, d2, d3] => { results := [.lit (.bool false)], args := [d1, d2, d3] }
  | _ => none }
def HistoryTurnsWrongFalsely : Prop := historyTurnsRow.holds Tryd.pinned (OpenSpec.ofChange historyTurnsWrong)

/-- 'almonerlaw21.HistoryRecords': WHATEVER THE INPUT: true; the input reads as it did. -/
def historyRecordsSpec : ChangeSpec := { name := "historyRecords", fn := fun _ => fun
  | [d] => { results := [.lit (.bool true)], args := [d] }
  | _ => none }
def historyRecordsRow : OpenClaim := { program := "ytnbcghbgeiocbaadoor", sum := "a4a8b85c9741e34461785ac78c92f0422763b4eab535d998888e6e72907ba422", func := "almoner/almonerlaw21.HistoryRecords", spec := "historyRecords", inPlace := ["maps.clone", "internal/bytealg.IndexByteString", "internal/bytealg.IndexString"], unfollowed := true, recurses := true, named := ["unicode/utf8.first", "unicode/utf8.acceptRanges", "internal/bytealg.MaxLen"], plainKeys := false, apart := false, laid := [("unicode/utf8.acceptRanges", laid_unicode_utf8_acceptRanges), ("unicode/utf8.first", laid_unicode_utf8_first)] }
def HistoryRecordsSaid : Prop := historyRecordsRow.holds Tryd.pinned (OpenSpec.ofChange historyRecordsSpec)

/-- ITS FALSE NEIGHBOUR: 'it returns false'. Refute it at one input. -/
def historyRecordsWrong : ChangeSpec := { name := "historyRecords", fn := fun _ => fun
  | [d] => { results := [.lit (.bool false)], args := [d] }
  | _ => none }
def HistoryRecordsWrongFalsely : Prop := historyRecordsRow.holds Tryd.pinned (OpenSpec.ofChange historyRecordsWrong)

/- THE SECOND FORM. 'bulk': how many values and letters a reading holds, each counted each time it is reached (what is shared counts as often as it is met; a slice's spare places count too). A statement '..UptoSaid' is the law's where the arguments, and the package variables that the reading takes, are together of bulk at most 1048576: NARROWER than '..Said'. Prove '..Said' where nothing that the law and all that it calls make is longer than what came in: it says more and counts as full. Else prove '..UptoSaid'. A law counts once. -/
mutual
def uptoBulk {H : Type} : DataW H → Nat
  | .lit (.string bytes) => bytes.length + 1
  | .lit _ => 1
  | .nil => 1
  | .ptr d => uptoBulk d + 1
  | .slice elems spare => uptoBulkAll elems + uptoBulkAll spare + 1
  | .agg parts => uptoBulkAll parts + 1
  | .iface _ d => uptoBulk d + 1
  | .map entries => uptoBulkEntries entries + 1
  | .held _ => 1
def uptoBulkAll {H : Type} : List (DataW H) → Nat
  | [] => 0
  | d :: r => uptoBulk d + uptoBulkAll r
def uptoBulkEntries {H : Type} : List (Lit × DataW H) → Nat
  | [] => 0
  | x :: r => uptoBulkEntry x + uptoBulkEntries r
def uptoBulkEntry {H : Type} : Lit × DataW H → Nat
  | (.string bytes, d) => bytes.length + uptoBulk d + 1
  | (_, d) => uptoBulk d + 1
 end
def uptoSmall : (H : Type) → List (DataW H) → Bool := fun _ ds => decide (uptoBulkAll ds ≤ 1048576)
def OpenSpec.upto (s : _root_.Go.ChangeSpec) : _root_.Go.OpenSpec := { _root_.Go.OpenSpec.ofChange s with cond := some uptoSmall }

/-- 'almonerlaw21.HistoryOrders', WHERE WHAT IT READS IS OF BULK AT MOST 1048576: true; the input reads as it did. -/
def historyOrdersUptoRow : OpenClaim := { program := "ytnbcghbgeiocbaadoor", sum := "a4a8b85c9741e34461785ac78c92f0422763b4eab535d998888e6e72907ba422", func := "almoner/almonerlaw21.HistoryOrders", spec := "historyOrders", inPlace := ["maps.clone", "internal/bytealg.IndexByteString", "internal/bytealg.IndexString"], unfollowed := true, recurses := true, named := ["unicode/utf8.first", "unicode/utf8.acceptRanges", "internal/bytealg.MaxLen"], plainKeys := false, apart := false, laid := [("unicode/utf8.acceptRanges", laid_unicode_utf8_acceptRanges), ("unicode/utf8.first", laid_unicode_utf8_first)], narrowed := true }
def HistoryOrdersUptoSaid : Prop := historyOrdersUptoRow.holds Tryd.pinned (OpenSpec.upto historyOrdersSpec)

/-- 'almonerlaw21.HistorySerial', WHERE WHAT IT READS IS OF BULK AT MOST 1048576: true; the input reads as it did. -/
def historySerialUptoRow : OpenClaim := { program := "ytnbcghbgeiocbaadoor", sum := "a4a8b85c9741e34461785ac78c92f0422763b4eab535d998888e6e72907ba422", func := "almoner/almonerlaw21.HistorySerial", spec := "historySerial", inPlace := ["maps.clone", "internal/bytealg.IndexByteString", "internal/bytealg.IndexString"], unfollowed := true, recurses := true, named := ["unicode/utf8.first", "unicode/utf8.acceptRanges", "internal/bytealg.MaxLen"], plainKeys := false, apart := false, laid := [("unicode/utf8.acceptRanges", laid_unicode_utf8_acceptRanges), ("unicode/utf8.first", laid_unicode_utf8_first)], narrowed := true }
def HistorySerialUptoSaid : Prop := historySerialUptoRow.holds Tryd.pinned (OpenSpec.upto historySerialSpec)

/-- 'almonerlaw21.HistoryMore', WHERE WHAT IT READS IS OF BULK AT MOST 1048576: true; the input reads as it did. -/
def historyMoreUptoRow : OpenClaim := { program := "ytnbcghbgeiocbaadoor", sum := "a4a8b85c9741e34461785ac78c92f0422763b4eab535d998888e6e72907ba422", func := "almoner/almonerlaw21.HistoryMore", spec := "historyMore", inPlace := ["maps.clone", "internal/bytealg.IndexByteString", "internal/bytealg.IndexString"], unfollowed := true, recurses := true, named := ["unicode/utf8.first", "unicode/utf8.acceptRanges", "internal/bytealg.MaxLen"], plainKeys := false, apart := false, laid := [("unicode/utf8.acceptRanges", laid_unicode_utf8_acceptRanges), ("unicode/utf8.first", laid_unicode_utf8_first)], narrowed := true }
def HistoryMoreUptoSaid : Prop := historyMoreUptoRow.holds Tryd.pinned (OpenSpec.upto historyMoreSpec)

/-- 'almonerlaw21.HistorySound', WHERE WHAT IT READS IS OF BULK AT MOST 1048576: true; the input reads as it did. -/
def historySoundUptoRow : OpenClaim := { program := "ytnbcghbgeiocbaadoor", sum := "a4a8b85c9741e34461785ac78c92f0422763b4eab535d998888e6e72907ba422", func := "almoner/almonerlaw21.HistorySound", spec := "historySound", inPlace := ["maps.clone", "internal/bytealg.IndexByteString", "internal/bytealg.IndexString"], unfollowed := true, recurses := true, named := ["unicode/utf8.first", "unicode/utf8.acceptRanges", "internal/bytealg.MaxLen"], plainKeys := false, apart := false, laid := [("unicode/utf8.acceptRanges", laid_unicode_utf8_acceptRanges), ("unicode/utf8.first", laid_unicode_utf8_first)], narrowed := true }
def HistorySoundUptoSaid : Prop := historySoundUptoRow.holds Tryd.pinned (OpenSpec.upto historySoundSpec)

/-- 'almonerlaw21.HistoryTurns', WHERE WHAT IT READS IS OF BULK AT MOST 1048576: true; the input reads as it did. -/
def historyTurnsUptoRow : OpenClaim := { program := "ytnbcghbgeiocbaadoor", sum := "a4a8b85c9741e34461785ac78c92f0422763b4eab535d998888e6e72907ba422", func := "almoner/almonerlaw21.HistoryTurns", spec := "historyTurns", inPlace := ["maps.clone", "internal/bytealg.IndexByteString", "internal/bytealg.IndexString"], unfollowed := true, recurses := true, named := ["unicode/utf8.first", "unicode/utf8.acceptRanges", "internal/bytealg.MaxLen"], plainKeys := false, apart := false, laid := [("unicode/utf8.acceptRanges", laid_unicode_utf8_acceptRanges), ("unicode/utf8.first", laid_unicode_utf8_first)], narrowed := true }
def HistoryTurnsUptoSaid : Prop := historyTurnsUptoRow.holds Tryd.pinned (OpenSpec.upto historyTurnsSpec)

/-- 'almonerlaw21.HistoryRecords', WHERE WHAT IT READS IS OF BULK AT MOST 1048576: true; the input reads as it did. -/
def historyRecordsUptoRow : OpenClaim := { program := "ytnbcghbgeiocbaadoor", sum := "a4a8b85c9741e34461785ac78c92f0422763b4eab535d998888e6e72907ba422", func := "almoner/almonerlaw21.HistoryRecords", spec := "historyRecords", inPlace := ["maps.clone", "internal/bytealg.IndexByteString", "internal/bytealg.IndexString"], unfollowed := true, recurses := true, named := ["unicode/utf8.first", "unicode/utf8.acceptRanges", "internal/bytealg.MaxLen"], plainKeys := false, apart := false, laid := [("unicode/utf8.acceptRanges", laid_unicode_utf8_acceptRanges), ("unicode/utf8.first", laid_unicode_utf8_first)], narrowed := true }
def HistoryRecordsUptoSaid : Prop := historyRecordsUptoRow.holds Tryd.pinned (OpenSpec.upto historyRecordsSpec)

end Rows
end Go.Proofs.YtnbcghbgeiocbaaDoor
