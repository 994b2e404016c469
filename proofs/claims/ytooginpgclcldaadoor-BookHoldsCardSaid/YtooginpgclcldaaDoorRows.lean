/-
  NARROWER THAN 'FOR EVERY INPUT', by the rows' own cells (each row's printed sentence says how): BookGives: laid · BookWrong: laid · BookSums: laid · BookSlots: laid · BookHolds: laid · BookNil: laid.
  DERIVED. THE GIVEN ROWS OF THIS SEAT. 6 by the template 'for every input the law returns true; each argument reads behind the call as it read before'; 0 by the template 'total and deterministic' (their statements: YtooginpgclcldaaDoorTotals.lean).
  GIVEN WITH THE SEED: the statements are not yours to turn. If you find one false, say at which input.
  Laid BY PROGRAM, IN A SANDBOX (cutbox-rows.mjs): the forced cells as the released guide's own fill.sh prints them over the translation b375cbfb19db537c… (all of the seat's roots in one cut). By AI agents, Wed Nov 11 2026. No macro, syntax, notation, axiom, sorry.
-/
import Derived.Test.YtooginpgclcldaaDoorChecked
import GoSem.PinnedTables
import GoSem.Claim
import GoSem.ClaimJoined
import GoSem.ClaimMapViews
import Derived.JoinedTies
import Derived.KernelRfl
namespace Go.Proofs.YtooginpgclcldaaDoor
/- THE CELL 'sum', in the pinned program and in every row, IS THE sha256 OF THE DUMP (.gsa) THAT YtooginpgclcldaaDoorProg.lean LOADS. Nothing in Lean hashes anything: it is a label: what it is worth is what the hold of that sum in a sandbox is worth. -/
noncomputable def Tryd.pinned : Pinned := { name := "ytooginpgclcldaadoor", sum := "b375cbfb19db537c86d582e5be9f8454aeda0cd1af6871e2c7d178fdfbcab7d5", checked := Tryd.checked }
namespace Rows
def none {H : Type} : Left H := { results := [], args := [] }

/- WHAT THE LISTED PACKAGE-LEVEL VARIABLES READ AS WHEN THE CALL BEGINS. Each datum BY PROGRAM (the guide's laid-datum.mjs) off the statement by which the dump's own 'gosem.cut.vars' lays the variable. In a bare row this is a premise. The card (YtooginpgclcldaaDoorCards.lean) ties it to the program's text. -/
def laid_unicode_utf8_acceptRanges {H : Type} : DataW H := .agg [.agg [.lit (.int .u8 128), .lit (.int .u8 191)], .agg [.lit (.int .u8 160), .lit (.int .u8 191)], .agg [.lit (.int .u8 128), .lit (.int .u8 159)], .agg [.lit (.int .u8 144), .lit (.int .u8 191)], .agg [.lit (.int .u8 128), .lit (.int .u8 143)], .agg [.lit (.int .u8 0), .lit (.int .u8 0)], .agg [.lit (.int .u8 0), .lit (.int .u8 0)], .agg [.lit (.int .u8 0), .lit (.int .u8 0)], .agg [.lit (.int .u8 0), .lit (.int .u8 0)], .agg [.lit (.int .u8 0), .lit (.int .u8 0)], .agg [.lit (.int .u8 0), .lit (.int .u8 0)], .agg [.lit (.int .u8 0), .lit (.int .u8 0)], .agg [.lit (.int .u8 0), .lit (.int .u8 0)], .agg [.lit (.int .u8 0), .lit (.int .u8 0)], .agg [.lit (.int .u8 0), .lit (.int .u8 0)], .agg [.lit (.int .u8 0), .lit (.int .u8 0)]]
/-- One of Go's own tables, pinned by name: the form's constant. -/
def laid_unicode_utf8_first : DataW Unit := Go.Pinned.utf8First

/-- 'almonerlaw11.BookGives': WHATEVER THE INPUT: true; the input reads as it did. -/
def bookGivesSpec : ChangeSpec := { name := "bookGives", fn := fun _ => fun
  | [d1, d2, d3] => { results := [.lit (.bool true)], args := [d1, d2, d3] }
  | _ => none }
def bookGivesRow : OpenClaim := { program := "ytooginpgclcldaadoor", sum := "b375cbfb19db537c86d582e5be9f8454aeda0cd1af6871e2c7d178fdfbcab7d5", func := "almoner/almonerlaw11.BookGives", spec := "bookGives", inPlace := ["internal/bytealg.IndexByteString", "internal/bytealg.IndexString"], unfollowed := true, recurses := true, named := ["unicode/utf8.first", "unicode/utf8.acceptRanges", "internal/bytealg.MaxLen"], apart := false, laid := [("unicode/utf8.acceptRanges", laid_unicode_utf8_acceptRanges), ("unicode/utf8.first", laid_unicode_utf8_first)] }
def BookGivesSaid : Prop := bookGivesRow.holds Tryd.pinned (OpenSpec.ofChange bookGivesSpec)

/-- ITS FALSE NEIGHBOUR: 'it returns false'. Refute it at one input. -/
def bookGivesWrong : ChangeSpec := { name := "bookGives", fn := fun _ => fun
  | [d1, d2, d3] => { results := [.lit (.bool false)], args := [d1, d2, d3] }
  | _ => none }
def BookGivesWrongFalsely : Prop := bookGivesRow.holds Tryd.pinned (OpenSpec.ofChange bookGivesWrong)

/-- 'almonerlaw11.BookWrong': WHATEVER THE INPUT: true; the input reads as it did. -/
def bookWrongSpec : ChangeSpec := { name := "bookWrong", fn := fun _ => fun
  | [d1, d2] => { results := [.lit (.bool true)], args := [d1, d2] }
  | _ => none }
def bookWrongRow : OpenClaim := { program := "ytooginpgclcldaadoor", sum := "b375cbfb19db537c86d582e5be9f8454aeda0cd1af6871e2c7d178fdfbcab7d5", func := "almoner/almonerlaw11.BookWrong", spec := "bookWrong", inPlace := ["internal/bytealg.IndexByteString", "internal/bytealg.IndexString"], unfollowed := true, recurses := true, named := ["unicode/utf8.first", "unicode/utf8.acceptRanges", "internal/bytealg.MaxLen"], apart := false, laid := [("unicode/utf8.acceptRanges", laid_unicode_utf8_acceptRanges), ("unicode/utf8.first", laid_unicode_utf8_first)] }
def BookWrongSaid : Prop := bookWrongRow.holds Tryd.pinned (OpenSpec.ofChange bookWrongSpec)

/-- ITS FALSE NEIGHBOUR: 'it returns false'. Refute it at one input. -/
def bookWrongWrong : ChangeSpec := { name := "bookWrong", fn := fun _ => fun
  | [d1, d2] => { results := [.lit (.bool false)], args := [d1, d2] }
  | _ => none }
def BookWrongWrongFalsely : Prop := bookWrongRow.holds Tryd.pinned (OpenSpec.ofChange bookWrongWrong)

/-- 'almonerlaw11.BookSums': WHATEVER THE INPUT: true; the input reads as it did. -/
def bookSumsSpec : ChangeSpec := { name := "bookSums", fn := fun _ => fun
  | [d] => { results := [.lit (.bool true)], args := [d] }
  | _ => none }
def bookSumsRow : OpenClaim := { program := "ytooginpgclcldaadoor", sum := "b375cbfb19db537c86d582e5be9f8454aeda0cd1af6871e2c7d178fdfbcab7d5", func := "almoner/almonerlaw11.BookSums", spec := "bookSums", inPlace := ["internal/bytealg.IndexByteString", "internal/bytealg.IndexString"], unfollowed := true, recurses := true, named := ["unicode/utf8.first", "unicode/utf8.acceptRanges", "internal/bytealg.MaxLen"], apart := false, laid := [("unicode/utf8.acceptRanges", laid_unicode_utf8_acceptRanges), ("unicode/utf8.first", laid_unicode_utf8_first)] }
def BookSumsSaid : Prop := bookSumsRow.holds Tryd.pinned (OpenSpec.ofChange bookSumsSpec)

/-- ITS FALSE NEIGHBOUR: 'it returns false'. Refute it at one input. -/
def bookSumsWrong : ChangeSpec := { name := "bookSums", fn := fun _ => fun
  | [d] => { results := [.lit (.bool false)], args := [d] }
  | _ => none }
def BookSumsWrongFalsely : Prop := bookSumsRow.holds Tryd.pinned (OpenSpec.ofChange bookSumsWrong)

/-- 'almonerlaw11.BookSlots': WHATEVER THE INPUT: true; the input reads as it did. -/
def bookSlotsSpec : ChangeSpec := { name := "bookSlots", fn := fun _ => fun
  | [d] => { results := [.lit (.bool true)], args := [d] }
  | _ => none }
def bookSlotsRow : OpenClaim := { program := "ytooginpgclcldaadoor", sum := "b375cbfb19db537c86d582e5be9f8454aeda0cd1af6871e2c7d178fdfbcab7d5", func := "almoner/almonerlaw11.BookSlots", spec := "bookSlots", inPlace := ["internal/bytealg.IndexByteString", "internal/bytealg.IndexString"], unfollowed := true, recurses := true, named := ["unicode/utf8.first", "unicode/utf8.acceptRanges", "internal/bytealg.MaxLen"], apart := false, laid := [("unicode/utf8.acceptRanges", laid_unicode_utf8_acceptRanges), ("unicode/utf8.first", laid_unicode_utf8_first)] }
def BookSlotsSaid : Prop := bookSlotsRow.holds Tryd.pinned (OpenSpec.ofChange bookSlotsSpec)

/-- ITS FALSE NEIGHBOUR: 'it returns false'. Refute it at one input. -/
def bookSlotsWrong : ChangeSpec := { name := "bookSlots", fn := fun _ => fun
  | [d] => { results := [.lit (.bool false)], args := [d] }
  | _ => none }
def BookSlotsWrongFalsely : Prop := bookSlotsRow.holds Tryd.pinned (OpenSpec.ofChange bookSlotsWrong)

/-- 'almonerlaw11.BookHolds': WHATEVER THE INPUT: true; the input reads as it did. -/
def bookHoldsSpec : ChangeSpec := { name := "bookHolds", fn := fun _ => fun
  | [d1, d2] => { results := [.lit (.bool true)], args := [d1, d2] }
  | _ => none }
def bookHoldsRow : OpenClaim := { program := "ytooginpgclcldaadoor", sum := "b375cbfb19db537c86d582e5be9f8454aeda0cd1af6871e2c7d178fdfbcab7d5", func := "almoner/almonerlaw11.BookHolds", spec := "bookHolds", inPlace := ["internal/bytealg.IndexByteString", "internal/bytealg.IndexString"], unfollowed := true, recurses := true, named := ["unicode/utf8.first", "unicode/utf8.acceptRanges", "internal/bytealg.MaxLen"], apart := false, laid := [("unicode/utf8.acceptRanges", laid_unicode_utf8_acceptRanges), ("unicode/utf8.first", laid_unicode_utf8_first)] }
def BookHoldsSaid : Prop := bookHoldsRow.holds Tryd.pinned (OpenSpec.ofChange bookHoldsSpec)

/-- ITS FALSE NEIGHBOUR: 'it returns false'. Refute it at one input. -/
def bookHoldsWrong : ChangeSpec := { name := "bookHolds", fn := fun _ => fun
  | [d1, d2] => { results := [.lit (.bool false)], args := [d1, d2] }
  | _ => none }
def BookHoldsWrongFalsely : Prop := bookHoldsRow.holds Tryd.pinned (OpenSpec.ofChange bookHoldsWrong)

/-- 'almonerlaw11.BookNil': WHATEVER THE INPUT: true; the input reads as it did. -/
def bookNilSpec : ChangeSpec := { name := "bookNil", fn := fun _ => fun
  | [d] => { results := [.lit (.bool true)], args := [d] }
  | _ => none }
def bookNilRow : OpenClaim := { program := "ytooginpgclcldaadoor", sum := "b375cbfb19db537c86d582e5be9f8454aeda0cd1af6871e2c7d178fdfbcab7d5", func := "almoner/almonerlaw11.BookNil", spec := "bookNil", inPlace := ["internal/bytealg.IndexByteString", "internal/bytealg.IndexString", "maps.clone"], unfollowed := true, recurses := true, named := ["unicode/utf8.first", "unicode/utf8.acceptRanges", "internal/bytealg.MaxLen"], apart := false, laid := [("unicode/utf8.acceptRanges", laid_unicode_utf8_acceptRanges), ("unicode/utf8.first", laid_unicode_utf8_first)] }
def BookNilSaid : Prop := bookNilRow.holds Tryd.pinned (OpenSpec.ofChange bookNilSpec)

/-- ITS FALSE NEIGHBOUR: 'it returns false'. Refute it at one input. -/
def bookNilWrong : ChangeSpec := { name := "bookNil", fn := fun _ => fun
  | [d] => { results := [.lit (.bool false)], args := [d] }
  | _ => none }
def BookNilWrongFalsely : Prop := bookNilRow.holds Tryd.pinned (OpenSpec.ofChange bookNilWrong)

/- THE SECOND FORM. 'bulk': how many values and letters a reading holds, each counted each time it is reached (what is shared counts as often as it is met; a slice's spare places count too). A statement '..UptoSaid' is the law's where the arguments, and the package variables that the reading takes, are together of bulk at most 1048576: NARROWER than '..Said'. Prove '..Said' where nothing that the law and all that it calls make is longer than what came in: it says more and counts as full. Else prove '..UptoSaid'. A law counts once. -/
mutual
def uptoBulk {H : Type} : DataW H → Nat
  | .lit (.string bytes) => bytes.length + 1
  | .lit _ => 1
  | .nil => 1
  | .ptr d => uptoBulk d + 1
  | .slice elems spare => uptoBulkAll elems + uptoBulkAll spare + 1
  | .agg parts => uptoBulkAll parts + 1
  | .iface _ d => uptoBulk d + 1
  | .map entries => uptoBulkEntries entries + 1
  | .held _ => 1
def uptoBulkAll {H : Type} : List (DataW H) → Nat
  | [] => 0
  | d :: r => uptoBulk d + uptoBulkAll r
def uptoBulkEntries {H : Type} : List (Lit × DataW H) → Nat
  | [] => 0
  | x :: r => uptoBulkEntry x + uptoBulkEntries r
def uptoBulkEntry {H : Type} : Lit × DataW H → Nat
  | (.string bytes, d) => bytes.length + uptoBulk d + 1
  | (_, d) => uptoBulk d + 1
 end
def uptoSmall : (H : Type) → List (DataW H) → Bool := fun _ ds => decide (uptoBulkAll ds ≤ 1048576)
def OpenSpec.upto (s : _root_.Go.ChangeSpec) : _root_.Go.OpenSpec := { _root_.Go.OpenSpec.ofChange s with cond := some uptoSmall }

/-- 'almonerlaw11.BookGives', WHERE WHAT IT READS IS OF BULK AT MOST 1048576: true; the input reads as it did. -/
def bookGivesUptoRow : OpenClaim := { program := "ytooginpgclcldaadoor", sum := "b375cbfb19db537c86d582e5be9f8454aeda0cd1af6871e2c7d178fdfbcab7d5", func := "almoner/almonerlaw11.BookGives", spec := "bookGives", inPlace := ["internal/bytealg.IndexByteString", "internal/bytealg.IndexString"], unfollowed := true, recurses := true, named := ["unicode/utf8.first", "unicode/utf8.acceptRanges", "internal/bytealg.MaxLen"], apart := false, laid := [("unicode/utf8.acceptRanges", laid_unicode_utf8_acceptRanges), ("unicode/utf8.first", laid_unicode_utf8_first)], narrowed := true }
def BookGivesUptoSaid : Prop := bookGivesUptoRow.holds Tryd.pinned (OpenSpec.upto bookGivesSpec)

/-- 'almonerlaw11.BookWrong', WHERE WHAT IT READS IS OF BULK AT MOST 1048576: true; the input reads as it did. -/
def bookWrongUptoRow : OpenClaim := { program := "ytooginpgclcldaadoor", sum := "b375cbfb19db537c86d582e5be9f8454aeda0cd1af6871e2c7d178fdfbcab7d5", func := "almoner/almonerlaw11.BookWrong", spec := "bookWrong", inPlace := ["internal/bytealg.IndexByteString", "internal/bytealg.IndexString"], unfollowed := true, recurses := true, named := ["unicode/utf8.first", "unicode/utf8.acceptRanges", "internal/bytealg.MaxLen"], apart := false, laid := [("unicode/utf8.acceptRanges", laid_unicode_utf8_acceptRanges), ("unicode/utf8.first", laid_unicode_utf8_first)], narrowed := true }
def BookWrongUptoSaid : Prop := bookWrongUptoRow.holds Tryd.pinned (OpenSpec.upto bookWrongSpec)

/-- 'almonerlaw11.BookSums', WHERE WHAT IT READS IS OF BULK AT MOST 1048576: true; the input reads as it did. -/
def bookSumsUptoRow : OpenClaim := { program := "ytooginpgclcldaadoor", sum := "b375cbfb19db537c86d582e5be9f8454aeda0cd1af6871e2c7d178fdfbcab7d5", func := "almoner/almonerlaw11.BookSums", spec := "bookSums", inPlace := ["internal/bytealg.IndexByteString", "internal/bytealg.IndexString"], unfollowed := true, recurses := true, named := ["unicode/utf8.first", "unicode/utf8.acceptRanges", "internal/bytealg.MaxLen"], apart := false, laid := [("unicode/utf8.acceptRanges", laid_unicode_utf8_acceptRanges), ("unicode/utf8.first", laid_unicode_utf8_first)], narrowed := true }
def BookSumsUptoSaid : Prop := bookSumsUptoRow.holds Tryd.pinned (OpenSpec.upto bookSumsSpec)

/-- 'almonerlaw11.BookSlots', WHERE WHAT IT READS IS OF BULK AT MOST 1048576: true; the input reads as it did. -/
def bookSlotsUptoRow : OpenClaim := { program := "ytooginpgclcldaadoor", sum := "b375cbfb19db537c86d582e5be9f8454aeda0cd1af6871e2c7d178fdfbcab7d5", func := "almoner/almonerlaw11.BookSlots", spec := "bookSlots", inPlace := ["internal/bytealg.IndexByteString", "internal/bytealg.IndexString"], unfollowed := true, recurses := true, named := ["unicode/utf8.first", "unicode/utf8.acceptRanges", "internal/bytealg.MaxLen"], apart := false, laid := [("unicode/utf8.acceptRanges", laid_unicode_utf8_acceptRanges), ("unicode/utf8.first", laid_unicode_utf8_first)], narrowed := true }
def BookSlotsUptoSaid : Prop := bookSlotsUptoRow.holds Tryd.pinned (OpenSpec.upto bookSlotsSpec)

/-- 'almonerlaw11.BookHolds', WHERE WHAT IT READS IS OF BULK AT MOST 1048576: true; the input reads as it did. -/
def bookHoldsUptoRow : OpenClaim := { program := "ytooginpgclcldaadoor", sum := "b375cbfb19db537c86d582e5be9f8454aeda0cd1af6871e2c7d178fdfbcab7d5", func := "almoner/almonerlaw11.BookHolds", spec := "bookHolds", inPlace := ["internal/bytealg.IndexByteString", "internal/bytealg.IndexString"], unfollowed := true, recurses := true, named := ["unicode/utf8.first", "unicode/utf8.acceptRanges", "internal/bytealg.MaxLen"], apart := false, laid := [("unicode/utf8.acceptRanges", laid_unicode_utf8_acceptRanges), ("unicode/utf8.first", laid_unicode_utf8_first)], narrowed := true }
def BookHoldsUptoSaid : Prop := bookHoldsUptoRow.holds Tryd.pinned (OpenSpec.upto bookHoldsSpec)

/-- 'almonerlaw11.BookNil', WHERE WHAT IT READS IS OF BULK AT MOST 1048576: true; the input reads as it did. -/
def bookNilUptoRow : OpenClaim := { program := "ytooginpgclcldaadoor", sum := "b375cbfb19db537c86d582e5be9f8454aeda0cd1af6871e2c7d178fdfbcab7d5", func := "almoner/almonerlaw11.BookNil", spec := "bookNil", inPlace := ["internal/bytealg.IndexByteString", "internal/bytealg.IndexString", "maps.clone"], unfollowed := true, recurses := true, named := ["unicode/utf8.first", "unicode/utf8.acceptRanges", "internal/bytealg.MaxLen"], apart := false, laid := [("unicode/utf8.acceptRanges", laid_unicode_utf8_acceptRanges), ("unicode/utf8.first", laid_unicode_utf8_first)], narrowed := true }
def BookNilUptoSaid : Prop := bookNilUptoRow.holds Tryd.pinned (OpenSpec.upto bookNilSpec)

end Rows
end Go.Proofs.YtooginpgclcldaaDoor
