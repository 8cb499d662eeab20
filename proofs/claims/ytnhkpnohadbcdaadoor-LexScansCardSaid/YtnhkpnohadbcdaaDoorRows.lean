/-
  NARROWER THAN 'FOR EVERY INPUT', by the rows' own cells (each row's printed sentence says how): PrefixTexts: laid · PrefixParses: laid · PrefixOrder: laid · PrefixBits: laid · PrefixCovers: laid · FilterComms: laid · FilterTexts: laid · FilterWider: laid · PrefixPuts: laid · FilterRanges: laid · LexKinds: laid · LexQuotes: laid · LexScans: laid · LexTokens: laid · FilterLists: laid.
  DERIVED. THE GIVEN ROWS OF THIS SEAT. 15 by the template 'for every input the law returns true; each argument reads behind the call as it read before'; 0 by the template 'total and deterministic' (their statements: YtnhkpnohadbcdaaDoorTotals.lean).
  GIVEN WITH THE SEED: the statements are not yours to turn. If you find one false, say at which input.
  Laid BY PROGRAM, IN A SANDBOX (cutbox-rows.mjs): the forced cells as the released guide's own fill.sh prints them over the translation 6d9b83cf0efc96b4… (all of the seat's roots in one cut). By AI agents, Wed Nov 11 2026. No macro, syntax, notation, axiom, sorry.
-/
import Derived.Test.YtnhkpnohadbcdaaDoorChecked
import GoSem.PinnedTables
import GoSem.Claim
import GoSem.ClaimJoined
import GoSem.ClaimMapViews
import Derived.JoinedTies
import Derived.KernelRfl
namespace Go.Proofs.YtnhkpnohadbcdaaDoor
/- THE CELL 'sum', in the pinned program and in every row, IS THE sha256 OF THE DUMP (.gsa) THAT YtnhkpnohadbcdaaDoorProg.lean LOADS. Nothing in Lean hashes anything: it is a label: what it is worth is what the hold of that sum in a sandbox is worth. -/
noncomputable def Tryd.pinned : Pinned := { name := "ytnhkpnohadbcdaadoor", sum := "6d9b83cf0efc96b4dad515880aca2d5a36330ca718a293db6116434d58270b4b", checked := Tryd.checked }
namespace Rows
def none {H : Type} : Left H := { results := [], args := [] }

/- WHAT THE LISTED PACKAGE-LEVEL VARIABLES READ AS WHEN THE CALL BEGINS. Each datum BY PROGRAM (the guide's laid-datum.mjs) off the statement by which the dump's own 'gosem.cut.vars' lays the variable. In a bare row this is a premise. The card (YtnhkpnohadbcdaaDoorCards.lean) ties it to the program's text. -/
def laid_speculum_octet_digits {H : Type} : DataW H := .agg [.lit (.int .u8 48), .lit (.int .u8 49), .lit (.int .u8 50), .lit (.int .u8 51), .lit (.int .u8 52), .lit (.int .u8 53), .lit (.int .u8 54), .lit (.int .u8 55), .lit (.int .u8 56), .lit (.int .u8 57), .lit (.int .u8 97), .lit (.int .u8 98), .lit (.int .u8 99), .lit (.int .u8 100), .lit (.int .u8 101), .lit (.int .u8 102)]
def laid_unicode_utf8_acceptRanges {H : Type} : DataW H := .agg [.agg [.lit (.int .u8 128), .lit (.int .u8 191)], .agg [.lit (.int .u8 160), .lit (.int .u8 191)], .agg [.lit (.int .u8 128), .lit (.int .u8 159)], .agg [.lit (.int .u8 144), .lit (.int .u8 191)], .agg [.lit (.int .u8 128), .lit (.int .u8 143)], .agg [.lit (.int .u8 0), .lit (.int .u8 0)], .agg [.lit (.int .u8 0), .lit (.int .u8 0)], .agg [.lit (.int .u8 0), .lit (.int .u8 0)], .agg [.lit (.int .u8 0), .lit (.int .u8 0)], .agg [.lit (.int .u8 0), .lit (.int .u8 0)], .agg [.lit (.int .u8 0), .lit (.int .u8 0)], .agg [.lit (.int .u8 0), .lit (.int .u8 0)], .agg [.lit (.int .u8 0), .lit (.int .u8 0)], .agg [.lit (.int .u8 0), .lit (.int .u8 0)], .agg [.lit (.int .u8 0), .lit (.int .u8 0)], .agg [.lit (.int .u8 0), .lit (.int .u8 0)]]
/-- One of Go's own tables, pinned by name: the form's constant. -/
def laid_unicode_utf8_first : DataW Unit := Go.Pinned.utf8First

/-- 'speculumlaw02.PrefixTexts': WHATEVER THE INPUT: true; the input reads as it did. -/
def prefixTextsSpec : ChangeSpec := { name := "prefixTexts", fn := fun _ => fun
  | [d1, d2] => { results := [.lit (.bool true)], args := [d1, d2] }
  | _ => none }
def prefixTextsRow : OpenClaim := { program := "ytnhkpnohadbcdaadoor", sum := "6d9b83cf0efc96b4dad515880aca2d5a36330ca718a293db6116434d58270b4b", func := "speculum/speculumlaw02.PrefixTexts", spec := "prefixTexts", named := ["speculum/octet.digits"], apart := false, laid := [("speculum/octet.digits", laid_speculum_octet_digits)] }
def PrefixTextsSaid : Prop := prefixTextsRow.holds Tryd.pinned (OpenSpec.ofChange prefixTextsSpec)

/-- ITS FALSE NEIGHBOUR: 'it returns false'. Refute it at one input. -/
def prefixTextsWrong : ChangeSpec := { name := "prefixTexts", fn := fun _ => fun
  | [d1, d2] => { results := [.lit (.bool false)], args := [d1, d2] }
  | _ => none }
def PrefixTextsWrongFalsely : Prop := prefixTextsRow.holds Tryd.pinned (OpenSpec.ofChange prefixTextsWrong)

/-- 'speculumlaw02.PrefixParses': WHATEVER THE INPUT: true; the input reads as it did. -/
def prefixParsesSpec : ChangeSpec := { name := "prefixParses", fn := fun _ => fun
  | [d] => { results := [.lit (.bool true)], args := [d] }
  | _ => none }
def prefixParsesRow : OpenClaim := { program := "ytnhkpnohadbcdaadoor", sum := "6d9b83cf0efc96b4dad515880aca2d5a36330ca718a293db6116434d58270b4b", func := "speculum/speculumlaw02.PrefixParses", spec := "prefixParses", named := ["speculum/octet.digits"], apart := false, laid := [("speculum/octet.digits", laid_speculum_octet_digits)] }
def PrefixParsesSaid : Prop := prefixParsesRow.holds Tryd.pinned (OpenSpec.ofChange prefixParsesSpec)

/-- ITS FALSE NEIGHBOUR: 'it returns false'. Refute it at one input. -/
def prefixParsesWrong : ChangeSpec := { name := "prefixParses", fn := fun _ => fun
  | [d] => { results := [.lit (.bool false)], args := [d] }
  | _ => none }
def PrefixParsesWrongFalsely : Prop := prefixParsesRow.holds Tryd.pinned (OpenSpec.ofChange prefixParsesWrong)

/-- 'speculumlaw02.PrefixOrder': WHATEVER THE INPUT: true; the input reads as it did. -/
def prefixOrderSpec : ChangeSpec := { name := "prefixOrder", fn := fun _ => fun
  | [d1, d2, d3] => { results := [.lit (.bool true)], args := [d1, d2, d3] }
  | _ => none }
def prefixOrderRow : OpenClaim := { program := "ytnhkpnohadbcdaadoor", sum := "6d9b83cf0efc96b4dad515880aca2d5a36330ca718a293db6116434d58270b4b", func := "speculum/speculumlaw02.PrefixOrder", spec := "prefixOrder", named := ["speculum/octet.digits"], apart := false, laid := [("speculum/octet.digits", laid_speculum_octet_digits)] }
def PrefixOrderSaid : Prop := prefixOrderRow.holds Tryd.pinned (OpenSpec.ofChange prefixOrderSpec)

/-- ITS FALSE NEIGHBOUR: 'it returns false'. Refute it at one input. -/
def prefixOrderWrong : ChangeSpec := { name := "prefixOrder", fn := fun _ => fun
  | [d1, d2, d3] => { results := [.lit (.bool false)], args := [d1, d2, d3] }
  | _ => none }
def PrefixOrderWrongFalsely : Prop := prefixOrderRow.holds Tryd.pinned (OpenSpec.ofChange prefixOrderWrong)

/-- 'speculumlaw02.PrefixBits': WHATEVER THE INPUT: true; the input reads as it did. -/
def prefixBitsSpec : ChangeSpec := { name := "prefixBits", fn := fun _ => fun
  | [d1, d2, d3] => { results := [.lit (.bool true)], args := [d1, d2, d3] }
  | _ => none }
def prefixBitsRow : OpenClaim := { program := "ytnhkpnohadbcdaadoor", sum := "6d9b83cf0efc96b4dad515880aca2d5a36330ca718a293db6116434d58270b4b", func := "speculum/speculumlaw02.PrefixBits", spec := "prefixBits", named := ["speculum/octet.digits"], apart := false, laid := [("speculum/octet.digits", laid_speculum_octet_digits)] }
def PrefixBitsSaid : Prop := prefixBitsRow.holds Tryd.pinned (OpenSpec.ofChange prefixBitsSpec)

/-- ITS FALSE NEIGHBOUR: 'it returns false'. Refute it at one input. -/
def prefixBitsWrong : ChangeSpec := { name := "prefixBits", fn := fun _ => fun
  | [d1, d2, d3] => { results := [.lit (.bool false)], args := [d1, d2, d3] }
  | _ => none }
def PrefixBitsWrongFalsely : Prop := prefixBitsRow.holds Tryd.pinned (OpenSpec.ofChange prefixBitsWrong)

/-- 'speculumlaw02.PrefixCovers': WHATEVER THE INPUT: true; the input reads as it did. -/
def prefixCoversSpec : ChangeSpec := { name := "prefixCovers", fn := fun _ => fun
  | [d1, d2, d3] => { results := [.lit (.bool true)], args := [d1, d2, d3] }
  | _ => none }
def prefixCoversRow : OpenClaim := { program := "ytnhkpnohadbcdaadoor", sum := "6d9b83cf0efc96b4dad515880aca2d5a36330ca718a293db6116434d58270b4b", func := "speculum/speculumlaw02.PrefixCovers", spec := "prefixCovers", named := ["speculum/octet.digits"], apart := false, laid := [("speculum/octet.digits", laid_speculum_octet_digits)] }
def PrefixCoversSaid : Prop := prefixCoversRow.holds Tryd.pinned (OpenSpec.ofChange prefixCoversSpec)

/-- ITS FALSE NEIGHBOUR: 'it returns false'. Refute it at one input. -/
def prefixCoversWrong : ChangeSpec := { name := "prefixCovers", fn := fun _ => fun
  | [d1, d2, d3] => { results := [.lit (.bool false)], args := [d1, d2, d3] }
  | _ => none }
def PrefixCoversWrongFalsely : Prop := prefixCoversRow.holds Tryd.pinned (OpenSpec.ofChange prefixCoversWrong)

/-- 'speculumlaw12.FilterComms': WHATEVER THE INPUT: true; the input reads as it did. -/
def filterCommsSpec : ChangeSpec := { name := "filterComms", fn := fun _ => fun
  | [d1, d2] => { results := [.lit (.bool true)], args := [d1, d2] }
  | _ => none }
def filterCommsRow : OpenClaim := { program := "ytnhkpnohadbcdaadoor", sum := "6d9b83cf0efc96b4dad515880aca2d5a36330ca718a293db6116434d58270b4b", func := "speculum/speculumlaw12.FilterComms", spec := "filterComms", named := ["speculum/octet.digits"], apart := false, laid := [("speculum/octet.digits", laid_speculum_octet_digits)] }
def FilterCommsSaid : Prop := filterCommsRow.holds Tryd.pinned (OpenSpec.ofChange filterCommsSpec)

/-- ITS FALSE NEIGHBOUR: 'it returns false'. Refute it at one input. -/
def filterCommsWrong : ChangeSpec := { name := "filterComms", fn := fun _ => fun
  | [d1, d2] => { results := [.lit (.bool false)], args := [d1, d2] }
  | _ => none }
def FilterCommsWrongFalsely : Prop := filterCommsRow.holds Tryd.pinned (OpenSpec.ofChange filterCommsWrong)

/-- 'speculumlaw12.FilterTexts': WHATEVER THE INPUT: true; the input reads as it did. -/
def filterTextsSpec : ChangeSpec := { name := "filterTexts", fn := fun _ => fun
  | [d1, d2] => { results := [.lit (.bool true)], args := [d1, d2] }
  | _ => none }
def filterTextsRow : OpenClaim := { program := "ytnhkpnohadbcdaadoor", sum := "6d9b83cf0efc96b4dad515880aca2d5a36330ca718a293db6116434d58270b4b", func := "speculum/speculumlaw12.FilterTexts", spec := "filterTexts", named := ["speculum/octet.digits"], apart := false, laid := [("speculum/octet.digits", laid_speculum_octet_digits)] }
def FilterTextsSaid : Prop := filterTextsRow.holds Tryd.pinned (OpenSpec.ofChange filterTextsSpec)

/-- ITS FALSE NEIGHBOUR: 'it returns false'. Refute it at one input. -/
def filterTextsWrong : ChangeSpec := { name := "filterTexts", fn := fun _ => fun
  | [d1, d2] => { results := [.lit (.bool false)], args := [d1, d2] }
  | _ => none }
def FilterTextsWrongFalsely : Prop := filterTextsRow.holds Tryd.pinned (OpenSpec.ofChange filterTextsWrong)

/-- 'speculumlaw12.FilterWider': WHATEVER THE INPUT: true; the input reads as it did. -/
def filterWiderSpec : ChangeSpec := { name := "filterWider", fn := fun _ => fun
  | [d1, d2, d3] => { results := [.lit (.bool true)], args := [d1, d2, d3] }
  | _ => none }
def filterWiderRow : OpenClaim := { program := "ytnhkpnohadbcdaadoor", sum := "6d9b83cf0efc96b4dad515880aca2d5a36330ca718a293db6116434d58270b4b", func := "speculum/speculumlaw12.FilterWider", spec := "filterWider", named := ["speculum/octet.digits"], apart := false, laid := [("speculum/octet.digits", laid_speculum_octet_digits)] }
def FilterWiderSaid : Prop := filterWiderRow.holds Tryd.pinned (OpenSpec.ofChange filterWiderSpec)

/-- ITS FALSE NEIGHBOUR: 'it returns false'. Refute it at one input. -/
def filterWiderWrong : ChangeSpec := { name := "filterWider", fn := fun _ => fun
  | [d1, d2, d3] => { results := [.lit (.bool false)], args := [d1, d2, d3] }
  | _ => none }
def FilterWiderWrongFalsely : Prop := filterWiderRow.holds Tryd.pinned (OpenSpec.ofChange filterWiderWrong)

/-- 'speculumlaw02.PrefixPuts': WHATEVER THE INPUT: true; the input reads as it did. -/
def prefixPutsSpec : ChangeSpec := { name := "prefixPuts", fn := fun _ => fun
  | [d1, d2, d3] => { results := [.lit (.bool true)], args := [d1, d2, d3] }
  | _ => none }
def prefixPutsRow : OpenClaim := { program := "ytnhkpnohadbcdaadoor", sum := "6d9b83cf0efc96b4dad515880aca2d5a36330ca718a293db6116434d58270b4b", func := "speculum/speculumlaw02.PrefixPuts", spec := "prefixPuts", named := ["speculum/octet.digits"], apart := false, laid := [("speculum/octet.digits", laid_speculum_octet_digits)] }
def PrefixPutsSaid : Prop := prefixPutsRow.holds Tryd.pinned (OpenSpec.ofChange prefixPutsSpec)

/-- ITS FALSE NEIGHBOUR: 'it returns false'. Refute it at one input. -/
def prefixPutsWrong : ChangeSpec := { name := "prefixPuts", fn := fun _ => fun
  | [d1, d2, d3] => { results := [.lit (.bool false)], args := [d1, d2, d3] }
  | _ => none }
def PrefixPutsWrongFalsely : Prop := prefixPutsRow.holds Tryd.pinned (OpenSpec.ofChange prefixPutsWrong)

/-- 'speculumlaw12.FilterRanges': WHATEVER THE INPUT: true; the input reads as it did. -/
def filterRangesSpec : ChangeSpec := { name := "filterRanges", fn := fun _ => fun
  | [d1, d2, d3] => { results := [.lit (.bool true)], args := [d1, d2, d3] }
  | _ => none }
def filterRangesRow : OpenClaim := { program := "ytnhkpnohadbcdaadoor", sum := "6d9b83cf0efc96b4dad515880aca2d5a36330ca718a293db6116434d58270b4b", func := "speculum/speculumlaw12.FilterRanges", spec := "filterRanges", unfollowed := true, recurses := true, named := ["speculum/octet.digits"], apart := false, laid := [("speculum/octet.digits", laid_speculum_octet_digits)] }
def FilterRangesSaid : Prop := filterRangesRow.holds Tryd.pinned (OpenSpec.ofChange filterRangesSpec)

/-- ITS FALSE NEIGHBOUR: 'it returns false'. Refute it at one input. -/
def filterRangesWrong : ChangeSpec := { name := "filterRanges", fn := fun _ => fun
  | [d1, d2, d3] => { results := [.lit (.bool false)], args := [d1, d2, d3] }
  | _ => none }
def FilterRangesWrongFalsely : Prop := filterRangesRow.holds Tryd.pinned (OpenSpec.ofChange filterRangesWrong)

/-- 'speculumlaw13.LexKinds': WHATEVER THE INPUT: true; the input reads as it did. -/
def lexKindsSpec : ChangeSpec := { name := "lexKinds", fn := fun _ => fun
  | [d1, d2, d3] => { results := [.lit (.bool true)], args := [d1, d2, d3] }
  | _ => none }
def lexKindsRow : OpenClaim := { program := "ytnhkpnohadbcdaadoor", sum := "6d9b83cf0efc96b4dad515880aca2d5a36330ca718a293db6116434d58270b4b", func := "speculum/speculumlaw13.LexKinds", spec := "lexKinds", named := ["unicode/utf8.first", "unicode/utf8.acceptRanges", "speculum/octet.digits"], apart := false, laid := [("speculum/octet.digits", laid_speculum_octet_digits), ("unicode/utf8.acceptRanges", laid_unicode_utf8_acceptRanges), ("unicode/utf8.first", laid_unicode_utf8_first)] }
def LexKindsSaid : Prop := lexKindsRow.holds Tryd.pinned (OpenSpec.ofChange lexKindsSpec)

/-- ITS FALSE NEIGHBOUR: 'it returns false'. Refute it at one input. -/
def lexKindsWrong : ChangeSpec := { name := "lexKinds", fn := fun _ => fun
  | [d1, d2, d3] => { results := [.lit (.bool false)], args := [d1, d2, d3] }
  | _ => none }
def LexKindsWrongFalsely : Prop := lexKindsRow.holds Tryd.pinned (OpenSpec.ofChange lexKindsWrong)

/-- 'speculumlaw13.LexQuotes': WHATEVER THE INPUT: true; the input reads as it did. -/
def lexQuotesSpec : ChangeSpec := { name := "lexQuotes", fn := fun _ => fun
  | [d] => { results := [.lit (.bool true)], args := [d] }
  | _ => none }
def lexQuotesRow : OpenClaim := { program := "ytnhkpnohadbcdaadoor", sum := "6d9b83cf0efc96b4dad515880aca2d5a36330ca718a293db6116434d58270b4b", func := "speculum/speculumlaw13.LexQuotes", spec := "lexQuotes", named := ["unicode/utf8.first", "unicode/utf8.acceptRanges", "speculum/octet.digits"], apart := false, laid := [("speculum/octet.digits", laid_speculum_octet_digits), ("unicode/utf8.acceptRanges", laid_unicode_utf8_acceptRanges), ("unicode/utf8.first", laid_unicode_utf8_first)] }
def LexQuotesSaid : Prop := lexQuotesRow.holds Tryd.pinned (OpenSpec.ofChange lexQuotesSpec)

/-- ITS FALSE NEIGHBOUR: 'it returns false'. Refute it at one input. -/
def lexQuotesWrong : ChangeSpec := { name := "lexQuotes", fn := fun _ => fun
  | [d] => { results := [.lit (.bool false)], args := [d] }
  | _ => none }
def LexQuotesWrongFalsely : Prop := lexQuotesRow.holds Tryd.pinned (OpenSpec.ofChange lexQuotesWrong)

/-- 'speculumlaw13.LexScans': WHATEVER THE INPUT: true; the input reads as it did. -/
def lexScansSpec : ChangeSpec := { name := "lexScans", fn := fun _ => fun
  | [d] => { results := [.lit (.bool true)], args := [d] }
  | _ => none }
def lexScansRow : OpenClaim := { program := "ytnhkpnohadbcdaadoor", sum := "6d9b83cf0efc96b4dad515880aca2d5a36330ca718a293db6116434d58270b4b", func := "speculum/speculumlaw13.LexScans", spec := "lexScans", named := ["unicode/utf8.first", "unicode/utf8.acceptRanges", "speculum/octet.digits"], apart := false, laid := [("speculum/octet.digits", laid_speculum_octet_digits), ("unicode/utf8.acceptRanges", laid_unicode_utf8_acceptRanges), ("unicode/utf8.first", laid_unicode_utf8_first)] }
def LexScansSaid : Prop := lexScansRow.holds Tryd.pinned (OpenSpec.ofChange lexScansSpec)

/-- ITS FALSE NEIGHBOUR: 'it returns false'. Refute it at one input. -/
def lexScansWrong : ChangeSpec := { name := "lexScans", fn := fun _ => fun
  | [d] => { results := [.lit (.bool false)], args := [d] }
  | _ => none }
def LexScansWrongFalsely : Prop := lexScansRow.holds Tryd.pinned (OpenSpec.ofChange lexScansWrong)

/-- 'speculumlaw13.LexTokens': WHATEVER THE INPUT: true; the input reads as it did. -/
def lexTokensSpec : ChangeSpec := { name := "lexTokens", fn := fun _ => fun
  | [d1, d2, d3] => { results := [.lit (.bool true)], args := [d1, d2, d3] }
  | _ => none }
def lexTokensRow : OpenClaim := { program := "ytnhkpnohadbcdaadoor", sum := "6d9b83cf0efc96b4dad515880aca2d5a36330ca718a293db6116434d58270b4b", func := "speculum/speculumlaw13.LexTokens", spec := "lexTokens", named := ["unicode/utf8.first", "unicode/utf8.acceptRanges", "speculum/octet.digits"], apart := false, laid := [("speculum/octet.digits", laid_speculum_octet_digits), ("unicode/utf8.acceptRanges", laid_unicode_utf8_acceptRanges), ("unicode/utf8.first", laid_unicode_utf8_first)] }
def LexTokensSaid : Prop := lexTokensRow.holds Tryd.pinned (OpenSpec.ofChange lexTokensSpec)

/-- ITS FALSE NEIGHBOUR: 'it returns false'. Refute it at one input. -/
def lexTokensWrong : ChangeSpec := { name := "lexTokens", fn := fun _ => fun
  | [d1, d2, d3] => { results := [.lit (.bool false)], args := [d1, d2, d3] }
  | _ => none }
def LexTokensWrongFalsely : Prop := lexTokensRow.holds Tryd.pinned (OpenSpec.ofChange lexTokensWrong)

/-- 'speculumlaw12.FilterLists': WHATEVER THE INPUT: true; the input reads as it did. -/
def filterListsSpec : ChangeSpec := { name := "filterLists", fn := fun _ => fun
  | [d1, d2, d3] => { results := [.lit (.bool true)], args := [d1, d2, d3] }
  | _ => none }
def filterListsRow : OpenClaim := { program := "ytnhkpnohadbcdaadoor", sum := "6d9b83cf0efc96b4dad515880aca2d5a36330ca718a293db6116434d58270b4b", func := "speculum/speculumlaw12.FilterLists", spec := "filterLists", unfollowed := true, recurses := true, named := ["speculum/octet.digits"], apart := false, laid := [("speculum/octet.digits", laid_speculum_octet_digits)] }
def FilterListsSaid : Prop := filterListsRow.holds Tryd.pinned (OpenSpec.ofChange filterListsSpec)

/-- ITS FALSE NEIGHBOUR: 'it returns false'. Refute it at one input. -/
def filterListsWrong : ChangeSpec := { name := "filterLists", fn := fun _ => fun
  | [d1, d2, d3] => { results := [.lit (.bool false)], args := [d1, d2, d3] }
  | _ => none }
def FilterListsWrongFalsely : Prop := filterListsRow.holds Tryd.pinned (OpenSpec.ofChange filterListsWrong)

/- THE SECOND FORM. 'bulk': how many values and letters a reading holds, each counted each time it is reached (what is shared counts as often as it is met; a slice's spare places count too). A statement '..UptoSaid' is the law's where the arguments, and the package variables that the reading takes, are together of bulk at most 1048576: NARROWER than '..Said'. Prove '..Said' where nothing that the law and all that it calls make is longer than what came in: it says more and counts as full. Else prove '..UptoSaid'. A law counts once. -/
mutual
def uptoBulk {H : Type} : DataW H → Nat
  | .lit (.string bytes) => bytes.length + 1
  | .lit _ => 1
  | .nil => 1
  | .ptr d => uptoBulk d + 1
  | .slice elems spare => uptoBulkAll elems + uptoBulkAll spare + 1
  | .agg parts => uptoBulkAll parts + 1
  | .iface _ d => uptoBulk d + 1
  | .map entries => uptoBulkEntries entries + 1
  | .held _ => 1
def uptoBulkAll {H : Type} : List (DataW H) → Nat
  | [] => 0
  | d :: r => uptoBulk d + uptoBulkAll r
def uptoBulkEntries {H : Type} : List (Lit × DataW H) → Nat
  | [] => 0
  | x :: r => uptoBulkEntry x + uptoBulkEntries r
def uptoBulkEntry {H : Type} : Lit × DataW H → Nat
  | (.string bytes, d) => bytes.length + uptoBulk d + 1
  | (_, d) => uptoBulk d + 1
 end
def uptoSmall : (H : Type) → List (DataW H) → Bool := fun _ ds => decide (uptoBulkAll ds ≤ 1048576)
def OpenSpec.upto (s : _root_.Go.ChangeSpec) : _root_.Go.OpenSpec := { _root_.Go.OpenSpec.ofChange s with cond := some uptoSmall }

/-- 'speculumlaw02.PrefixTexts', WHERE WHAT IT READS IS OF BULK AT MOST 1048576: true; the input reads as it did. -/
def prefixTextsUptoRow : OpenClaim := { program := "ytnhkpnohadbcdaadoor", sum := "6d9b83cf0efc96b4dad515880aca2d5a36330ca718a293db6116434d58270b4b", func := "speculum/speculumlaw02.PrefixTexts", spec := "prefixTexts", named := ["speculum/octet.digits"], apart := false, laid := [("speculum/octet.digits", laid_speculum_octet_digits)], narrowed := true }
def PrefixTextsUptoSaid : Prop := prefixTextsUptoRow.holds Tryd.pinned (OpenSpec.upto prefixTextsSpec)

/-- 'speculumlaw02.PrefixParses', WHERE WHAT IT READS IS OF BULK AT MOST 1048576: true; the input reads as it did. -/
def prefixParsesUptoRow : OpenClaim := { program := "ytnhkpnohadbcdaadoor", sum := "6d9b83cf0efc96b4dad515880aca2d5a36330ca718a293db6116434d58270b4b", func := "speculum/speculumlaw02.PrefixParses", spec := "prefixParses", named := ["speculum/octet.digits"], apart := false, laid := [("speculum/octet.digits", laid_speculum_octet_digits)], narrowed := true }
def PrefixParsesUptoSaid : Prop := prefixParsesUptoRow.holds Tryd.pinned (OpenSpec.upto prefixParsesSpec)

/-- 'speculumlaw02.PrefixOrder', WHERE WHAT IT READS IS OF BULK AT MOST 1048576: true; the input reads as it did. -/
def prefixOrderUptoRow : OpenClaim := { program := "ytnhkpnohadbcdaadoor", sum := "6d9b83cf0efc96b4dad515880aca2d5a36330ca718a293db6116434d58270b4b", func := "speculum/speculumlaw02.PrefixOrder", spec := "prefixOrder", named := ["speculum/octet.digits"], apart := false, laid := [("speculum/octet.digits", laid_speculum_octet_digits)], narrowed := true }
def PrefixOrderUptoSaid : Prop := prefixOrderUptoRow.holds Tryd.pinned (OpenSpec.upto prefixOrderSpec)

/-- 'speculumlaw02.PrefixBits', WHERE WHAT IT READS IS OF BULK AT MOST 1048576: true; the input reads as it did. -/
def prefixBitsUptoRow : OpenClaim := { program := "ytnhkpnohadbcdaadoor", sum := "6d9b83cf0efc96b4dad515880aca2d5a36330ca718a293db6116434d58270b4b", func := "speculum/speculumlaw02.PrefixBits", spec := "prefixBits", named := ["speculum/octet.digits"], apart := false, laid := [("speculum/octet.digits", laid_speculum_octet_digits)], narrowed := true }
def PrefixBitsUptoSaid : Prop := prefixBitsUptoRow.holds Tryd.pinned (OpenSpec.upto prefixBitsSpec)

/-- 'speculumlaw02.PrefixCovers', WHERE WHAT IT READS IS OF BULK AT MOST 1048576: true; the input reads as it did. -/
def prefixCoversUptoRow : OpenClaim := { program := "ytnhkpnohadbcdaadoor", sum := "6d9b83cf0efc96b4dad515880aca2d5a36330ca718a293db6116434d58270b4b", func := "speculum/speculumlaw02.PrefixCovers", spec := "prefixCovers", named := ["speculum/octet.digits"], apart := false, laid := [("speculum/octet.digits", laid_speculum_octet_digits)], narrowed := true }
def PrefixCoversUptoSaid : Prop := prefixCoversUptoRow.holds Tryd.pinned (OpenSpec.upto prefixCoversSpec)

/-- 'speculumlaw12.FilterComms', WHERE WHAT IT READS IS OF BULK AT MOST 1048576: true; the input reads as it did. -/
def filterCommsUptoRow : OpenClaim := { program := "ytnhkpnohadbcdaadoor", sum := "6d9b83cf0efc96b4dad515880aca2d5a36330ca718a293db6116434d58270b4b", func := "speculum/speculumlaw12.FilterComms", spec := "filterComms", named := ["speculum/octet.digits"], apart := false, laid := [("speculum/octet.digits", laid_speculum_octet_digits)], narrowed := true }
def FilterCommsUptoSaid : Prop := filterCommsUptoRow.holds Tryd.pinned (OpenSpec.upto filterCommsSpec)

/-- 'speculumlaw12.FilterTexts', WHERE WHAT IT READS IS OF BULK AT MOST 1048576: true; the input reads as it did. -/
def filterTextsUptoRow : OpenClaim := { program := "ytnhkpnohadbcdaadoor", sum := "6d9b83cf0efc96b4dad515880aca2d5a36330ca718a293db6116434d58270b4b", func := "speculum/speculumlaw12.FilterTexts", spec := "filterTexts", named := ["speculum/octet.digits"], apart := false, laid := [("speculum/octet.digits", laid_speculum_octet_digits)], narrowed := true }
def FilterTextsUptoSaid : Prop := filterTextsUptoRow.holds Tryd.pinned (OpenSpec.upto filterTextsSpec)

/-- 'speculumlaw12.FilterWider', WHERE WHAT IT READS IS OF BULK AT MOST 1048576: true; the input reads as it did. -/
def filterWiderUptoRow : OpenClaim := { program := "ytnhkpnohadbcdaadoor", sum := "6d9b83cf0efc96b4dad515880aca2d5a36330ca718a293db6116434d58270b4b", func := "speculum/speculumlaw12.FilterWider", spec := "filterWider", named := ["speculum/octet.digits"], apart := false, laid := [("speculum/octet.digits", laid_speculum_octet_digits)], narrowed := true }
def FilterWiderUptoSaid : Prop := filterWiderUptoRow.holds Tryd.pinned (OpenSpec.upto filterWiderSpec)

/-- 'speculumlaw02.PrefixPuts', WHERE WHAT IT READS IS OF BULK AT MOST 1048576: true; the input reads as it did. -/
def prefixPutsUptoRow : OpenClaim := { program := "ytnhkpnohadbcdaadoor", sum := "6d9b83cf0efc96b4dad515880aca2d5a36330ca718a293db6116434d58270b4b", func := "speculum/speculumlaw02.PrefixPuts", spec := "prefixPuts", named := ["speculum/octet.digits"], apart := false, laid := [("speculum/octet.digits", laid_speculum_octet_digits)], narrowed := true }
def PrefixPutsUptoSaid : Prop := prefixPutsUptoRow.holds Tryd.pinned (OpenSpec.upto prefixPutsSpec)

/-- 'speculumlaw12.FilterRanges', WHERE WHAT IT READS IS OF BULK AT MOST 1048576: true; the input reads as it did. -/
def filterRangesUptoRow : OpenClaim := { program := "ytnhkpnohadbcdaadoor", sum := "6d9b83cf0efc96b4dad515880aca2d5a36330ca718a293db6116434d58270b4b", func := "speculum/speculumlaw12.FilterRanges", spec := "filterRanges", unfollowed := true, recurses := true, named := ["speculum/octet.digits"], apart := false, laid := [("speculum/octet.digits", laid_speculum_octet_digits)], narrowed := true }
def FilterRangesUptoSaid : Prop := filterRangesUptoRow.holds Tryd.pinned (OpenSpec.upto filterRangesSpec)

/-- 'speculumlaw13.LexKinds', WHERE WHAT IT READS IS OF BULK AT MOST 1048576: true; the input reads as it did. -/
def lexKindsUptoRow : OpenClaim := { program := "ytnhkpnohadbcdaadoor", sum := "6d9b83cf0efc96b4dad515880aca2d5a36330ca718a293db6116434d58270b4b", func := "speculum/speculumlaw13.LexKinds", spec := "lexKinds", named := ["unicode/utf8.first", "unicode/utf8.acceptRanges", "speculum/octet.digits"], apart := false, laid := [("speculum/octet.digits", laid_speculum_octet_digits), ("unicode/utf8.acceptRanges", laid_unicode_utf8_acceptRanges), ("unicode/utf8.first", laid_unicode_utf8_first)], narrowed := true }
def LexKindsUptoSaid : Prop := lexKindsUptoRow.holds Tryd.pinned (OpenSpec.upto lexKindsSpec)

/-- 'speculumlaw13.LexQuotes', WHERE WHAT IT READS IS OF BULK AT MOST 1048576: true; the input reads as it did. -/
def lexQuotesUptoRow : OpenClaim := { program := "ytnhkpnohadbcdaadoor", sum := "6d9b83cf0efc96b4dad515880aca2d5a36330ca718a293db6116434d58270b4b", func := "speculum/speculumlaw13.LexQuotes", spec := "lexQuotes", named := ["unicode/utf8.first", "unicode/utf8.acceptRanges", "speculum/octet.digits"], apart := false, laid := [("speculum/octet.digits", laid_speculum_octet_digits), ("unicode/utf8.acceptRanges", laid_unicode_utf8_acceptRanges), ("unicode/utf8.first", laid_unicode_utf8_first)], narrowed := true }
def LexQuotesUptoSaid : Prop := lexQuotesUptoRow.holds Tryd.pinned (OpenSpec.upto lexQuotesSpec)

/-- 'speculumlaw13.LexScans', WHERE WHAT IT READS IS OF BULK AT MOST 1048576: true; the input reads as it did. -/
def lexScansUptoRow : OpenClaim := { program := "ytnhkpnohadbcdaadoor", sum := "6d9b83cf0efc96b4dad515880aca2d5a36330ca718a293db6116434d58270b4b", func := "speculum/speculumlaw13.LexScans", spec := "lexScans", named := ["unicode/utf8.first", "unicode/utf8.acceptRanges", "speculum/octet.digits"], apart := false, laid := [("speculum/octet.digits", laid_speculum_octet_digits), ("unicode/utf8.acceptRanges", laid_unicode_utf8_acceptRanges), ("unicode/utf8.first", laid_unicode_utf8_first)], narrowed := true }
def LexScansUptoSaid : Prop := lexScansUptoRow.holds Tryd.pinned (OpenSpec.upto lexScansSpec)

/-- 'speculumlaw13.LexTokens', WHERE WHAT IT READS IS OF BULK AT MOST 1048576: true; the input reads as it did. -/
def lexTokensUptoRow : OpenClaim := { program := "ytnhkpnohadbcdaadoor", sum := "6d9b83cf0efc96b4dad515880aca2d5a36330ca718a293db6116434d58270b4b", func := "speculum/speculumlaw13.LexTokens", spec := "lexTokens", named := ["unicode/utf8.first", "unicode/utf8.acceptRanges", "speculum/octet.digits"], apart := false, laid := [("speculum/octet.digits", laid_speculum_octet_digits), ("unicode/utf8.acceptRanges", laid_unicode_utf8_acceptRanges), ("unicode/utf8.first", laid_unicode_utf8_first)], narrowed := true }
def LexTokensUptoSaid : Prop := lexTokensUptoRow.holds Tryd.pinned (OpenSpec.upto lexTokensSpec)

/-- 'speculumlaw12.FilterLists', WHERE WHAT IT READS IS OF BULK AT MOST 1048576: true; the input reads as it did. -/
def filterListsUptoRow : OpenClaim := { program := "ytnhkpnohadbcdaadoor", sum := "6d9b83cf0efc96b4dad515880aca2d5a36330ca718a293db6116434d58270b4b", func := "speculum/speculumlaw12.FilterLists", spec := "filterLists", unfollowed := true, recurses := true, named := ["speculum/octet.digits"], apart := false, laid := [("speculum/octet.digits", laid_speculum_octet_digits)], narrowed := true }
def FilterListsUptoSaid : Prop := filterListsUptoRow.holds Tryd.pinned (OpenSpec.upto filterListsSpec)

end Rows
end Go.Proofs.YtnhkpnohadbcdaaDoor
