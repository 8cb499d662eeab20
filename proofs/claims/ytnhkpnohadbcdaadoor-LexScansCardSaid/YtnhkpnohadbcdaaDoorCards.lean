/-
  DERIVED. GIVEN WITH THE SEED: THE CARDS: each row of YtnhkpnohadbcdaaDoorRows.lean that lists a variable, with what it lists TIED to the program's text (the seventh form; the later family's looks); each row that meets fmt, with fmt's text TOLD by the authors' own Lean function (tested against real Go, not proved from fmt's source: count such statements apart). THE CARD IS WHAT COUNTS. Prove the row's statement (the work); the ties are given (YtnhkpnohadbcdaaDoorTie.lean); close each card by the builder's one call (the guide's Derived/Test/ToyasCard.lean, 'card_holds'). Laid BY PROGRAM, IN A SANDBOX (cutbox-door.mjs). By AI agents, Wed Nov 11 2026. No macro, syntax, notation, axiom, sorry.
-/
import Derived.Test.YtnhkpnohadbcdaaDoorRows
import GoSem.ClaimSeven
namespace Go.Proofs.YtnhkpnohadbcdaaDoor
namespace Rows

/-- THE TIED CARD OF 'speculumlaw02.PrefixTexts'. -/
def prefixTextsCard : Claim7 := { stood := { row := prefixTextsRow, standIns := [], harness := (true, "6b83a014eaace47959ddffc5fa892f483d8ce723ce7199c40a065c4711be0230"), looks := true }, kinds := [], alts := [], laidByText := true, laidKinds := [.data], laidTests := true, laidLooks := .later }
def PrefixTextsCardSaid : Prop := Claim7.holds Tryd.pinned (.plain (OpenSpec.ofChange prefixTextsSpec)) prefixTextsCard

/-- THE TIED CARD OF 'speculumlaw02.PrefixParses'. -/
def prefixParsesCard : Claim7 := { stood := { row := prefixParsesRow, standIns := [], harness := (true, "6b83a014eaace47959ddffc5fa892f483d8ce723ce7199c40a065c4711be0230"), looks := true }, kinds := [], alts := [], laidByText := true, laidKinds := [.data], laidTests := true, laidLooks := .later }
def PrefixParsesCardSaid : Prop := Claim7.holds Tryd.pinned (.plain (OpenSpec.ofChange prefixParsesSpec)) prefixParsesCard

/-- THE TIED CARD OF 'speculumlaw02.PrefixOrder'. -/
def prefixOrderCard : Claim7 := { stood := { row := prefixOrderRow, standIns := [], harness := (true, "6b83a014eaace47959ddffc5fa892f483d8ce723ce7199c40a065c4711be0230"), looks := true }, kinds := [], alts := [], laidByText := true, laidKinds := [.data], laidTests := true, laidLooks := .later }
def PrefixOrderCardSaid : Prop := Claim7.holds Tryd.pinned (.plain (OpenSpec.ofChange prefixOrderSpec)) prefixOrderCard

/-- THE TIED CARD OF 'speculumlaw02.PrefixBits'. -/
def prefixBitsCard : Claim7 := { stood := { row := prefixBitsRow, standIns := [], harness := (true, "6b83a014eaace47959ddffc5fa892f483d8ce723ce7199c40a065c4711be0230"), looks := true }, kinds := [], alts := [], laidByText := true, laidKinds := [.data], laidTests := true, laidLooks := .later }
def PrefixBitsCardSaid : Prop := Claim7.holds Tryd.pinned (.plain (OpenSpec.ofChange prefixBitsSpec)) prefixBitsCard

/-- THE TIED CARD OF 'speculumlaw02.PrefixCovers'. -/
def prefixCoversCard : Claim7 := { stood := { row := prefixCoversRow, standIns := [], harness := (true, "6b83a014eaace47959ddffc5fa892f483d8ce723ce7199c40a065c4711be0230"), looks := true }, kinds := [], alts := [], laidByText := true, laidKinds := [.data], laidTests := true, laidLooks := .later }
def PrefixCoversCardSaid : Prop := Claim7.holds Tryd.pinned (.plain (OpenSpec.ofChange prefixCoversSpec)) prefixCoversCard

/-- THE TIED CARD OF 'speculumlaw12.FilterComms'. -/
def filterCommsCard : Claim7 := { stood := { row := filterCommsRow, standIns := [], harness := (true, "6b83a014eaace47959ddffc5fa892f483d8ce723ce7199c40a065c4711be0230"), looks := true }, kinds := [], alts := [], laidByText := true, laidKinds := [.data], laidTests := true, laidLooks := .later }
def FilterCommsCardSaid : Prop := Claim7.holds Tryd.pinned (.plain (OpenSpec.ofChange filterCommsSpec)) filterCommsCard

/-- THE TIED CARD OF 'speculumlaw12.FilterTexts'. -/
def filterTextsCard : Claim7 := { stood := { row := filterTextsRow, standIns := [], harness := (true, "6b83a014eaace47959ddffc5fa892f483d8ce723ce7199c40a065c4711be0230"), looks := true }, kinds := [], alts := [], laidByText := true, laidKinds := [.data], laidTests := true, laidLooks := .later }
def FilterTextsCardSaid : Prop := Claim7.holds Tryd.pinned (.plain (OpenSpec.ofChange filterTextsSpec)) filterTextsCard

/-- THE TIED CARD OF 'speculumlaw12.FilterWider'. -/
def filterWiderCard : Claim7 := { stood := { row := filterWiderRow, standIns := [], harness := (true, "6b83a014eaace47959ddffc5fa892f483d8ce723ce7199c40a065c4711be0230"), looks := true }, kinds := [], alts := [], laidByText := true, laidKinds := [.data], laidTests := true, laidLooks := .later }
def FilterWiderCardSaid : Prop := Claim7.holds Tryd.pinned (.plain (OpenSpec.ofChange filterWiderSpec)) filterWiderCard

/-- THE TIED CARD OF 'speculumlaw02.PrefixPuts'. -/
def prefixPutsCard : Claim7 := { stood := { row := prefixPutsRow, standIns := [], harness := (true, "6b83a014eaace47959ddffc5fa892f483d8ce723ce7199c40a065c4711be0230"), looks := true }, kinds := [], alts := [], laidByText := true, laidKinds := [.data], laidTests := true, laidLooks := .later }
def PrefixPutsCardSaid : Prop := Claim7.holds Tryd.pinned (.plain (OpenSpec.ofChange prefixPutsSpec)) prefixPutsCard

/-- THE TIED CARD OF 'speculumlaw12.FilterRanges'. -/
def filterRangesCard : Claim7 := { stood := { row := filterRangesRow, standIns := [], harness := (true, "6b83a014eaace47959ddffc5fa892f483d8ce723ce7199c40a065c4711be0230"), looks := true }, kinds := [], alts := [], laidByText := true, laidKinds := [.data], laidTests := true, laidLooks := .later }
def FilterRangesCardSaid : Prop := Claim7.holds Tryd.pinned (.plain (OpenSpec.ofChange filterRangesSpec)) filterRangesCard

/-- THE TIED CARD OF 'speculumlaw13.LexKinds'. -/
def lexKindsCard : Claim7 := { stood := { row := lexKindsRow, standIns := [], harness := (true, "6b83a014eaace47959ddffc5fa892f483d8ce723ce7199c40a065c4711be0230"), looks := true }, kinds := [], alts := [], laidByText := true, laidKinds := [.data, .data, .pinned], laidTests := true, laidLooks := .later }
def LexKindsCardSaid : Prop := Claim7.holds Tryd.pinned (.plain (OpenSpec.ofChange lexKindsSpec)) lexKindsCard

/-- THE TIED CARD OF 'speculumlaw13.LexQuotes'. -/
def lexQuotesCard : Claim7 := { stood := { row := lexQuotesRow, standIns := [], harness := (true, "6b83a014eaace47959ddffc5fa892f483d8ce723ce7199c40a065c4711be0230"), looks := true }, kinds := [], alts := [], laidByText := true, laidKinds := [.data, .data, .pinned], laidTests := true, laidLooks := .later }
def LexQuotesCardSaid : Prop := Claim7.holds Tryd.pinned (.plain (OpenSpec.ofChange lexQuotesSpec)) lexQuotesCard

/-- THE TIED CARD OF 'speculumlaw13.LexScans'. -/
def lexScansCard : Claim7 := { stood := { row := lexScansRow, standIns := [], harness := (true, "6b83a014eaace47959ddffc5fa892f483d8ce723ce7199c40a065c4711be0230"), looks := true }, kinds := [], alts := [], laidByText := true, laidKinds := [.data, .data, .pinned], laidTests := true, laidLooks := .later }
def LexScansCardSaid : Prop := Claim7.holds Tryd.pinned (.plain (OpenSpec.ofChange lexScansSpec)) lexScansCard

/-- THE TIED CARD OF 'speculumlaw13.LexTokens'. -/
def lexTokensCard : Claim7 := { stood := { row := lexTokensRow, standIns := [], harness := (true, "6b83a014eaace47959ddffc5fa892f483d8ce723ce7199c40a065c4711be0230"), looks := true }, kinds := [], alts := [], laidByText := true, laidKinds := [.data, .data, .pinned], laidTests := true, laidLooks := .later }
def LexTokensCardSaid : Prop := Claim7.holds Tryd.pinned (.plain (OpenSpec.ofChange lexTokensSpec)) lexTokensCard

/-- THE TIED CARD OF 'speculumlaw12.FilterLists'. -/
def filterListsCard : Claim7 := { stood := { row := filterListsRow, standIns := [], harness := (true, "6b83a014eaace47959ddffc5fa892f483d8ce723ce7199c40a065c4711be0230"), looks := true }, kinds := [], alts := [], laidByText := true, laidKinds := [.data], laidTests := true, laidLooks := .later }
def FilterListsCardSaid : Prop := Claim7.holds Tryd.pinned (.plain (OpenSpec.ofChange filterListsSpec)) filterListsCard

/-- THE SECOND FORM's CARD OF 'speculumlaw02.PrefixTexts'. -/
def prefixTextsUptoCard : Claim7 := { stood := { row := prefixTextsUptoRow, standIns := [], harness := (true, "6b83a014eaace47959ddffc5fa892f483d8ce723ce7199c40a065c4711be0230"), looks := true }, kinds := [], alts := [], laidByText := true, laidKinds := [.data], laidTests := true, laidLooks := .later }
def PrefixTextsUptoCardSaid : Prop := Claim7.holds Tryd.pinned (.plain (OpenSpec.upto prefixTextsSpec)) prefixTextsUptoCard

/-- THE SECOND FORM's CARD OF 'speculumlaw02.PrefixParses'. -/
def prefixParsesUptoCard : Claim7 := { stood := { row := prefixParsesUptoRow, standIns := [], harness := (true, "6b83a014eaace47959ddffc5fa892f483d8ce723ce7199c40a065c4711be0230"), looks := true }, kinds := [], alts := [], laidByText := true, laidKinds := [.data], laidTests := true, laidLooks := .later }
def PrefixParsesUptoCardSaid : Prop := Claim7.holds Tryd.pinned (.plain (OpenSpec.upto prefixParsesSpec)) prefixParsesUptoCard

/-- THE SECOND FORM's CARD OF 'speculumlaw02.PrefixOrder'. -/
def prefixOrderUptoCard : Claim7 := { stood := { row := prefixOrderUptoRow, standIns := [], harness := (true, "6b83a014eaace47959ddffc5fa892f483d8ce723ce7199c40a065c4711be0230"), looks := true }, kinds := [], alts := [], laidByText := true, laidKinds := [.data], laidTests := true, laidLooks := .later }
def PrefixOrderUptoCardSaid : Prop := Claim7.holds Tryd.pinned (.plain (OpenSpec.upto prefixOrderSpec)) prefixOrderUptoCard

/-- THE SECOND FORM's CARD OF 'speculumlaw02.PrefixBits'. -/
def prefixBitsUptoCard : Claim7 := { stood := { row := prefixBitsUptoRow, standIns := [], harness := (true, "6b83a014eaace47959ddffc5fa892f483d8ce723ce7199c40a065c4711be0230"), looks := true }, kinds := [], alts := [], laidByText := true, laidKinds := [.data], laidTests := true, laidLooks := .later }
def PrefixBitsUptoCardSaid : Prop := Claim7.holds Tryd.pinned (.plain (OpenSpec.upto prefixBitsSpec)) prefixBitsUptoCard

/-- THE SECOND FORM's CARD OF 'speculumlaw02.PrefixCovers'. -/
def prefixCoversUptoCard : Claim7 := { stood := { row := prefixCoversUptoRow, standIns := [], harness := (true, "6b83a014eaace47959ddffc5fa892f483d8ce723ce7199c40a065c4711be0230"), looks := true }, kinds := [], alts := [], laidByText := true, laidKinds := [.data], laidTests := true, laidLooks := .later }
def PrefixCoversUptoCardSaid : Prop := Claim7.holds Tryd.pinned (.plain (OpenSpec.upto prefixCoversSpec)) prefixCoversUptoCard

/-- THE SECOND FORM's CARD OF 'speculumlaw12.FilterComms'. -/
def filterCommsUptoCard : Claim7 := { stood := { row := filterCommsUptoRow, standIns := [], harness := (true, "6b83a014eaace47959ddffc5fa892f483d8ce723ce7199c40a065c4711be0230"), looks := true }, kinds := [], alts := [], laidByText := true, laidKinds := [.data], laidTests := true, laidLooks := .later }
def FilterCommsUptoCardSaid : Prop := Claim7.holds Tryd.pinned (.plain (OpenSpec.upto filterCommsSpec)) filterCommsUptoCard

/-- THE SECOND FORM's CARD OF 'speculumlaw12.FilterTexts'. -/
def filterTextsUptoCard : Claim7 := { stood := { row := filterTextsUptoRow, standIns := [], harness := (true, "6b83a014eaace47959ddffc5fa892f483d8ce723ce7199c40a065c4711be0230"), looks := true }, kinds := [], alts := [], laidByText := true, laidKinds := [.data], laidTests := true, laidLooks := .later }
def FilterTextsUptoCardSaid : Prop := Claim7.holds Tryd.pinned (.plain (OpenSpec.upto filterTextsSpec)) filterTextsUptoCard

/-- THE SECOND FORM's CARD OF 'speculumlaw12.FilterWider'. -/
def filterWiderUptoCard : Claim7 := { stood := { row := filterWiderUptoRow, standIns := [], harness := (true, "6b83a014eaace47959ddffc5fa892f483d8ce723ce7199c40a065c4711be0230"), looks := true }, kinds := [], alts := [], laidByText := true, laidKinds := [.data], laidTests := true, laidLooks := .later }
def FilterWiderUptoCardSaid : Prop := Claim7.holds Tryd.pinned (.plain (OpenSpec.upto filterWiderSpec)) filterWiderUptoCard

/-- THE SECOND FORM's CARD OF 'speculumlaw02.PrefixPuts'. -/
def prefixPutsUptoCard : Claim7 := { stood := { row := prefixPutsUptoRow, standIns := [], harness := (true, "6b83a014eaace47959ddffc5fa892f483d8ce723ce7199c40a065c4711be0230"), looks := true }, kinds := [], alts := [], laidByText := true, laidKinds := [.data], laidTests := true, laidLooks := .later }
def PrefixPutsUptoCardSaid : Prop := Claim7.holds Tryd.pinned (.plain (OpenSpec.upto prefixPutsSpec)) prefixPutsUptoCard

/-- THE SECOND FORM's CARD OF 'speculumlaw12.FilterRanges'. -/
def filterRangesUptoCard : Claim7 := { stood := { row := filterRangesUptoRow, standIns := [], harness := (true, "6b83a014eaace47959ddffc5fa892f483d8ce723ce7199c40a065c4711be0230"), looks := true }, kinds := [], alts := [], laidByText := true, laidKinds := [.data], laidTests := true, laidLooks := .later }
def FilterRangesUptoCardSaid : Prop := Claim7.holds Tryd.pinned (.plain (OpenSpec.upto filterRangesSpec)) filterRangesUptoCard

/-- THE SECOND FORM's CARD OF 'speculumlaw13.LexKinds'. -/
def lexKindsUptoCard : Claim7 := { stood := { row := lexKindsUptoRow, standIns := [], harness := (true, "6b83a014eaace47959ddffc5fa892f483d8ce723ce7199c40a065c4711be0230"), looks := true }, kinds := [], alts := [], laidByText := true, laidKinds := [.data, .data, .pinned], laidTests := true, laidLooks := .later }
def LexKindsUptoCardSaid : Prop := Claim7.holds Tryd.pinned (.plain (OpenSpec.upto lexKindsSpec)) lexKindsUptoCard

/-- THE SECOND FORM's CARD OF 'speculumlaw13.LexQuotes'. -/
def lexQuotesUptoCard : Claim7 := { stood := { row := lexQuotesUptoRow, standIns := [], harness := (true, "6b83a014eaace47959ddffc5fa892f483d8ce723ce7199c40a065c4711be0230"), looks := true }, kinds := [], alts := [], laidByText := true, laidKinds := [.data, .data, .pinned], laidTests := true, laidLooks := .later }
def LexQuotesUptoCardSaid : Prop := Claim7.holds Tryd.pinned (.plain (OpenSpec.upto lexQuotesSpec)) lexQuotesUptoCard

/-- THE SECOND FORM's CARD OF 'speculumlaw13.LexScans'. -/
def lexScansUptoCard : Claim7 := { stood := { row := lexScansUptoRow, standIns := [], harness := (true, "6b83a014eaace47959ddffc5fa892f483d8ce723ce7199c40a065c4711be0230"), looks := true }, kinds := [], alts := [], laidByText := true, laidKinds := [.data, .data, .pinned], laidTests := true, laidLooks := .later }
def LexScansUptoCardSaid : Prop := Claim7.holds Tryd.pinned (.plain (OpenSpec.upto lexScansSpec)) lexScansUptoCard

/-- THE SECOND FORM's CARD OF 'speculumlaw13.LexTokens'. -/
def lexTokensUptoCard : Claim7 := { stood := { row := lexTokensUptoRow, standIns := [], harness := (true, "6b83a014eaace47959ddffc5fa892f483d8ce723ce7199c40a065c4711be0230"), looks := true }, kinds := [], alts := [], laidByText := true, laidKinds := [.data, .data, .pinned], laidTests := true, laidLooks := .later }
def LexTokensUptoCardSaid : Prop := Claim7.holds Tryd.pinned (.plain (OpenSpec.upto lexTokensSpec)) lexTokensUptoCard

/-- THE SECOND FORM's CARD OF 'speculumlaw12.FilterLists'. -/
def filterListsUptoCard : Claim7 := { stood := { row := filterListsUptoRow, standIns := [], harness := (true, "6b83a014eaace47959ddffc5fa892f483d8ce723ce7199c40a065c4711be0230"), looks := true }, kinds := [], alts := [], laidByText := true, laidKinds := [.data], laidTests := true, laidLooks := .later }
def FilterListsUptoCardSaid : Prop := Claim7.holds Tryd.pinned (.plain (OpenSpec.upto filterListsSpec)) filterListsUptoCard
end Rows
end Go.Proofs.YtnhkpnohadbcdaaDoor
