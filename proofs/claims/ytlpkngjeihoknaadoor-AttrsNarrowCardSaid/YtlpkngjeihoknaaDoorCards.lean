/-
  DERIVED. GIVEN WITH THE SEED: THE CARDS: each row of YtlpkngjeihoknaaDoorRows.lean that lists a variable, with what it lists TIED to the program's text (the seventh form; the later family's looks); each row that meets fmt, with fmt's text TOLD by the authors' own Lean function (tested against real Go, not proved from fmt's source: count such statements apart). THE CARD IS WHAT COUNTS. Prove the row's statement (the work); the ties are given (YtlpkngjeihoknaaDoorTie.lean); close each card by the builder's one call (the guide's Derived/Test/ToyasCard.lean, 'card_holds'). Laid BY PROGRAM, IN A SANDBOX (cutbox-door.mjs). By AI agents, Wed Nov 11 2026. No macro, syntax, notation, axiom, sorry.
-/
import Derived.Test.YtlpkngjeihoknaaDoorRows
import GoSem.ClaimSeven
namespace Go.Proofs.YtlpkngjeihoknaaDoor
namespace Rows

/-- THE TIED CARD OF 'speculumlaw03.AspathTexts'. -/
def aspathTextsCard : Claim7 := { stood := { row := aspathTextsRow, standIns := [], harness := (true, "a1b8f88f2b492f3a3f4b6b3ef60e16ddf0451a92d959f2b4a2295eb194d37384"), looks := false }, kinds := [], alts := [], laidByText := true, laidKinds := [.data], laidTests := true, laidLooks := .later }
def AspathTextsCardSaid : Prop := Claim7.holds Tryd.pinned (.plain (OpenSpec.ofChange aspathTextsSpec)) aspathTextsCard

/-- THE TIED CARD OF 'speculumlaw03.AspathParses'. -/
def aspathParsesCard : Claim7 := { stood := { row := aspathParsesRow, standIns := [], harness := (true, "a1b8f88f2b492f3a3f4b6b3ef60e16ddf0451a92d959f2b4a2295eb194d37384"), looks := false }, kinds := [], alts := [], laidByText := true, laidKinds := [.data], laidTests := true, laidLooks := .later }
def AspathParsesCardSaid : Prop := Claim7.holds Tryd.pinned (.plain (OpenSpec.ofChange aspathParsesSpec)) aspathParsesCard

/-- THE TIED CARD OF 'speculumlaw03.AspathSame'. -/
def aspathSameCard : Claim7 := { stood := { row := aspathSameRow, standIns := [], harness := (true, "a1b8f88f2b492f3a3f4b6b3ef60e16ddf0451a92d959f2b4a2295eb194d37384"), looks := false }, kinds := [], alts := [], laidByText := true, laidKinds := [.data], laidTests := true, laidLooks := .later }
def AspathSameCardSaid : Prop := Claim7.holds Tryd.pinned (.plain (OpenSpec.ofChange aspathSameSpec)) aspathSameCard

/-- THE TIED CARD OF 'speculumlaw03.AspathMerges'. -/
def aspathMergesCard : Claim7 := { stood := { row := aspathMergesRow, standIns := [], harness := (true, "a1b8f88f2b492f3a3f4b6b3ef60e16ddf0451a92d959f2b4a2295eb194d37384"), looks := false }, kinds := [], alts := [], laidByText := true, laidKinds := [.data], laidTests := true, laidLooks := .later }
def AspathMergesCardSaid : Prop := Claim7.holds Tryd.pinned (.plain (OpenSpec.ofChange aspathMergesSpec)) aspathMergesCard

/-- THE TIED CARD OF 'speculumlaw03.AspathParts'. -/
def aspathPartsCard : Claim7 := { stood := { row := aspathPartsRow, standIns := [], harness := (true, "a1b8f88f2b492f3a3f4b6b3ef60e16ddf0451a92d959f2b4a2295eb194d37384"), looks := false }, kinds := [], alts := [], laidByText := true, laidKinds := [.data], laidTests := true, laidLooks := .later }
def AspathPartsCardSaid : Prop := Claim7.holds Tryd.pinned (.plain (OpenSpec.ofChange aspathPartsSpec)) aspathPartsCard

/-- THE TIED CARD OF 'speculumlaw03.AspathPuts'. -/
def aspathPutsCard : Claim7 := { stood := { row := aspathPutsRow, standIns := [], harness := (true, "a1b8f88f2b492f3a3f4b6b3ef60e16ddf0451a92d959f2b4a2295eb194d37384"), looks := false }, kinds := [], alts := [], laidByText := true, laidKinds := [.data], laidTests := true, laidLooks := .later }
def AspathPutsCardSaid : Prop := Claim7.holds Tryd.pinned (.plain (OpenSpec.ofChange aspathPutsSpec)) aspathPutsCard

/-- THE TIED CARD OF 'speculumlaw03.AspathReads'. -/
def aspathReadsCard : Claim7 := { stood := { row := aspathReadsRow, standIns := [], harness := (true, "a1b8f88f2b492f3a3f4b6b3ef60e16ddf0451a92d959f2b4a2295eb194d37384"), looks := false }, kinds := [], alts := [], laidByText := true, laidKinds := [.data], laidTests := true, laidLooks := .later }
def AspathReadsCardSaid : Prop := Claim7.holds Tryd.pinned (.plain (OpenSpec.ofChange aspathReadsSpec)) aspathReadsCard

/-- THE TIED CARD OF 'speculumlaw03.AspathPrepends'. -/
def aspathPrependsCard : Claim7 := { stood := { row := aspathPrependsRow, standIns := [], harness := (true, "a1b8f88f2b492f3a3f4b6b3ef60e16ddf0451a92d959f2b4a2295eb194d37384"), looks := false }, kinds := [], alts := [], laidByText := true, laidKinds := [.data], laidTests := true, laidLooks := .later }
def AspathPrependsCardSaid : Prop := Claim7.holds Tryd.pinned (.plain (OpenSpec.ofChange aspathPrependsSpec)) aspathPrependsCard

/-- THE TIED CARD OF 'speculumlaw04.AttrsRight'. -/
def attrsRightCard : Claim7 := { stood := { row := attrsRightRow, standIns := [], harness := (true, "a1b8f88f2b492f3a3f4b6b3ef60e16ddf0451a92d959f2b4a2295eb194d37384"), looks := false }, kinds := [], alts := [], laidByText := true, laidKinds := [.data], laidTests := true, laidLooks := .later }
def AttrsRightCardSaid : Prop := Claim7.holds Tryd.pinned (.plain (OpenSpec.ofChange attrsRightSpec)) attrsRightCard

/-- THE TIED CARD OF 'speculumlaw04.AttrsSame'. -/
def attrsSameCard : Claim7 := { stood := { row := attrsSameRow, standIns := [], harness := (true, "a1b8f88f2b492f3a3f4b6b3ef60e16ddf0451a92d959f2b4a2295eb194d37384"), looks := false }, kinds := [], alts := [], laidByText := true, laidKinds := [.data], laidTests := true, laidLooks := .later }
def AttrsSameCardSaid : Prop := Claim7.holds Tryd.pinned (.plain (OpenSpec.ofChange attrsSameSpec)) attrsSameCard

/-- THE TIED CARD OF 'speculumlaw04.AttrsPuts'. -/
def attrsPutsCard : Claim7 := { stood := { row := attrsPutsRow, standIns := [], harness := (true, "a1b8f88f2b492f3a3f4b6b3ef60e16ddf0451a92d959f2b4a2295eb194d37384"), looks := false }, kinds := [], alts := [], laidByText := true, laidKinds := [.data], laidTests := true, laidLooks := .later }
def AttrsPutsCardSaid : Prop := Claim7.holds Tryd.pinned (.plain (OpenSpec.ofChange attrsPutsSpec)) attrsPutsCard

/-- THE TIED CARD OF 'speculumlaw04.AttrsBack'. -/
def attrsBackCard : Claim7 := { stood := { row := attrsBackRow, standIns := [], harness := (true, "a1b8f88f2b492f3a3f4b6b3ef60e16ddf0451a92d959f2b4a2295eb194d37384"), looks := false }, kinds := [], alts := [], laidByText := true, laidKinds := [.data], laidTests := true, laidLooks := .later }
def AttrsBackCardSaid : Prop := Claim7.holds Tryd.pinned (.plain (OpenSpec.ofChange attrsBackSpec)) attrsBackCard

/-- THE TIED CARD OF 'speculumlaw04.AttrsNarrow'. -/
def attrsNarrowCard : Claim7 := { stood := { row := attrsNarrowRow, standIns := [], harness := (true, "a1b8f88f2b492f3a3f4b6b3ef60e16ddf0451a92d959f2b4a2295eb194d37384"), looks := false }, kinds := [], alts := [], laidByText := true, laidKinds := [.data], laidTests := true, laidLooks := .later }
def AttrsNarrowCardSaid : Prop := Claim7.holds Tryd.pinned (.plain (OpenSpec.ofChange attrsNarrowSpec)) attrsNarrowCard

/-- THE SECOND FORM's CARD OF 'speculumlaw03.AspathTexts'. -/
def aspathTextsUptoCard : Claim7 := { stood := { row := aspathTextsUptoRow, standIns := [], harness := (true, "a1b8f88f2b492f3a3f4b6b3ef60e16ddf0451a92d959f2b4a2295eb194d37384"), looks := false }, kinds := [], alts := [], laidByText := true, laidKinds := [.data], laidTests := true, laidLooks := .later }
def AspathTextsUptoCardSaid : Prop := Claim7.holds Tryd.pinned (.plain (OpenSpec.upto aspathTextsSpec)) aspathTextsUptoCard

/-- THE SECOND FORM's CARD OF 'speculumlaw03.AspathParses'. -/
def aspathParsesUptoCard : Claim7 := { stood := { row := aspathParsesUptoRow, standIns := [], harness := (true, "a1b8f88f2b492f3a3f4b6b3ef60e16ddf0451a92d959f2b4a2295eb194d37384"), looks := false }, kinds := [], alts := [], laidByText := true, laidKinds := [.data], laidTests := true, laidLooks := .later }
def AspathParsesUptoCardSaid : Prop := Claim7.holds Tryd.pinned (.plain (OpenSpec.upto aspathParsesSpec)) aspathParsesUptoCard

/-- THE SECOND FORM's CARD OF 'speculumlaw03.AspathSame'. -/
def aspathSameUptoCard : Claim7 := { stood := { row := aspathSameUptoRow, standIns := [], harness := (true, "a1b8f88f2b492f3a3f4b6b3ef60e16ddf0451a92d959f2b4a2295eb194d37384"), looks := false }, kinds := [], alts := [], laidByText := true, laidKinds := [.data], laidTests := true, laidLooks := .later }
def AspathSameUptoCardSaid : Prop := Claim7.holds Tryd.pinned (.plain (OpenSpec.upto aspathSameSpec)) aspathSameUptoCard

/-- THE SECOND FORM's CARD OF 'speculumlaw03.AspathMerges'. -/
def aspathMergesUptoCard : Claim7 := { stood := { row := aspathMergesUptoRow, standIns := [], harness := (true, "a1b8f88f2b492f3a3f4b6b3ef60e16ddf0451a92d959f2b4a2295eb194d37384"), looks := false }, kinds := [], alts := [], laidByText := true, laidKinds := [.data], laidTests := true, laidLooks := .later }
def AspathMergesUptoCardSaid : Prop := Claim7.holds Tryd.pinned (.plain (OpenSpec.upto aspathMergesSpec)) aspathMergesUptoCard

/-- THE SECOND FORM's CARD OF 'speculumlaw03.AspathParts'. -/
def aspathPartsUptoCard : Claim7 := { stood := { row := aspathPartsUptoRow, standIns := [], harness := (true, "a1b8f88f2b492f3a3f4b6b3ef60e16ddf0451a92d959f2b4a2295eb194d37384"), looks := false }, kinds := [], alts := [], laidByText := true, laidKinds := [.data], laidTests := true, laidLooks := .later }
def AspathPartsUptoCardSaid : Prop := Claim7.holds Tryd.pinned (.plain (OpenSpec.upto aspathPartsSpec)) aspathPartsUptoCard

/-- THE SECOND FORM's CARD OF 'speculumlaw03.AspathPuts'. -/
def aspathPutsUptoCard : Claim7 := { stood := { row := aspathPutsUptoRow, standIns := [], harness := (true, "a1b8f88f2b492f3a3f4b6b3ef60e16ddf0451a92d959f2b4a2295eb194d37384"), looks := false }, kinds := [], alts := [], laidByText := true, laidKinds := [.data], laidTests := true, laidLooks := .later }
def AspathPutsUptoCardSaid : Prop := Claim7.holds Tryd.pinned (.plain (OpenSpec.upto aspathPutsSpec)) aspathPutsUptoCard

/-- THE SECOND FORM's CARD OF 'speculumlaw03.AspathReads'. -/
def aspathReadsUptoCard : Claim7 := { stood := { row := aspathReadsUptoRow, standIns := [], harness := (true, "a1b8f88f2b492f3a3f4b6b3ef60e16ddf0451a92d959f2b4a2295eb194d37384"), looks := false }, kinds := [], alts := [], laidByText := true, laidKinds := [.data], laidTests := true, laidLooks := .later }
def AspathReadsUptoCardSaid : Prop := Claim7.holds Tryd.pinned (.plain (OpenSpec.upto aspathReadsSpec)) aspathReadsUptoCard

/-- THE SECOND FORM's CARD OF 'speculumlaw03.AspathPrepends'. -/
def aspathPrependsUptoCard : Claim7 := { stood := { row := aspathPrependsUptoRow, standIns := [], harness := (true, "a1b8f88f2b492f3a3f4b6b3ef60e16ddf0451a92d959f2b4a2295eb194d37384"), looks := false }, kinds := [], alts := [], laidByText := true, laidKinds := [.data], laidTests := true, laidLooks := .later }
def AspathPrependsUptoCardSaid : Prop := Claim7.holds Tryd.pinned (.plain (OpenSpec.upto aspathPrependsSpec)) aspathPrependsUptoCard

/-- THE SECOND FORM's CARD OF 'speculumlaw04.AttrsRight'. -/
def attrsRightUptoCard : Claim7 := { stood := { row := attrsRightUptoRow, standIns := [], harness := (true, "a1b8f88f2b492f3a3f4b6b3ef60e16ddf0451a92d959f2b4a2295eb194d37384"), looks := false }, kinds := [], alts := [], laidByText := true, laidKinds := [.data], laidTests := true, laidLooks := .later }
def AttrsRightUptoCardSaid : Prop := Claim7.holds Tryd.pinned (.plain (OpenSpec.upto attrsRightSpec)) attrsRightUptoCard

/-- THE SECOND FORM's CARD OF 'speculumlaw04.AttrsSame'. -/
def attrsSameUptoCard : Claim7 := { stood := { row := attrsSameUptoRow, standIns := [], harness := (true, "a1b8f88f2b492f3a3f4b6b3ef60e16ddf0451a92d959f2b4a2295eb194d37384"), looks := false }, kinds := [], alts := [], laidByText := true, laidKinds := [.data], laidTests := true, laidLooks := .later }
def AttrsSameUptoCardSaid : Prop := Claim7.holds Tryd.pinned (.plain (OpenSpec.upto attrsSameSpec)) attrsSameUptoCard

/-- THE SECOND FORM's CARD OF 'speculumlaw04.AttrsPuts'. -/
def attrsPutsUptoCard : Claim7 := { stood := { row := attrsPutsUptoRow, standIns := [], harness := (true, "a1b8f88f2b492f3a3f4b6b3ef60e16ddf0451a92d959f2b4a2295eb194d37384"), looks := false }, kinds := [], alts := [], laidByText := true, laidKinds := [.data], laidTests := true, laidLooks := .later }
def AttrsPutsUptoCardSaid : Prop := Claim7.holds Tryd.pinned (.plain (OpenSpec.upto attrsPutsSpec)) attrsPutsUptoCard

/-- THE SECOND FORM's CARD OF 'speculumlaw04.AttrsBack'. -/
def attrsBackUptoCard : Claim7 := { stood := { row := attrsBackUptoRow, standIns := [], harness := (true, "a1b8f88f2b492f3a3f4b6b3ef60e16ddf0451a92d959f2b4a2295eb194d37384"), looks := false }, kinds := [], alts := [], laidByText := true, laidKinds := [.data], laidTests := true, laidLooks := .later }
def AttrsBackUptoCardSaid : Prop := Claim7.holds Tryd.pinned (.plain (OpenSpec.upto attrsBackSpec)) attrsBackUptoCard

/-- THE SECOND FORM's CARD OF 'speculumlaw04.AttrsNarrow'. -/
def attrsNarrowUptoCard : Claim7 := { stood := { row := attrsNarrowUptoRow, standIns := [], harness := (true, "a1b8f88f2b492f3a3f4b6b3ef60e16ddf0451a92d959f2b4a2295eb194d37384"), looks := false }, kinds := [], alts := [], laidByText := true, laidKinds := [.data], laidTests := true, laidLooks := .later }
def AttrsNarrowUptoCardSaid : Prop := Claim7.holds Tryd.pinned (.plain (OpenSpec.upto attrsNarrowSpec)) attrsNarrowUptoCard
end Rows
end Go.Proofs.YtlpkngjeihoknaaDoor
