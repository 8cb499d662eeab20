/-
  DERIVED. GIVEN WITH THE SEED: THE CARDS: each row of YtdcldmblgbefnaaDoorRows.lean that lists a variable, with what it lists TIED to the program's text (the seventh form; the later family's looks); each row that meets fmt, with fmt's text TOLD by the authors' own Lean function (tested against real Go, not proved from fmt's source: count such statements apart). THE CARD IS WHAT COUNTS. Prove the row's statement (the work); the ties are given (YtdcldmblgbefnaaDoorTie.lean); close each card by the builder's one call (the guide's Derived/Test/ToyasCard.lean, 'card_holds'). Laid BY PROGRAM, IN A SANDBOX (cutbox-door.mjs). By AI agents, Wed Nov 11 2026. No macro, syntax, notation, axiom, sorry.
-/
import Derived.Test.YtdcldmblgbefnaaDoorRows
import GoSem.ClaimSeven
namespace Go.Proofs.YtdcldmblgbefnaaDoor
namespace Rows

/-- THE TIED CARD OF 'speculumlaw21.FsmSteps'. -/
def fsmStepsCard : Claim7 := { stood := { row := fsmStepsRow, standIns := [], harness := (true, "efd8ad891150e8b71d2ab918eeab07ed89e0074a84eb0e366c3430ad400c7512"), looks := false }, kinds := [], alts := [], laidByText := true, laidKinds := [.data], laidTests := true, laidLooks := .later }
def FsmStepsCardSaid : Prop := Claim7.holds Tryd.pinned (.plain (OpenSpec.ofChange fsmStepsSpec)) fsmStepsCard

/-- THE TIED CARD OF 'speculumlaw21.FsmFaults'. -/
def fsmFaultsCard : Claim7 := { stood := { row := fsmFaultsRow, standIns := [], harness := (true, "efd8ad891150e8b71d2ab918eeab07ed89e0074a84eb0e366c3430ad400c7512"), looks := false }, kinds := [], alts := [], laidByText := true, laidKinds := [.data], laidTests := true, laidLooks := .later }
def FsmFaultsCardSaid : Prop := Claim7.holds Tryd.pinned (.plain (OpenSpec.ofChange fsmFaultsSpec)) fsmFaultsCard

/-- THE TIED CARD OF 'speculumlaw21.FsmFalls'. -/
def fsmFallsCard : Claim7 := { stood := { row := fsmFallsRow, standIns := [], harness := (true, "efd8ad891150e8b71d2ab918eeab07ed89e0074a84eb0e366c3430ad400c7512"), looks := false }, kinds := [], alts := [], laidByText := true, laidKinds := [.data], laidTests := true, laidLooks := .later }
def FsmFallsCardSaid : Prop := Claim7.holds Tryd.pinned (.plain (OpenSpec.ofChange fsmFallsSpec)) fsmFallsCard

/-- THE TIED CARD OF 'speculumlaw01.OctetPuts'. -/
def octetPutsCard : Claim7 := { stood := { row := octetPutsRow, standIns := [], harness := (true, "efd8ad891150e8b71d2ab918eeab07ed89e0074a84eb0e366c3430ad400c7512"), looks := false }, kinds := [], alts := [], laidByText := true, laidKinds := [.data], laidTests := true, laidLooks := .later }
def OctetPutsCardSaid : Prop := Claim7.holds Tryd.pinned (.plain (OpenSpec.ofChange octetPutsSpec)) octetPutsCard

/-- THE TIED CARD OF 'speculumlaw01.OctetHex'. -/
def octetHexCard : Claim7 := { stood := { row := octetHexRow, standIns := [], harness := (true, "efd8ad891150e8b71d2ab918eeab07ed89e0074a84eb0e366c3430ad400c7512"), looks := false }, kinds := [], alts := [], laidByText := true, laidKinds := [.data], laidTests := true, laidLooks := .later }
def OctetHexCardSaid : Prop := Claim7.holds Tryd.pinned (.plain (OpenSpec.ofChange octetHexSpec)) octetHexCard

/-- THE TIED CARD OF 'speculumlaw01.OctetDigits'. -/
def octetDigitsCard : Claim7 := { stood := { row := octetDigitsRow, standIns := [], harness := (true, "efd8ad891150e8b71d2ab918eeab07ed89e0074a84eb0e366c3430ad400c7512"), looks := false }, kinds := [], alts := [], laidByText := true, laidKinds := [.data], laidTests := true, laidLooks := .later }
def OctetDigitsCardSaid : Prop := Claim7.holds Tryd.pinned (.plain (OpenSpec.ofChange octetDigitsSpec)) octetDigitsCard

/-- THE TIED CARD OF 'speculumlaw21.FsmLegal'. -/
def fsmLegalCard : Claim7 := { stood := { row := fsmLegalRow, standIns := [], harness := (true, "efd8ad891150e8b71d2ab918eeab07ed89e0074a84eb0e366c3430ad400c7512"), looks := false }, kinds := [], alts := [], laidByText := true, laidKinds := [.data], laidTests := true, laidLooks := .later }
def FsmLegalCardSaid : Prop := Claim7.holds Tryd.pinned (.plain (OpenSpec.ofChange fsmLegalSpec)) fsmLegalCard

/-- THE TIED CARD OF 'speculumlaw01.OctetTakes'. -/
def octetTakesCard : Claim7 := { stood := { row := octetTakesRow, standIns := [], harness := (true, "efd8ad891150e8b71d2ab918eeab07ed89e0074a84eb0e366c3430ad400c7512"), looks := false }, kinds := [], alts := [], laidByText := true, laidKinds := [.data], laidTests := true, laidLooks := .later }
def OctetTakesCardSaid : Prop := Claim7.holds Tryd.pinned (.plain (OpenSpec.ofChange octetTakesSpec)) octetTakesCard

/-- THE TIED CARD OF 'speculumlaw01.OctetNobody'. -/
def octetNobodyCard : Claim7 := { stood := { row := octetNobodyRow, standIns := [], harness := (true, "efd8ad891150e8b71d2ab918eeab07ed89e0074a84eb0e366c3430ad400c7512"), looks := false }, kinds := [], alts := [], laidByText := true, laidKinds := [.data], laidTests := true, laidLooks := .later }
def OctetNobodyCardSaid : Prop := Claim7.holds Tryd.pinned (.plain (OpenSpec.ofChange octetNobodySpec)) octetNobodyCard

/-- THE TIED CARD OF 'speculumlaw01.OctetReads'. -/
def octetReadsCard : Claim7 := { stood := { row := octetReadsRow, standIns := [], harness := (true, "efd8ad891150e8b71d2ab918eeab07ed89e0074a84eb0e366c3430ad400c7512"), looks := false }, kinds := [], alts := [], laidByText := true, laidKinds := [.data], laidTests := true, laidLooks := .later }
def OctetReadsCardSaid : Prop := Claim7.holds Tryd.pinned (.plain (OpenSpec.ofChange octetReadsSpec)) octetReadsCard

/-- THE TIED CARD OF 'speculumlaw01.OctetBack'. -/
def octetBackCard : Claim7 := { stood := { row := octetBackRow, standIns := [], harness := (true, "efd8ad891150e8b71d2ab918eeab07ed89e0074a84eb0e366c3430ad400c7512"), looks := false }, kinds := [], alts := [], laidByText := true, laidKinds := [.data], laidTests := true, laidLooks := .later }
def OctetBackCardSaid : Prop := Claim7.holds Tryd.pinned (.plain (OpenSpec.ofChange octetBackSpec)) octetBackCard

/-- THE TIED CARD OF 'speculumlaw07.FramePuts'. -/
def framePutsCard : Claim7 := { stood := { row := framePutsRow, standIns := [], harness := (true, "efd8ad891150e8b71d2ab918eeab07ed89e0074a84eb0e366c3430ad400c7512"), looks := false }, kinds := [], alts := [], laidByText := true, laidKinds := [.data], laidTests := true, laidLooks := .later }
def FramePutsCardSaid : Prop := Claim7.holds Tryd.pinned (.plain (OpenSpec.ofChange framePutsSpec)) framePutsCard

/-- THE TIED CARD OF 'speculumlaw07.FrameNext'. -/
def frameNextCard : Claim7 := { stood := { row := frameNextRow, standIns := [], harness := (true, "efd8ad891150e8b71d2ab918eeab07ed89e0074a84eb0e366c3430ad400c7512"), looks := false }, kinds := [], alts := [], laidByText := true, laidKinds := [.data], laidTests := true, laidLooks := .later }
def FrameNextCardSaid : Prop := Claim7.holds Tryd.pinned (.plain (OpenSpec.ofChange frameNextSpec)) frameNextCard

/-- THE TIED CARD OF 'speculumlaw08.NoticeTexts'. -/
def noticeTextsCard : Claim7 := { stood := { row := noticeTextsRow, standIns := [], harness := (true, "efd8ad891150e8b71d2ab918eeab07ed89e0074a84eb0e366c3430ad400c7512"), looks := false }, kinds := [], alts := [], laidByText := true, laidKinds := [.data], laidTests := true, laidLooks := .later }
def NoticeTextsCardSaid : Prop := Claim7.holds Tryd.pinned (.plain (OpenSpec.ofChange noticeTextsSpec)) noticeTextsCard

/-- THE TIED CARD OF 'speculumlaw08.NoticeNames'. -/
def noticeNamesCard : Claim7 := { stood := { row := noticeNamesRow, standIns := [], harness := (true, "efd8ad891150e8b71d2ab918eeab07ed89e0074a84eb0e366c3430ad400c7512"), looks := false }, kinds := [], alts := [], laidByText := true, laidKinds := [.data], laidTests := true, laidLooks := .later }
def NoticeNamesCardSaid : Prop := Claim7.holds Tryd.pinned (.plain (OpenSpec.ofChange noticeNamesSpec)) noticeNamesCard

/-- THE TIED CARD OF 'speculumlaw08.NoticePuts'. -/
def noticePutsCard : Claim7 := { stood := { row := noticePutsRow, standIns := [], harness := (true, "efd8ad891150e8b71d2ab918eeab07ed89e0074a84eb0e366c3430ad400c7512"), looks := false }, kinds := [], alts := [], laidByText := true, laidKinds := [.data], laidTests := true, laidLooks := .later }
def NoticePutsCardSaid : Prop := Claim7.holds Tryd.pinned (.plain (OpenSpec.ofChange noticePutsSpec)) noticePutsCard

/-- THE TIED CARD OF 'speculumlaw07.FrameStreams'. -/
def frameStreamsCard : Claim7 := { stood := { row := frameStreamsRow, standIns := [], harness := (true, "efd8ad891150e8b71d2ab918eeab07ed89e0074a84eb0e366c3430ad400c7512"), looks := false }, kinds := [], alts := [], laidByText := true, laidKinds := [.data], laidTests := true, laidLooks := .later }
def FrameStreamsCardSaid : Prop := Claim7.holds Tryd.pinned (.plain (OpenSpec.ofChange frameStreamsSpec)) frameStreamsCard

/-- THE TIED CARD OF 'speculumlaw07.FrameBack'. -/
def frameBackCard : Claim7 := { stood := { row := frameBackRow, standIns := [], harness := (true, "efd8ad891150e8b71d2ab918eeab07ed89e0074a84eb0e366c3430ad400c7512"), looks := false }, kinds := [], alts := [], laidByText := true, laidKinds := [.data], laidTests := true, laidLooks := .later }
def FrameBackCardSaid : Prop := Claim7.holds Tryd.pinned (.plain (OpenSpec.ofChange frameBackSpec)) frameBackCard

/-- THE TIED CARD OF 'speculumlaw07.FrameNobody'. -/
def frameNobodyCard : Claim7 := { stood := { row := frameNobodyRow, standIns := [], harness := (true, "efd8ad891150e8b71d2ab918eeab07ed89e0074a84eb0e366c3430ad400c7512"), looks := false }, kinds := [], alts := [], laidByText := true, laidKinds := [.data], laidTests := true, laidLooks := .later }
def FrameNobodyCardSaid : Prop := Claim7.holds Tryd.pinned (.plain (OpenSpec.ofChange frameNobodySpec)) frameNobodyCard

/-- THE TIED CARD OF 'speculumlaw08.NoticeReads'. -/
def noticeReadsCard : Claim7 := { stood := { row := noticeReadsRow, standIns := [], harness := (true, "efd8ad891150e8b71d2ab918eeab07ed89e0074a84eb0e366c3430ad400c7512"), looks := false }, kinds := [], alts := [], laidByText := true, laidKinds := [.data], laidTests := true, laidLooks := .later }
def NoticeReadsCardSaid : Prop := Claim7.holds Tryd.pinned (.plain (OpenSpec.ofChange noticeReadsSpec)) noticeReadsCard

/-- THE SECOND FORM's CARD OF 'speculumlaw21.FsmSteps'. -/
def fsmStepsUptoCard : Claim7 := { stood := { row := fsmStepsUptoRow, standIns := [], harness := (true, "efd8ad891150e8b71d2ab918eeab07ed89e0074a84eb0e366c3430ad400c7512"), looks := false }, kinds := [], alts := [], laidByText := true, laidKinds := [.data], laidTests := true, laidLooks := .later }
def FsmStepsUptoCardSaid : Prop := Claim7.holds Tryd.pinned (.plain (OpenSpec.upto fsmStepsSpec)) fsmStepsUptoCard

/-- THE SECOND FORM's CARD OF 'speculumlaw21.FsmFaults'. -/
def fsmFaultsUptoCard : Claim7 := { stood := { row := fsmFaultsUptoRow, standIns := [], harness := (true, "efd8ad891150e8b71d2ab918eeab07ed89e0074a84eb0e366c3430ad400c7512"), looks := false }, kinds := [], alts := [], laidByText := true, laidKinds := [.data], laidTests := true, laidLooks := .later }
def FsmFaultsUptoCardSaid : Prop := Claim7.holds Tryd.pinned (.plain (OpenSpec.upto fsmFaultsSpec)) fsmFaultsUptoCard

/-- THE SECOND FORM's CARD OF 'speculumlaw21.FsmFalls'. -/
def fsmFallsUptoCard : Claim7 := { stood := { row := fsmFallsUptoRow, standIns := [], harness := (true, "efd8ad891150e8b71d2ab918eeab07ed89e0074a84eb0e366c3430ad400c7512"), looks := false }, kinds := [], alts := [], laidByText := true, laidKinds := [.data], laidTests := true, laidLooks := .later }
def FsmFallsUptoCardSaid : Prop := Claim7.holds Tryd.pinned (.plain (OpenSpec.upto fsmFallsSpec)) fsmFallsUptoCard

/-- THE SECOND FORM's CARD OF 'speculumlaw01.OctetPuts'. -/
def octetPutsUptoCard : Claim7 := { stood := { row := octetPutsUptoRow, standIns := [], harness := (true, "efd8ad891150e8b71d2ab918eeab07ed89e0074a84eb0e366c3430ad400c7512"), looks := false }, kinds := [], alts := [], laidByText := true, laidKinds := [.data], laidTests := true, laidLooks := .later }
def OctetPutsUptoCardSaid : Prop := Claim7.holds Tryd.pinned (.plain (OpenSpec.upto octetPutsSpec)) octetPutsUptoCard

/-- THE SECOND FORM's CARD OF 'speculumlaw01.OctetHex'. -/
def octetHexUptoCard : Claim7 := { stood := { row := octetHexUptoRow, standIns := [], harness := (true, "efd8ad891150e8b71d2ab918eeab07ed89e0074a84eb0e366c3430ad400c7512"), looks := false }, kinds := [], alts := [], laidByText := true, laidKinds := [.data], laidTests := true, laidLooks := .later }
def OctetHexUptoCardSaid : Prop := Claim7.holds Tryd.pinned (.plain (OpenSpec.upto octetHexSpec)) octetHexUptoCard

/-- THE SECOND FORM's CARD OF 'speculumlaw01.OctetDigits'. -/
def octetDigitsUptoCard : Claim7 := { stood := { row := octetDigitsUptoRow, standIns := [], harness := (true, "efd8ad891150e8b71d2ab918eeab07ed89e0074a84eb0e366c3430ad400c7512"), looks := false }, kinds := [], alts := [], laidByText := true, laidKinds := [.data], laidTests := true, laidLooks := .later }
def OctetDigitsUptoCardSaid : Prop := Claim7.holds Tryd.pinned (.plain (OpenSpec.upto octetDigitsSpec)) octetDigitsUptoCard

/-- THE SECOND FORM's CARD OF 'speculumlaw21.FsmLegal'. -/
def fsmLegalUptoCard : Claim7 := { stood := { row := fsmLegalUptoRow, standIns := [], harness := (true, "efd8ad891150e8b71d2ab918eeab07ed89e0074a84eb0e366c3430ad400c7512"), looks := false }, kinds := [], alts := [], laidByText := true, laidKinds := [.data], laidTests := true, laidLooks := .later }
def FsmLegalUptoCardSaid : Prop := Claim7.holds Tryd.pinned (.plain (OpenSpec.upto fsmLegalSpec)) fsmLegalUptoCard

/-- THE SECOND FORM's CARD OF 'speculumlaw01.OctetTakes'. -/
def octetTakesUptoCard : Claim7 := { stood := { row := octetTakesUptoRow, standIns := [], harness := (true, "efd8ad891150e8b71d2ab918eeab07ed89e0074a84eb0e366c3430ad400c7512"), looks := false }, kinds := [], alts := [], laidByText := true, laidKinds := [.data], laidTests := true, laidLooks := .later }
def OctetTakesUptoCardSaid : Prop := Claim7.holds Tryd.pinned (.plain (OpenSpec.upto octetTakesSpec)) octetTakesUptoCard

/-- THE SECOND FORM's CARD OF 'speculumlaw01.OctetNobody'. -/
def octetNobodyUptoCard : Claim7 := { stood := { row := octetNobodyUptoRow, standIns := [], harness := (true, "efd8ad891150e8b71d2ab918eeab07ed89e0074a84eb0e366c3430ad400c7512"), looks := false }, kinds := [], alts := [], laidByText := true, laidKinds := [.data], laidTests := true, laidLooks := .later }
def OctetNobodyUptoCardSaid : Prop := Claim7.holds Tryd.pinned (.plain (OpenSpec.upto octetNobodySpec)) octetNobodyUptoCard

/-- THE SECOND FORM's CARD OF 'speculumlaw01.OctetReads'. -/
def octetReadsUptoCard : Claim7 := { stood := { row := octetReadsUptoRow, standIns := [], harness := (true, "efd8ad891150e8b71d2ab918eeab07ed89e0074a84eb0e366c3430ad400c7512"), looks := false }, kinds := [], alts := [], laidByText := true, laidKinds := [.data], laidTests := true, laidLooks := .later }
def OctetReadsUptoCardSaid : Prop := Claim7.holds Tryd.pinned (.plain (OpenSpec.upto octetReadsSpec)) octetReadsUptoCard

/-- THE SECOND FORM's CARD OF 'speculumlaw01.OctetBack'. -/
def octetBackUptoCard : Claim7 := { stood := { row := octetBackUptoRow, standIns := [], harness := (true, "efd8ad891150e8b71d2ab918eeab07ed89e0074a84eb0e366c3430ad400c7512"), looks := false }, kinds := [], alts := [], laidByText := true, laidKinds := [.data], laidTests := true, laidLooks := .later }
def OctetBackUptoCardSaid : Prop := Claim7.holds Tryd.pinned (.plain (OpenSpec.upto octetBackSpec)) octetBackUptoCard

/-- THE SECOND FORM's CARD OF 'speculumlaw07.FramePuts'. -/
def framePutsUptoCard : Claim7 := { stood := { row := framePutsUptoRow, standIns := [], harness := (true, "efd8ad891150e8b71d2ab918eeab07ed89e0074a84eb0e366c3430ad400c7512"), looks := false }, kinds := [], alts := [], laidByText := true, laidKinds := [.data], laidTests := true, laidLooks := .later }
def FramePutsUptoCardSaid : Prop := Claim7.holds Tryd.pinned (.plain (OpenSpec.upto framePutsSpec)) framePutsUptoCard

/-- THE SECOND FORM's CARD OF 'speculumlaw07.FrameNext'. -/
def frameNextUptoCard : Claim7 := { stood := { row := frameNextUptoRow, standIns := [], harness := (true, "efd8ad891150e8b71d2ab918eeab07ed89e0074a84eb0e366c3430ad400c7512"), looks := false }, kinds := [], alts := [], laidByText := true, laidKinds := [.data], laidTests := true, laidLooks := .later }
def FrameNextUptoCardSaid : Prop := Claim7.holds Tryd.pinned (.plain (OpenSpec.upto frameNextSpec)) frameNextUptoCard

/-- THE SECOND FORM's CARD OF 'speculumlaw08.NoticeTexts'. -/
def noticeTextsUptoCard : Claim7 := { stood := { row := noticeTextsUptoRow, standIns := [], harness := (true, "efd8ad891150e8b71d2ab918eeab07ed89e0074a84eb0e366c3430ad400c7512"), looks := false }, kinds := [], alts := [], laidByText := true, laidKinds := [.data], laidTests := true, laidLooks := .later }
def NoticeTextsUptoCardSaid : Prop := Claim7.holds Tryd.pinned (.plain (OpenSpec.upto noticeTextsSpec)) noticeTextsUptoCard

/-- THE SECOND FORM's CARD OF 'speculumlaw08.NoticeNames'. -/
def noticeNamesUptoCard : Claim7 := { stood := { row := noticeNamesUptoRow, standIns := [], harness := (true, "efd8ad891150e8b71d2ab918eeab07ed89e0074a84eb0e366c3430ad400c7512"), looks := false }, kinds := [], alts := [], laidByText := true, laidKinds := [.data], laidTests := true, laidLooks := .later }
def NoticeNamesUptoCardSaid : Prop := Claim7.holds Tryd.pinned (.plain (OpenSpec.upto noticeNamesSpec)) noticeNamesUptoCard

/-- THE SECOND FORM's CARD OF 'speculumlaw08.NoticePuts'. -/
def noticePutsUptoCard : Claim7 := { stood := { row := noticePutsUptoRow, standIns := [], harness := (true, "efd8ad891150e8b71d2ab918eeab07ed89e0074a84eb0e366c3430ad400c7512"), looks := false }, kinds := [], alts := [], laidByText := true, laidKinds := [.data], laidTests := true, laidLooks := .later }
def NoticePutsUptoCardSaid : Prop := Claim7.holds Tryd.pinned (.plain (OpenSpec.upto noticePutsSpec)) noticePutsUptoCard

/-- THE SECOND FORM's CARD OF 'speculumlaw07.FrameStreams'. -/
def frameStreamsUptoCard : Claim7 := { stood := { row := frameStreamsUptoRow, standIns := [], harness := (true, "efd8ad891150e8b71d2ab918eeab07ed89e0074a84eb0e366c3430ad400c7512"), looks := false }, kinds := [], alts := [], laidByText := true, laidKinds := [.data], laidTests := true, laidLooks := .later }
def FrameStreamsUptoCardSaid : Prop := Claim7.holds Tryd.pinned (.plain (OpenSpec.upto frameStreamsSpec)) frameStreamsUptoCard

/-- THE SECOND FORM's CARD OF 'speculumlaw07.FrameBack'. -/
def frameBackUptoCard : Claim7 := { stood := { row := frameBackUptoRow, standIns := [], harness := (true, "efd8ad891150e8b71d2ab918eeab07ed89e0074a84eb0e366c3430ad400c7512"), looks := false }, kinds := [], alts := [], laidByText := true, laidKinds := [.data], laidTests := true, laidLooks := .later }
def FrameBackUptoCardSaid : Prop := Claim7.holds Tryd.pinned (.plain (OpenSpec.upto frameBackSpec)) frameBackUptoCard

/-- THE SECOND FORM's CARD OF 'speculumlaw07.FrameNobody'. -/
def frameNobodyUptoCard : Claim7 := { stood := { row := frameNobodyUptoRow, standIns := [], harness := (true, "efd8ad891150e8b71d2ab918eeab07ed89e0074a84eb0e366c3430ad400c7512"), looks := false }, kinds := [], alts := [], laidByText := true, laidKinds := [.data], laidTests := true, laidLooks := .later }
def FrameNobodyUptoCardSaid : Prop := Claim7.holds Tryd.pinned (.plain (OpenSpec.upto frameNobodySpec)) frameNobodyUptoCard

/-- THE SECOND FORM's CARD OF 'speculumlaw08.NoticeReads'. -/
def noticeReadsUptoCard : Claim7 := { stood := { row := noticeReadsUptoRow, standIns := [], harness := (true, "efd8ad891150e8b71d2ab918eeab07ed89e0074a84eb0e366c3430ad400c7512"), looks := false }, kinds := [], alts := [], laidByText := true, laidKinds := [.data], laidTests := true, laidLooks := .later }
def NoticeReadsUptoCardSaid : Prop := Claim7.holds Tryd.pinned (.plain (OpenSpec.upto noticeReadsSpec)) noticeReadsUptoCard
end Rows
end Go.Proofs.YtdcldmblgbefnaaDoor
