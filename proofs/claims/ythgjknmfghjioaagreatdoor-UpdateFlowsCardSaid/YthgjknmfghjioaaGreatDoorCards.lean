/-
  DERIVED. GIVEN WITH THE SEED: THE CARDS: each row of YthgjknmfghjioaaGreatDoorRows.lean that lists a variable, with what it lists TIED to the program's text (the seventh form; the later family's looks); each row that meets fmt, with fmt's text TOLD by the authors' own Lean function (tested against real Go, not proved from fmt's source: count such statements apart). THE CARD IS WHAT COUNTS. Prove the row's statement (the work); the ties are given (YthgjknmfghjioaaGreatDoorTie.lean); close each card by the builder's one call (the guide's Derived/Test/ToyasCard.lean, 'card_holds'). Laid BY PROGRAM, IN A SANDBOX (cutbox-door.mjs). By AI agents, Wed Nov 11 2026. No macro, syntax, notation, axiom, sorry.
-/
import Derived.Test.YthgjknmfghjioaaGreatDoorRows
import GoSem.ClaimSeven
namespace Go.Proofs.YthgjknmfghjioaaGreatDoor
namespace Rows

/-- THE TIED CARD OF 'speculumlaw24.PeerPlays'. -/
def peerPlaysCard : Claim7 := { stood := { row := peerPlaysRow, standIns := [], harness := (true, "d81f44b5e7ca49d5e6d561e1319011d0aac2aac1ea45ffd37f806515d0a0739d"), looks := false }, kinds := [], alts := [], laidByText := true, laidKinds := [.data, .data, .data], laidTests := true, laidLooks := .later }
def PeerPlaysCardSaid : Prop := Claim7.holds Tryz.pinned (.plain (OpenSpec.ofChange peerPlaysSpec)) peerPlaysCard

/-- THE TIED CARD OF 'speculumlaw24.PeerNobody'. -/
def peerNobodyCard : Claim7 := { stood := { row := peerNobodyRow, standIns := [], harness := (true, "d81f44b5e7ca49d5e6d561e1319011d0aac2aac1ea45ffd37f806515d0a0739d"), looks := false }, kinds := [], alts := [], laidByText := true, laidKinds := [.data, .data, .data], laidTests := true, laidLooks := .later }
def PeerNobodyCardSaid : Prop := Claim7.holds Tryz.pinned (.plain (OpenSpec.ofChange peerNobodySpec)) peerNobodyCard

/-- THE TIED CARD OF 'speculumlaw05.UpdatePuts'. -/
def updatePutsCard : Claim7 := { stood := { row := updatePutsRow, standIns := [], harness := (true, "d81f44b5e7ca49d5e6d561e1319011d0aac2aac1ea45ffd37f806515d0a0739d"), looks := false }, kinds := [], alts := [], laidByText := true, laidKinds := [.data], laidTests := true, laidLooks := .later }
def UpdatePutsCardSaid : Prop := Claim7.holds Tryz.pinned (.plain (OpenSpec.ofChange updatePutsSpec)) updatePutsCard

/-- THE TIED CARD OF 'speculumlaw05.UpdateBack'. -/
def updateBackCard : Claim7 := { stood := { row := updateBackRow, standIns := [], harness := (true, "d81f44b5e7ca49d5e6d561e1319011d0aac2aac1ea45ffd37f806515d0a0739d"), looks := false }, kinds := [], alts := [], laidByText := true, laidKinds := [.data], laidTests := true, laidLooks := .later }
def UpdateBackCardSaid : Prop := Claim7.holds Tryz.pinned (.plain (OpenSpec.ofChange updateBackSpec)) updateBackCard

/-- THE TIED CARD OF 'speculumlaw05.UpdateFlows'. -/
def updateFlowsCard : Claim7 := { stood := { row := updateFlowsRow, standIns := [], harness := (true, "d81f44b5e7ca49d5e6d561e1319011d0aac2aac1ea45ffd37f806515d0a0739d"), looks := false }, kinds := [], alts := [], laidByText := true, laidKinds := [.data], laidTests := true, laidLooks := .later }
def UpdateFlowsCardSaid : Prop := Claim7.holds Tryz.pinned (.plain (OpenSpec.ofChange updateFlowsSpec)) updateFlowsCard

/-- THE TIED CARD OF 'speculumlaw23.SessionLegal'. -/
def sessionLegalCard : Claim7 := { stood := { row := sessionLegalRow, standIns := [], harness := (true, "d81f44b5e7ca49d5e6d561e1319011d0aac2aac1ea45ffd37f806515d0a0739d"), looks := false }, kinds := [], alts := [], laidByText := true, laidKinds := [.data, .data, .data], laidTests := true, laidLooks := .later }
def SessionLegalCardSaid : Prop := Claim7.holds Tryz.pinned (.plain (OpenSpec.ofChange sessionLegalSpec)) sessionLegalCard

/-- THE TIED CARD OF 'speculumlaw23.SessionStops'. -/
def sessionStopsCard : Claim7 := { stood := { row := sessionStopsRow, standIns := [], harness := (true, "d81f44b5e7ca49d5e6d561e1319011d0aac2aac1ea45ffd37f806515d0a0739d"), looks := false }, kinds := [], alts := [], laidByText := true, laidKinds := [.data, .data, .data], laidTests := true, laidLooks := .later }
def SessionStopsCardSaid : Prop := Claim7.holds Tryz.pinned (.plain (OpenSpec.ofChange sessionStopsSpec)) sessionStopsCard

/-- THE TIED CARD OF 'speculumlaw23.SessionPlays'. -/
def sessionPlaysCard : Claim7 := { stood := { row := sessionPlaysRow, standIns := [], harness := (true, "d81f44b5e7ca49d5e6d561e1319011d0aac2aac1ea45ffd37f806515d0a0739d"), looks := false }, kinds := [], alts := [], laidByText := true, laidKinds := [.data, .data, .data], laidTests := true, laidLooks := .later }
def SessionPlaysCardSaid : Prop := Claim7.holds Tryz.pinned (.plain (OpenSpec.ofChange sessionPlaysSpec)) sessionPlaysCard

/-- THE TIED CARD OF 'speculumlaw24.PeerCuts'. -/
def peerCutsCard : Claim7 := { stood := { row := peerCutsRow, standIns := [], harness := (true, "d81f44b5e7ca49d5e6d561e1319011d0aac2aac1ea45ffd37f806515d0a0739d"), looks := false }, kinds := [], alts := [], laidByText := true, laidKinds := [.data, .data, .data], laidTests := true, laidLooks := .later }
def PeerCutsCardSaid : Prop := Claim7.holds Tryz.pinned (.plain (OpenSpec.ofChange peerCutsSpec)) peerCutsCard

/-- THE TIED CARD OF 'speculumlaw24.PeerOne'. -/
def peerOneCard : Claim7 := { stood := { row := peerOneRow, standIns := [], harness := (true, "d81f44b5e7ca49d5e6d561e1319011d0aac2aac1ea45ffd37f806515d0a0739d"), looks := false }, kinds := [], alts := [], laidByText := true, laidKinds := [.data, .data, .data], laidTests := true, laidLooks := .later }
def PeerOneCardSaid : Prop := Claim7.holds Tryz.pinned (.plain (OpenSpec.ofChange peerOneSpec)) peerOneCard

/-- THE SECOND FORM's CARD OF 'speculumlaw24.PeerPlays'. -/
def peerPlaysUptoCard : Claim7 := { stood := { row := peerPlaysUptoRow, standIns := [], harness := (true, "d81f44b5e7ca49d5e6d561e1319011d0aac2aac1ea45ffd37f806515d0a0739d"), looks := false }, kinds := [], alts := [], laidByText := true, laidKinds := [.data, .data, .data], laidTests := true, laidLooks := .later }
def PeerPlaysUptoCardSaid : Prop := Claim7.holds Tryz.pinned (.plain (OpenSpec.upto peerPlaysSpec)) peerPlaysUptoCard

/-- THE SECOND FORM's CARD OF 'speculumlaw24.PeerNobody'. -/
def peerNobodyUptoCard : Claim7 := { stood := { row := peerNobodyUptoRow, standIns := [], harness := (true, "d81f44b5e7ca49d5e6d561e1319011d0aac2aac1ea45ffd37f806515d0a0739d"), looks := false }, kinds := [], alts := [], laidByText := true, laidKinds := [.data, .data, .data], laidTests := true, laidLooks := .later }
def PeerNobodyUptoCardSaid : Prop := Claim7.holds Tryz.pinned (.plain (OpenSpec.upto peerNobodySpec)) peerNobodyUptoCard

/-- THE SECOND FORM's CARD OF 'speculumlaw05.UpdatePuts'. -/
def updatePutsUptoCard : Claim7 := { stood := { row := updatePutsUptoRow, standIns := [], harness := (true, "d81f44b5e7ca49d5e6d561e1319011d0aac2aac1ea45ffd37f806515d0a0739d"), looks := false }, kinds := [], alts := [], laidByText := true, laidKinds := [.data], laidTests := true, laidLooks := .later }
def UpdatePutsUptoCardSaid : Prop := Claim7.holds Tryz.pinned (.plain (OpenSpec.upto updatePutsSpec)) updatePutsUptoCard

/-- THE SECOND FORM's CARD OF 'speculumlaw05.UpdateBack'. -/
def updateBackUptoCard : Claim7 := { stood := { row := updateBackUptoRow, standIns := [], harness := (true, "d81f44b5e7ca49d5e6d561e1319011d0aac2aac1ea45ffd37f806515d0a0739d"), looks := false }, kinds := [], alts := [], laidByText := true, laidKinds := [.data], laidTests := true, laidLooks := .later }
def UpdateBackUptoCardSaid : Prop := Claim7.holds Tryz.pinned (.plain (OpenSpec.upto updateBackSpec)) updateBackUptoCard

/-- THE SECOND FORM's CARD OF 'speculumlaw05.UpdateFlows'. -/
def updateFlowsUptoCard : Claim7 := { stood := { row := updateFlowsUptoRow, standIns := [], harness := (true, "d81f44b5e7ca49d5e6d561e1319011d0aac2aac1ea45ffd37f806515d0a0739d"), looks := false }, kinds := [], alts := [], laidByText := true, laidKinds := [.data], laidTests := true, laidLooks := .later }
def UpdateFlowsUptoCardSaid : Prop := Claim7.holds Tryz.pinned (.plain (OpenSpec.upto updateFlowsSpec)) updateFlowsUptoCard

/-- THE SECOND FORM's CARD OF 'speculumlaw23.SessionLegal'. -/
def sessionLegalUptoCard : Claim7 := { stood := { row := sessionLegalUptoRow, standIns := [], harness := (true, "d81f44b5e7ca49d5e6d561e1319011d0aac2aac1ea45ffd37f806515d0a0739d"), looks := false }, kinds := [], alts := [], laidByText := true, laidKinds := [.data, .data, .data], laidTests := true, laidLooks := .later }
def SessionLegalUptoCardSaid : Prop := Claim7.holds Tryz.pinned (.plain (OpenSpec.upto sessionLegalSpec)) sessionLegalUptoCard

/-- THE SECOND FORM's CARD OF 'speculumlaw23.SessionStops'. -/
def sessionStopsUptoCard : Claim7 := { stood := { row := sessionStopsUptoRow, standIns := [], harness := (true, "d81f44b5e7ca49d5e6d561e1319011d0aac2aac1ea45ffd37f806515d0a0739d"), looks := false }, kinds := [], alts := [], laidByText := true, laidKinds := [.data, .data, .data], laidTests := true, laidLooks := .later }
def SessionStopsUptoCardSaid : Prop := Claim7.holds Tryz.pinned (.plain (OpenSpec.upto sessionStopsSpec)) sessionStopsUptoCard

/-- THE SECOND FORM's CARD OF 'speculumlaw23.SessionPlays'. -/
def sessionPlaysUptoCard : Claim7 := { stood := { row := sessionPlaysUptoRow, standIns := [], harness := (true, "d81f44b5e7ca49d5e6d561e1319011d0aac2aac1ea45ffd37f806515d0a0739d"), looks := false }, kinds := [], alts := [], laidByText := true, laidKinds := [.data, .data, .data], laidTests := true, laidLooks := .later }
def SessionPlaysUptoCardSaid : Prop := Claim7.holds Tryz.pinned (.plain (OpenSpec.upto sessionPlaysSpec)) sessionPlaysUptoCard

/-- THE SECOND FORM's CARD OF 'speculumlaw24.PeerCuts'. -/
def peerCutsUptoCard : Claim7 := { stood := { row := peerCutsUptoRow, standIns := [], harness := (true, "d81f44b5e7ca49d5e6d561e1319011d0aac2aac1ea45ffd37f806515d0a0739d"), looks := false }, kinds := [], alts := [], laidByText := true, laidKinds := [.data, .data, .data], laidTests := true, laidLooks := .later }
def PeerCutsUptoCardSaid : Prop := Claim7.holds Tryz.pinned (.plain (OpenSpec.upto peerCutsSpec)) peerCutsUptoCard

/-- THE SECOND FORM's CARD OF 'speculumlaw24.PeerOne'. -/
def peerOneUptoCard : Claim7 := { stood := { row := peerOneUptoRow, standIns := [], harness := (true, "d81f44b5e7ca49d5e6d561e1319011d0aac2aac1ea45ffd37f806515d0a0739d"), looks := false }, kinds := [], alts := [], laidByText := true, laidKinds := [.data, .data, .data], laidTests := true, laidLooks := .later }
def PeerOneUptoCardSaid : Prop := Claim7.holds Tryz.pinned (.plain (OpenSpec.upto peerOneSpec)) peerOneUptoCard
end Rows
end Go.Proofs.YthgjknmfghjioaaGreatDoor
