/-
  DERIVED. GIVEN WITH THE SEED: THE CARDS: each row of YthgjknmfghjioaaDoorRows.lean that lists a variable, with what it lists TIED to the program's text (the seventh form; the later family's looks); each row that meets fmt, with fmt's text TOLD by the authors' own Lean function (tested against real Go, not proved from fmt's source: count such statements apart). THE CARD IS WHAT COUNTS. Prove the row's statement (the work); the ties are given (YthgjknmfghjioaaDoorTie.lean); close each card by the builder's one call (the guide's Derived/Test/ToyasCard.lean, 'card_holds'). Laid BY PROGRAM, IN A SANDBOX (cutbox-door.mjs). By AI agents, Wed Nov 11 2026. No macro, syntax, notation, axiom, sorry.
-/
import Derived.Test.YthgjknmfghjioaaDoorRows
import GoSem.ClaimSeven
namespace Go.Proofs.YthgjknmfghjioaaDoor
namespace Rows

/-- THE TIED CARD OF 'speculumlaw23.SessionHolds'. -/
def sessionHoldsCard : Claim7 := { stood := { row := sessionHoldsRow, standIns := [], harness := (true, "1980dce80f1e625c016475b3417a0b9a5e7d04eceb0289ab8db97da69319300d"), looks := false }, kinds := [], alts := [], laidByText := true, laidKinds := [.data, .data, .data], laidTests := true, laidLooks := .later }
def SessionHoldsCardSaid : Prop := Claim7.holds Tryd.pinned (.plain (OpenSpec.ofChange sessionHoldsSpec)) sessionHoldsCard

/-- THE TIED CARD OF 'speculumlaw23.SessionNobody'. -/
def sessionNobodyCard : Claim7 := { stood := { row := sessionNobodyRow, standIns := [], harness := (true, "1980dce80f1e625c016475b3417a0b9a5e7d04eceb0289ab8db97da69319300d"), looks := false }, kinds := [], alts := [], laidByText := true, laidKinds := [.data, .data, .data], laidTests := true, laidLooks := .later }
def SessionNobodyCardSaid : Prop := Claim7.holds Tryd.pinned (.plain (OpenSpec.ofChange sessionNobodySpec)) sessionNobodyCard

/-- THE SECOND FORM's CARD OF 'speculumlaw23.SessionHolds'. -/
def sessionHoldsUptoCard : Claim7 := { stood := { row := sessionHoldsUptoRow, standIns := [], harness := (true, "1980dce80f1e625c016475b3417a0b9a5e7d04eceb0289ab8db97da69319300d"), looks := false }, kinds := [], alts := [], laidByText := true, laidKinds := [.data, .data, .data], laidTests := true, laidLooks := .later }
def SessionHoldsUptoCardSaid : Prop := Claim7.holds Tryd.pinned (.plain (OpenSpec.upto sessionHoldsSpec)) sessionHoldsUptoCard

/-- THE SECOND FORM's CARD OF 'speculumlaw23.SessionNobody'. -/
def sessionNobodyUptoCard : Claim7 := { stood := { row := sessionNobodyUptoRow, standIns := [], harness := (true, "1980dce80f1e625c016475b3417a0b9a5e7d04eceb0289ab8db97da69319300d"), looks := false }, kinds := [], alts := [], laidByText := true, laidKinds := [.data, .data, .data], laidTests := true, laidLooks := .later }
def SessionNobodyUptoCardSaid : Prop := Claim7.holds Tryd.pinned (.plain (OpenSpec.upto sessionNobodySpec)) sessionNobodyUptoCard
end Rows
end Go.Proofs.YthgjknmfghjioaaDoor
