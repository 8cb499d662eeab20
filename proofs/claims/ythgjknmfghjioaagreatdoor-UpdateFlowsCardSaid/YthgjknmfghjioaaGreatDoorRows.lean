/-
  NARROWER THAN 'FOR EVERY INPUT', by the rows' own cells (each row's printed sentence says how): PeerPlays: laid · PeerNobody: laid · UpdatePuts: laid · UpdateBack: laid · UpdateFlows: laid · SessionLegal: laid · SessionStops: laid · SessionPlays: laid · PeerCuts: laid · PeerOne: laid.
  DERIVED. THE GIVEN ROWS OF THIS SEAT. 10 by the template 'for every input the law returns true; each argument reads behind the call as it read before'; 0 by the template 'total and deterministic' (their statements: YthgjknmfghjioaaGreatDoorTotals.lean).
  GIVEN WITH THE SEED: the statements are not yours to turn. If you find one false, say at which input.
  Laid BY PROGRAM, IN A SANDBOX (cutbox-rows.mjs): the forced cells as the released guide's own fill.sh prints them over the translation 1ae38a19a8c91d47… (all of the seat's roots in one cut). By AI agents, Wed Nov 11 2026. No macro, syntax, notation, axiom, sorry.
-/
import Derived.Test.YthgjknmfghjioaaGreatDoorChecked
import GoSem.Claim
import GoSem.ClaimJoined
import GoSem.ClaimMapViews
import Derived.JoinedTies
import Derived.KernelRfl
namespace Go.Proofs.YthgjknmfghjioaaGreatDoor
/- THE CELL 'sum', in the pinned program and in every row, IS THE sha256 OF THE DUMP (.gsa) THAT YthgjknmfghjioaaGreatDoorProg.lean LOADS. Nothing in Lean hashes anything: it is a label: what it is worth is what the hold of that sum in a sandbox is worth. -/
noncomputable def Tryz.pinned : Pinned := { name := "ythgjknmfghjioaagreatdoor", sum := "1ae38a19a8c91d47ab9b6f8f71bc099d5e81577a9f24230623a19c933a054285", checked := Tryz.checked }
namespace Rows
def none {H : Type} : Left H := { results := [], args := [] }

/- WHAT THE LISTED PACKAGE-LEVEL VARIABLES READ AS WHEN THE CALL BEGINS. Each datum BY PROGRAM (the guide's laid-datum.mjs) off the statement by which the dump's own 'gosem.cut.vars' lays the variable. In a bare row this is a premise. The card (YthgjknmfghjioaaGreatDoorCards.lean) ties it to the program's text. -/
def laid_speculum_frame_leasts {H : Type} : DataW H := .agg [.lit (.int .i64 0), .lit (.int .i64 29), .lit (.int .i64 23), .lit (.int .i64 21), .lit (.int .i64 19)]
def laid_speculum_fsm_table {H : Type} : DataW H := .agg [.agg [.agg [.lit (.int .i64 1), .lit (.int .i64 129)], .agg [.lit (.int .i64 0), .lit (.int .i64 0)], .agg [.lit (.int .i64 0), .lit (.int .i64 2)], .agg [.lit (.int .i64 0), .lit (.int .i64 0)], .agg [.lit (.int .i64 0), .lit (.int .i64 0)], .agg [.lit (.int .i64 0), .lit (.int .i64 0)], .agg [.lit (.int .i64 0), .lit (.int .i64 0)], .agg [.lit (.int .i64 0), .lit (.int .i64 0)], .agg [.lit (.int .i64 0), .lit (.int .i64 0)], .agg [.lit (.int .i64 0), .lit (.int .i64 0)], .agg [.lit (.int .i64 0), .lit (.int .i64 0)], .agg [.lit (.int .i64 0), .lit (.int .i64 0)], .agg [.lit (.int .i64 0), .lit (.int .i64 0)], .agg [.lit (.int .i64 0), .lit (.int .i64 0)], .agg [.lit (.int .i64 0), .lit (.int .i64 0)], .agg [.lit (.int .i64 0), .lit (.int .i64 0)]], .agg [.agg [.lit (.int .i64 1), .lit (.int .i64 0)], .agg [.lit (.int .i64 0), .lit (.int .i64 2050)], .agg [.lit (.int .i64 3), .lit (.int .i64 2308)], .agg [.lit (.int .i64 2), .lit (.int .i64 128)], .agg [.lit (.int .i64 1), .lit (.int .i64 129)], .agg [.lit (.int .i64 0), .lit (.int .i64 2050)], .agg [.lit (.int .i64 0), .lit (.int .i64 2050)], .agg [.lit (.int .i64 0), .lit (.int .i64 2050)], .agg [.lit (.int .i64 0), .lit (.int .i64 2050)], .agg [.lit (.int .i64 0), .lit (.int .i64 2050)], .agg [.lit (.int .i64 0), .lit (.int .i64 2050)], .agg [.lit (.int .i64 0), .lit (.int .i64 2050)], .agg [.lit (.int .i64 0), .lit (.int .i64 2050)], .agg [.lit (.int .i64 0), .lit (.int .i64 2050)], .agg [.lit (.int .i64 0), .lit (.int .i64 2050)], .agg [.lit (.int .i64 0), .lit (.int .i64 2050)]], .agg [.agg [.lit (.int .i64 2), .lit (.int .i64 0)], .agg [.lit (.int .i64 0), .lit (.int .i64 2050)], .agg [.lit (.int .i64 3), .lit (.int .i64 2308)], .agg [.lit (.int .i64 0), .lit (.int .i64 2050)], .agg [.lit (.int .i64 1), .lit (.int .i64 129)], .agg [.lit (.int .i64 0), .lit (.int .i64 2050)], .agg [.lit (.int .i64 0), .lit (.int .i64 2050)], .agg [.lit (.int .i64 0), .lit (.int .i64 2050)], .agg [.lit (.int .i64 0), .lit (.int .i64 2050)], .agg [.lit (.int .i64 0), .lit (.int .i64 2050)], .agg [.lit (.int .i64 0), .lit (.int .i64 2050)], .agg [.lit (.int .i64 0), .lit (.int .i64 2050)], .agg [.lit (.int .i64 0), .lit (.int .i64 2050)], .agg [.lit (.int .i64 0), .lit (.int .i64 2050)], .agg [.lit (.int .i64 0), .lit (.int .i64 2050)], .agg [.lit (.int .i64 0), .lit (.int .i64 2050)]], .agg [.agg [.lit (.int .i64 3), .lit (.int .i64 0)], .agg [.lit (.int .i64 0), .lit (.int .i64 2066)], .agg [.lit (.int .i64 3), .lit (.int .i64 0)], .agg [.lit (.int .i64 2), .lit (.int .i64 2176)], .agg [.lit (.int .i64 0), .lit (.int .i64 2066)], .agg [.lit (.int .i64 0), .lit (.int .i64 2066)], .agg [.lit (.int .i64 0), .lit (.int .i64 2066)], .agg [.lit (.int .i64 4), .lit (.int .i64 1544)], .agg [.lit (.int .i64 0), .lit (.int .i64 2066)], .agg [.lit (.int .i64 0), .lit (.int .i64 2066)], .agg [.lit (.int .i64 0), .lit (.int .i64 2066)], .agg [.lit (.int .i64 0), .lit (.int .i64 2050)], .agg [.lit (.int .i64 0), .lit (.int .i64 2066)], .agg [.lit (.int .i64 0), .lit (.int .i64 2066)], .agg [.lit (.int .i64 0), .lit (.int .i64 2066)], .agg [.lit (.int .i64 0), .lit (.int .i64 2066)]], .agg [.agg [.lit (.int .i64 4), .lit (.int .i64 0)], .agg [.lit (.int .i64 0), .lit (.int .i64 2066)], .agg [.lit (.int .i64 4), .lit (.int .i64 0)], .agg [.lit (.int .i64 0), .lit (.int .i64 2048)], .agg [.lit (.int .i64 0), .lit (.int .i64 2066)], .agg [.lit (.int .i64 0), .lit (.int .i64 2066)], .agg [.lit (.int .i64 4), .lit (.int .i64 1032)], .agg [.lit (.int .i64 0), .lit (.int .i64 2066)], .agg [.lit (.int .i64 0), .lit (.int .i64 2066)], .agg [.lit (.int .i64 0), .lit (.int .i64 2066)], .agg [.lit (.int .i64 0), .lit (.int .i64 2066)], .agg [.lit (.int .i64 0), .lit (.int .i64 2050)], .agg [.lit (.int .i64 5), .lit (.int .i64 544)], .agg [.lit (.int .i64 0), .lit (.int .i64 2066)], .agg [.lit (.int .i64 0), .lit (.int .i64 2066)], .agg [.lit (.int .i64 0), .lit (.int .i64 2066)]], .agg [.agg [.lit (.int .i64 5), .lit (.int .i64 0)], .agg [.lit (.int .i64 0), .lit (.int .i64 2130)], .agg [.lit (.int .i64 5), .lit (.int .i64 0)], .agg [.lit (.int .i64 0), .lit (.int .i64 2112)], .agg [.lit (.int .i64 0), .lit (.int .i64 2130)], .agg [.lit (.int .i64 0), .lit (.int .i64 2130)], .agg [.lit (.int .i64 5), .lit (.int .i64 1032)], .agg [.lit (.int .i64 0), .lit (.int .i64 2130)], .agg [.lit (.int .i64 0), .lit (.int .i64 2130)], .agg [.lit (.int .i64 0), .lit (.int .i64 2130)], .agg [.lit (.int .i64 0), .lit (.int .i64 2130)], .agg [.lit (.int .i64 0), .lit (.int .i64 2114)], .agg [.lit (.int .i64 5), .lit (.int .i64 512)], .agg [.lit (.int .i64 5), .lit (.int .i64 512)], .agg [.lit (.int .i64 0), .lit (.int .i64 2130)], .agg [.lit (.int .i64 0), .lit (.int .i64 2130)]]]
def laid_speculum_attrs_looks {H : Type} : DataW H := .agg [.agg [.lit (.int .i64 0), .lit (.int .i64 0), .lit (.int .i64 0)], .agg [.lit (.int .i64 64), .lit (.int .i64 1), .lit (.int .i64 1)], .agg [.lit (.int .i64 64), .lit (.int .i64 0), .lit (.int .i64 65536)], .agg [.lit (.int .i64 64), .lit (.int .i64 4), .lit (.int .i64 4)], .agg [.lit (.int .i64 128), .lit (.int .i64 4), .lit (.int .i64 4)], .agg [.lit (.int .i64 64), .lit (.int .i64 4), .lit (.int .i64 4)], .agg [.lit (.int .i64 64), .lit (.int .i64 0), .lit (.int .i64 0)], .agg [.lit (.int .i64 192), .lit (.int .i64 6), .lit (.int .i64 8)], .agg [.lit (.int .i64 192), .lit (.int .i64 0), .lit (.int .i64 65536)], .agg [.lit (.int .i64 0), .lit (.int .i64 0), .lit (.int .i64 0)], .agg [.lit (.int .i64 0), .lit (.int .i64 0), .lit (.int .i64 0)], .agg [.lit (.int .i64 0), .lit (.int .i64 0), .lit (.int .i64 0)], .agg [.lit (.int .i64 0), .lit (.int .i64 0), .lit (.int .i64 0)], .agg [.lit (.int .i64 0), .lit (.int .i64 0), .lit (.int .i64 0)], .agg [.lit (.int .i64 0), .lit (.int .i64 0), .lit (.int .i64 0)], .agg [.lit (.int .i64 0), .lit (.int .i64 0), .lit (.int .i64 0)], .agg [.lit (.int .i64 0), .lit (.int .i64 0), .lit (.int .i64 0)], .agg [.lit (.int .i64 192), .lit (.int .i64 0), .lit (.int .i64 65536)], .agg [.lit (.int .i64 192), .lit (.int .i64 0), .lit (.int .i64 65536)]]

/-- 'speculumlaw24.PeerPlays': WHATEVER THE INPUT: true; the input reads as it did. -/
def peerPlaysSpec : ChangeSpec := { name := "peerPlays", fn := fun _ => fun
  | [d1, d2, d3] => { results := [.lit (.bool true)], args := [d1, d2, d3] }
  | _ => none }
def peerPlaysRow : OpenClaim := { program := "ythgjknmfghjioaagreatdoor", sum := "1ae38a19a8c91d47ab9b6f8f71bc099d5e81577a9f24230623a19c933a054285", func := "speculum/speculumlaw24.PeerPlays", spec := "peerPlays", inPlace := ["slices.overlaps[speculum/api.Raw]"], unfollowed := true, recurses := true, named := ["speculum/fsm.table", "speculum/frame.leasts", "speculum/attrs.looks"], apart := false, laid := [("speculum/frame.leasts", laid_speculum_frame_leasts), ("speculum/fsm.table", laid_speculum_fsm_table), ("speculum/attrs.looks", laid_speculum_attrs_looks)] }
def PeerPlaysSaid : Prop := peerPlaysRow.holds Tryz.pinned (OpenSpec.ofChange peerPlaysSpec)

/-- ITS FALSE NEIGHBOUR: 'it returns false'. Refute it at one input. -/
def peerPlaysWrong : ChangeSpec := { name := "peerPlays", fn := fun _ => fun
  | [d1, d2, d3] => { results := [.lit (.bool false)], args := [d1, d2, d3] }
  | _ => none }
def PeerPlaysWrongFalsely : Prop := peerPlaysRow.holds Tryz.pinned (OpenSpec.ofChange peerPlaysWrong)

/-- 'speculumlaw24.PeerNobody': WHATEVER THE INPUT: true; the input reads as it did. -/
def peerNobodySpec : ChangeSpec := { name := "peerNobody", fn := fun _ => fun
  | [d1, d2] => { results := [.lit (.bool true)], args := [d1, d2] }
  | _ => none }
def peerNobodyRow : OpenClaim := { program := "ythgjknmfghjioaagreatdoor", sum := "1ae38a19a8c91d47ab9b6f8f71bc099d5e81577a9f24230623a19c933a054285", func := "speculum/speculumlaw24.PeerNobody", spec := "peerNobody", inPlace := ["slices.overlaps[speculum/api.Raw]"], unfollowed := true, recurses := true, named := ["speculum/fsm.table", "speculum/frame.leasts", "speculum/attrs.looks"], apart := false, laid := [("speculum/frame.leasts", laid_speculum_frame_leasts), ("speculum/fsm.table", laid_speculum_fsm_table), ("speculum/attrs.looks", laid_speculum_attrs_looks)] }
def PeerNobodySaid : Prop := peerNobodyRow.holds Tryz.pinned (OpenSpec.ofChange peerNobodySpec)

/-- ITS FALSE NEIGHBOUR: 'it returns false'. Refute it at one input. -/
def peerNobodyWrong : ChangeSpec := { name := "peerNobody", fn := fun _ => fun
  | [d1, d2] => { results := [.lit (.bool false)], args := [d1, d2] }
  | _ => none }
def PeerNobodyWrongFalsely : Prop := peerNobodyRow.holds Tryz.pinned (OpenSpec.ofChange peerNobodyWrong)

/-- 'speculumlaw05.UpdatePuts': WHATEVER THE INPUT: true; the input reads as it did. -/
def updatePutsSpec : ChangeSpec := { name := "updatePuts", fn := fun _ => fun
  | [d1, d2] => { results := [.lit (.bool true)], args := [d1, d2] }
  | _ => none }
def updatePutsRow : OpenClaim := { program := "ythgjknmfghjioaagreatdoor", sum := "1ae38a19a8c91d47ab9b6f8f71bc099d5e81577a9f24230623a19c933a054285", func := "speculum/speculumlaw05.UpdatePuts", spec := "updatePuts", inPlace := ["slices.overlaps[speculum/api.Raw]"], unfollowed := true, recurses := true, named := ["speculum/attrs.looks"], apart := false, laid := [("speculum/attrs.looks", laid_speculum_attrs_looks)] }
def UpdatePutsSaid : Prop := updatePutsRow.holds Tryz.pinned (OpenSpec.ofChange updatePutsSpec)

/-- ITS FALSE NEIGHBOUR: 'it returns false'. Refute it at one input. -/
def updatePutsWrong : ChangeSpec := { name := "updatePuts", fn := fun _ => fun
  | [d1, d2] => { results := [.lit (.bool false)], args := [d1, d2] }
  | _ => none }
def UpdatePutsWrongFalsely : Prop := updatePutsRow.holds Tryz.pinned (OpenSpec.ofChange updatePutsWrong)

/-- 'speculumlaw05.UpdateBack': WHATEVER THE INPUT: true; the input reads as it did. -/
def updateBackSpec : ChangeSpec := { name := "updateBack", fn := fun _ => fun
  | [d] => { results := [.lit (.bool true)], args := [d] }
  | _ => none }
def updateBackRow : OpenClaim := { program := "ythgjknmfghjioaagreatdoor", sum := "1ae38a19a8c91d47ab9b6f8f71bc099d5e81577a9f24230623a19c933a054285", func := "speculum/speculumlaw05.UpdateBack", spec := "updateBack", inPlace := ["slices.overlaps[speculum/api.Raw]"], unfollowed := true, recurses := true, named := ["speculum/attrs.looks"], apart := false, laid := [("speculum/attrs.looks", laid_speculum_attrs_looks)] }
def UpdateBackSaid : Prop := updateBackRow.holds Tryz.pinned (OpenSpec.ofChange updateBackSpec)

/-- ITS FALSE NEIGHBOUR: 'it returns false'. Refute it at one input. -/
def updateBackWrong : ChangeSpec := { name := "updateBack", fn := fun _ => fun
  | [d] => { results := [.lit (.bool false)], args := [d] }
  | _ => none }
def UpdateBackWrongFalsely : Prop := updateBackRow.holds Tryz.pinned (OpenSpec.ofChange updateBackWrong)

/-- 'speculumlaw05.UpdateFlows': WHATEVER THE INPUT: true; the input reads as it did. -/
def updateFlowsSpec : ChangeSpec := { name := "updateFlows", fn := fun _ => fun
  | [d1, d2] => { results := [.lit (.bool true)], args := [d1, d2] }
  | _ => none }
def updateFlowsRow : OpenClaim := { program := "ythgjknmfghjioaagreatdoor", sum := "1ae38a19a8c91d47ab9b6f8f71bc099d5e81577a9f24230623a19c933a054285", func := "speculum/speculumlaw05.UpdateFlows", spec := "updateFlows", inPlace := ["slices.overlaps[speculum/api.Raw]"], unfollowed := true, recurses := true, named := ["speculum/attrs.looks"], apart := false, laid := [("speculum/attrs.looks", laid_speculum_attrs_looks)] }
def UpdateFlowsSaid : Prop := updateFlowsRow.holds Tryz.pinned (OpenSpec.ofChange updateFlowsSpec)

/-- ITS FALSE NEIGHBOUR: 'it returns false'. Refute it at one input. -/
def updateFlowsWrong : ChangeSpec := { name := "updateFlows", fn := fun _ => fun
  | [d1, d2] => { results := [.lit (.bool false)], args := [d1, d2] }
  | _ => none }
def UpdateFlowsWrongFalsely : Prop := updateFlowsRow.holds Tryz.pinned (OpenSpec.ofChange updateFlowsWrong)

/-- 'speculumlaw23.SessionLegal': WHATEVER THE INPUT: true; the input reads as it did. -/
def sessionLegalSpec : ChangeSpec := { name := "sessionLegal", fn := fun _ => fun
  | [d1, d2, d3] => { results := [.lit (.bool true)], args := [d1, d2, d3] }
  | _ => none }
def sessionLegalRow : OpenClaim := { program := "ythgjknmfghjioaagreatdoor", sum := "1ae38a19a8c91d47ab9b6f8f71bc099d5e81577a9f24230623a19c933a054285", func := "speculum/speculumlaw23.SessionLegal", spec := "sessionLegal", inPlace := ["slices.overlaps[speculum/api.Raw]"], unfollowed := true, recurses := true, named := ["speculum/fsm.table", "speculum/frame.leasts", "speculum/attrs.looks"], apart := false, laid := [("speculum/frame.leasts", laid_speculum_frame_leasts), ("speculum/fsm.table", laid_speculum_fsm_table), ("speculum/attrs.looks", laid_speculum_attrs_looks)] }
def SessionLegalSaid : Prop := sessionLegalRow.holds Tryz.pinned (OpenSpec.ofChange sessionLegalSpec)

/-- ITS FALSE NEIGHBOUR: 'it returns false'. Refute it at one input. -/
def sessionLegalWrong : ChangeSpec := { name := "sessionLegal", fn := fun _ => fun
  | [d1, d2, d3] => { results := [.lit (.bool false)], args := [d1, d2, d3] }
  | _ => none }
def SessionLegalWrongFalsely : Prop := sessionLegalRow.holds Tryz.pinned (OpenSpec.ofChange sessionLegalWrong)

/-- 'speculumlaw23.SessionStops': WHATEVER THE INPUT: true; the input reads as it did. -/
def sessionStopsSpec : ChangeSpec := { name := "sessionStops", fn := fun _ => fun
  | [d1, d2, d3] => { results := [.lit (.bool true)], args := [d1, d2, d3] }
  | _ => none }
def sessionStopsRow : OpenClaim := { program := "ythgjknmfghjioaagreatdoor", sum := "1ae38a19a8c91d47ab9b6f8f71bc099d5e81577a9f24230623a19c933a054285", func := "speculum/speculumlaw23.SessionStops", spec := "sessionStops", inPlace := ["slices.overlaps[speculum/api.Raw]"], unfollowed := true, recurses := true, named := ["speculum/fsm.table", "speculum/frame.leasts", "speculum/attrs.looks"], apart := false, laid := [("speculum/frame.leasts", laid_speculum_frame_leasts), ("speculum/fsm.table", laid_speculum_fsm_table), ("speculum/attrs.looks", laid_speculum_attrs_looks)] }
def SessionStopsSaid : Prop := sessionStopsRow.holds Tryz.pinned (OpenSpec.ofChange sessionStopsSpec)

/-- ITS FALSE NEIGHBOUR: 'it returns false'. Refute it at one input. -/
def sessionStopsWrong : ChangeSpec := { name := "sessionStops", fn := fun _ => fun
  | [d1, d2, d3] => { results := [.lit (.bool false)], args := [d1, d2, d3] }
  | _ => none }
def SessionStopsWrongFalsely : Prop := sessionStopsRow.holds Tryz.pinned (OpenSpec.ofChange sessionStopsWrong)

/-- 'speculumlaw23.SessionPlays': WHATEVER THE INPUT: true; the input reads as it did. -/
def sessionPlaysSpec : ChangeSpec := { name := "sessionPlays", fn := fun _ => fun
  | [d1, d2, d3] => { results := [.lit (.bool true)], args := [d1, d2, d3] }
  | _ => none }
def sessionPlaysRow : OpenClaim := { program := "ythgjknmfghjioaagreatdoor", sum := "1ae38a19a8c91d47ab9b6f8f71bc099d5e81577a9f24230623a19c933a054285", func := "speculum/speculumlaw23.SessionPlays", spec := "sessionPlays", inPlace := ["slices.overlaps[speculum/api.Raw]"], unfollowed := true, recurses := true, named := ["speculum/fsm.table", "speculum/frame.leasts", "speculum/attrs.looks"], apart := false, laid := [("speculum/frame.leasts", laid_speculum_frame_leasts), ("speculum/fsm.table", laid_speculum_fsm_table), ("speculum/attrs.looks", laid_speculum_attrs_looks)] }
def SessionPlaysSaid : Prop := sessionPlaysRow.holds Tryz.pinned (OpenSpec.ofChange sessionPlaysSpec)

/-- ITS FALSE NEIGHBOUR: 'it returns false'. Refute it at one input. -/
def sessionPlaysWrong : ChangeSpec := { name := "sessionPlays", fn := fun _ => fun
  | [d1, d2, d3] => { results := [.lit (.bool false)], args := [d1, d2, d3] }
  | _ => none }
def SessionPlaysWrongFalsely : Prop := sessionPlaysRow.holds Tryz.pinned (OpenSpec.ofChange sessionPlaysWrong)

/-- 'speculumlaw24.PeerCuts': WHATEVER THE INPUT: true; the input reads as it did. -/
def peerCutsSpec : ChangeSpec := { name := "peerCuts", fn := fun _ => fun
  | [d1, d2, d3] => { results := [.lit (.bool true)], args := [d1, d2, d3] }
  | _ => none }
def peerCutsRow : OpenClaim := { program := "ythgjknmfghjioaagreatdoor", sum := "1ae38a19a8c91d47ab9b6f8f71bc099d5e81577a9f24230623a19c933a054285", func := "speculum/speculumlaw24.PeerCuts", spec := "peerCuts", inPlace := ["slices.overlaps[speculum/api.Raw]"], unfollowed := true, recurses := true, named := ["speculum/fsm.table", "speculum/frame.leasts", "speculum/attrs.looks"], apart := false, laid := [("speculum/frame.leasts", laid_speculum_frame_leasts), ("speculum/fsm.table", laid_speculum_fsm_table), ("speculum/attrs.looks", laid_speculum_attrs_looks)] }
def PeerCutsSaid : Prop := peerCutsRow.holds Tryz.pinned (OpenSpec.ofChange peerCutsSpec)

/-- ITS FALSE NEIGHBOUR: 'it returns false'. Refute it at one input. -/
def peerCutsWrong : ChangeSpec := { name := "peerCuts", fn := fun _ => fun
  | [d1, d2, d3] => { results := [.lit (.bool false)], args := [d1, d2, d3] }
  | _ => none }
def PeerCutsWrongFalsely : Prop := peerCutsRow.holds Tryz.pinned (OpenSpec.ofChange peerCutsWrong)

/-- 'speculumlaw24.PeerOne': WHATEVER THE INPUT: true; the input reads as it did. -/
def peerOneSpec : ChangeSpec := { name := "peerOne", fn := fun _ => fun
  | [d1, d2, d3] => { results := [.lit (.bool true)], args := [d1, d2, d3] }
  | _ => none }
def peerOneRow : OpenClaim := { program := "ythgjknmfghjioaagreatdoor", sum := "1ae38a19a8c91d47ab9b6f8f71bc099d5e81577a9f24230623a19c933a054285", func := "speculum/speculumlaw24.PeerOne", spec := "peerOne", inPlace := ["slices.overlaps[speculum/api.Raw]"], unfollowed := true, recurses := true, named := ["speculum/fsm.table", "speculum/frame.leasts", "speculum/attrs.looks"], apart := false, laid := [("speculum/frame.leasts", laid_speculum_frame_leasts), ("speculum/fsm.table", laid_speculum_fsm_table), ("speculum/attrs.looks", laid_speculum_attrs_looks)] }
def PeerOneSaid : Prop := peerOneRow.holds Tryz.pinned (OpenSpec.ofChange peerOneSpec)

/-- ITS FALSE NEIGHBOUR: 'it returns false'. Refute it at one input. -/
def peerOneWrong : ChangeSpec := { name := "peerOne", fn := fun _ => fun
  | [d1, d2, d3] => { results := [.lit (.bool false)], args := [d1, d2, d3] }
  | _ => none }
def PeerOneWrongFalsely : Prop := peerOneRow.holds Tryz.pinned (OpenSpec.ofChange peerOneWrong)

/- THE SECOND FORM. 'bulk': how many values and letters a reading holds, each counted each time it is reached (what is shared counts as often as it is met; a slice's spare places count too). A statement '..UptoSaid' is the law's where the arguments, and the package variables that the reading takes, are together of bulk at most 1048576: NARROWER than '..Said'. Prove '..Said' where nothing that the law and all that it calls make is longer than what came in: it says more and counts as full. Else prove '..UptoSaid'. A law counts once. -/
mutual
def uptoBulk {H : Type} : DataW H → Nat
  | .lit (.string bytes) => bytes.length + 1
  | .lit _ => 1
  | .nil => 1
  | .ptr d => uptoBulk d + 1
  | .slice elems spare => uptoBulkAll elems + uptoBulkAll spare + 1
  | .agg parts => uptoBulkAll parts + 1
  | .iface _ d => uptoBulk d + 1
  | .map entries => uptoBulkEntries entries + 1
  | .held _ => 1
def uptoBulkAll {H : Type} : List (DataW H) → Nat
  | [] => 0
  | d :: r => uptoBulk d + uptoBulkAll r
def uptoBulkEntries {H : Type} : List (Lit × DataW H) → Nat
  | [] => 0
  | x :: r => uptoBulkEntry x + uptoBulkEntries r
def uptoBulkEntry {H : Type} : Lit × DataW H → Nat
  | (.string bytes, d) => bytes.length + uptoBulk d + 1
  | (_, d) => uptoBulk d + 1
 end
def uptoSmall : (H : Type) → List (DataW H) → Bool := fun _ ds => decide (uptoBulkAll ds ≤ 1048576)
def OpenSpec.upto (s : _root_.Go.ChangeSpec) : _root_.Go.OpenSpec := { _root_.Go.OpenSpec.ofChange s with cond := some uptoSmall }

/-- 'speculumlaw24.PeerPlays', WHERE WHAT IT READS IS OF BULK AT MOST 1048576: true; the input reads as it did. -/
def peerPlaysUptoRow : OpenClaim := { program := "ythgjknmfghjioaagreatdoor", sum := "1ae38a19a8c91d47ab9b6f8f71bc099d5e81577a9f24230623a19c933a054285", func := "speculum/speculumlaw24.PeerPlays", spec := "peerPlays", inPlace := ["slices.overlaps[speculum/api.Raw]"], unfollowed := true, recurses := true, named := ["speculum/fsm.table", "speculum/frame.leasts", "speculum/attrs.looks"], apart := false, laid := [("speculum/frame.leasts", laid_speculum_frame_leasts), ("speculum/fsm.table", laid_speculum_fsm_table), ("speculum/attrs.looks", laid_speculum_attrs_looks)], narrowed := true }
def PeerPlaysUptoSaid : Prop := peerPlaysUptoRow.holds Tryz.pinned (OpenSpec.upto peerPlaysSpec)

/-- 'speculumlaw24.PeerNobody', WHERE WHAT IT READS IS OF BULK AT MOST 1048576: true; the input reads as it did. -/
def peerNobodyUptoRow : OpenClaim := { program := "ythgjknmfghjioaagreatdoor", sum := "1ae38a19a8c91d47ab9b6f8f71bc099d5e81577a9f24230623a19c933a054285", func := "speculum/speculumlaw24.PeerNobody", spec := "peerNobody", inPlace := ["slices.overlaps[speculum/api.Raw]"], unfollowed := true, recurses := true, named := ["speculum/fsm.table", "speculum/frame.leasts", "speculum/attrs.looks"], apart := false, laid := [("speculum/frame.leasts", laid_speculum_frame_leasts), ("speculum/fsm.table", laid_speculum_fsm_table), ("speculum/attrs.looks", laid_speculum_attrs_looks)], narrowed := true }
def PeerNobodyUptoSaid : Prop := peerNobodyUptoRow.holds Tryz.pinned (OpenSpec.upto peerNobodySpec)

/-- 'speculumlaw05.UpdatePuts', WHERE WHAT IT READS IS OF BULK AT MOST 1048576: true; the input reads as it did. -/
def updatePutsUptoRow : OpenClaim := { program := "ythgjknmfghjioaagreatdoor", sum := "1ae38a19a8c91d47ab9b6f8f71bc099d5e81577a9f24230623a19c933a054285", func := "speculum/speculumlaw05.UpdatePuts", spec := "updatePuts", inPlace := ["slices.overlaps[speculum/api.Raw]"], unfollowed := true, recurses := true, named := ["speculum/attrs.looks"], apart := false, laid := [("speculum/attrs.looks", laid_speculum_attrs_looks)], narrowed := true }
def UpdatePutsUptoSaid : Prop := updatePutsUptoRow.holds Tryz.pinned (OpenSpec.upto updatePutsSpec)

/-- 'speculumlaw05.UpdateBack', WHERE WHAT IT READS IS OF BULK AT MOST 1048576: true; the input reads as it did. -/
def updateBackUptoRow : OpenClaim := { program := "ythgjknmfghjioaagreatdoor", sum := "1ae38a19a8c91d47ab9b6f8f71bc099d5e81577a9f24230623a19c933a054285", func := "speculum/speculumlaw05.UpdateBack", spec := "updateBack", inPlace := ["slices.overlaps[speculum/api.Raw]"], unfollowed := true, recurses := true, named := ["speculum/attrs.looks"], apart := false, laid := [("speculum/attrs.looks", laid_speculum_attrs_looks)], narrowed := true }
def UpdateBackUptoSaid : Prop := updateBackUptoRow.holds Tryz.pinned (OpenSpec.upto updateBackSpec)

/-- 'speculumlaw05.UpdateFlows', WHERE WHAT IT READS IS OF BULK AT MOST 1048576: true; the input reads as it did. -/
def updateFlowsUptoRow : OpenClaim := { program := "ythgjknmfghjioaagreatdoor", sum := "1ae38a19a8c91d47ab9b6f8f71bc099d5e81577a9f24230623a19c933a054285", func := "speculum/speculumlaw05.UpdateFlows", spec := "updateFlows", inPlace := ["slices.overlaps[speculum/api.Raw]"], unfollowed := true, recurses := true, named := ["speculum/attrs.looks"], apart := false, laid := [("speculum/attrs.looks", laid_speculum_attrs_looks)], narrowed := true }
def UpdateFlowsUptoSaid : Prop := updateFlowsUptoRow.holds Tryz.pinned (OpenSpec.upto updateFlowsSpec)

/-- 'speculumlaw23.SessionLegal', WHERE WHAT IT READS IS OF BULK AT MOST 1048576: true; the input reads as it did. -/
def sessionLegalUptoRow : OpenClaim := { program := "ythgjknmfghjioaagreatdoor", sum := "1ae38a19a8c91d47ab9b6f8f71bc099d5e81577a9f24230623a19c933a054285", func := "speculum/speculumlaw23.SessionLegal", spec := "sessionLegal", inPlace := ["slices.overlaps[speculum/api.Raw]"], unfollowed := true, recurses := true, named := ["speculum/fsm.table", "speculum/frame.leasts", "speculum/attrs.looks"], apart := false, laid := [("speculum/frame.leasts", laid_speculum_frame_leasts), ("speculum/fsm.table", laid_speculum_fsm_table), ("speculum/attrs.looks", laid_speculum_attrs_looks)], narrowed := true }
def SessionLegalUptoSaid : Prop := sessionLegalUptoRow.holds Tryz.pinned (OpenSpec.upto sessionLegalSpec)

/-- 'speculumlaw23.SessionStops', WHERE WHAT IT READS IS OF BULK AT MOST 1048576: true; the input reads as it did. -/
def sessionStopsUptoRow : OpenClaim := { program := "ythgjknmfghjioaagreatdoor", sum := "1ae38a19a8c91d47ab9b6f8f71bc099d5e81577a9f24230623a19c933a054285", func := "speculum/speculumlaw23.SessionStops", spec := "sessionStops", inPlace := ["slices.overlaps[speculum/api.Raw]"], unfollowed := true, recurses := true, named := ["speculum/fsm.table", "speculum/frame.leasts", "speculum/attrs.looks"], apart := false, laid := [("speculum/frame.leasts", laid_speculum_frame_leasts), ("speculum/fsm.table", laid_speculum_fsm_table), ("speculum/attrs.looks", laid_speculum_attrs_looks)], narrowed := true }
def SessionStopsUptoSaid : Prop := sessionStopsUptoRow.holds Tryz.pinned (OpenSpec.upto sessionStopsSpec)

/-- 'speculumlaw23.SessionPlays', WHERE WHAT IT READS IS OF BULK AT MOST 1048576: true; the input reads as it did. -/
def sessionPlaysUptoRow : OpenClaim := { program := "ythgjknmfghjioaagreatdoor", sum := "1ae38a19a8c91d47ab9b6f8f71bc099d5e81577a9f24230623a19c933a054285", func := "speculum/speculumlaw23.SessionPlays", spec := "sessionPlays", inPlace := ["slices.overlaps[speculum/api.Raw]"], unfollowed := true, recurses := true, named := ["speculum/fsm.table", "speculum/frame.leasts", "speculum/attrs.looks"], apart := false, laid := [("speculum/frame.leasts", laid_speculum_frame_leasts), ("speculum/fsm.table", laid_speculum_fsm_table), ("speculum/attrs.looks", laid_speculum_attrs_looks)], narrowed := true }
def SessionPlaysUptoSaid : Prop := sessionPlaysUptoRow.holds Tryz.pinned (OpenSpec.upto sessionPlaysSpec)

/-- 'speculumlaw24.PeerCuts', WHERE WHAT IT READS IS OF BULK AT MOST 1048576: true; the input reads as it did. -/
def peerCutsUptoRow : OpenClaim := { program := "ythgjknmfghjioaagreatdoor", sum := "1ae38a19a8c91d47ab9b6f8f71bc099d5e81577a9f24230623a19c933a054285", func := "speculum/speculumlaw24.PeerCuts", spec := "peerCuts", inPlace := ["slices.overlaps[speculum/api.Raw]"], unfollowed := true, recurses := true, named := ["speculum/fsm.table", "speculum/frame.leasts", "speculum/attrs.looks"], apart := false, laid := [("speculum/frame.leasts", laid_speculum_frame_leasts), ("speculum/fsm.table", laid_speculum_fsm_table), ("speculum/attrs.looks", laid_speculum_attrs_looks)], narrowed := true }
def PeerCutsUptoSaid : Prop := peerCutsUptoRow.holds Tryz.pinned (OpenSpec.upto peerCutsSpec)

/-- 'speculumlaw24.PeerOne', WHERE WHAT IT READS IS OF BULK AT MOST 1048576: true; the input reads as it did. -/
def peerOneUptoRow : OpenClaim := { program := "ythgjknmfghjioaagreatdoor", sum := "1ae38a19a8c91d47ab9b6f8f71bc099d5e81577a9f24230623a19c933a054285", func := "speculum/speculumlaw24.PeerOne", spec := "peerOne", inPlace := ["slices.overlaps[speculum/api.Raw]"], unfollowed := true, recurses := true, named := ["speculum/fsm.table", "speculum/frame.leasts", "speculum/attrs.looks"], apart := false, laid := [("speculum/frame.leasts", laid_speculum_frame_leasts), ("speculum/fsm.table", laid_speculum_fsm_table), ("speculum/attrs.looks", laid_speculum_attrs_looks)], narrowed := true }
def PeerOneUptoSaid : Prop := peerOneUptoRow.holds Tryz.pinned (OpenSpec.upto peerOneSpec)

end Rows
end Go.Proofs.YthgjknmfghjioaaGreatDoor
