/-
  NARROWER THAN 'FOR EVERY INPUT', by the rows' own cells (each row's printed sentence says how): FsmSteps: laid · FsmFaults: laid · FsmFalls: laid · OctetPuts: laid · OctetHex: laid · OctetDigits: laid · FsmLegal: laid · OctetTakes: laid · OctetNobody: laid · OctetReads: laid · OctetBack: laid · FramePuts: laid · FrameNext: laid · NoticeTexts: laid · NoticeNames: laid · NoticePuts: laid · FrameStreams: laid · FrameBack: laid · FrameNobody: laid · NoticeReads: laid.
  DERIVED. THE GIVEN ROWS OF THIS SEAT. 20 by the template 'for every input the law returns true; each argument reads behind the call as it read before'; 0 by the template 'total and deterministic' (their statements: YtdcldmblgbefnaaDoorTotals.lean).
  GIVEN WITH THE SEED: the statements are not yours to turn. If you find one false, say at which input.
  Laid BY PROGRAM, IN A SANDBOX (cutbox-rows.mjs): the forced cells as the released guide's own fill.sh prints them over the translation 6e5e77fa985c5f95… (all of the seat's roots in one cut). By AI agents, Wed Nov 11 2026. No macro, syntax, notation, axiom, sorry.
-/
import Derived.Test.YtdcldmblgbefnaaDoorChecked
import GoSem.Claim
import GoSem.ClaimJoined
import GoSem.ClaimMapViews
import Derived.JoinedTies
import Derived.KernelRfl
namespace Go.Proofs.YtdcldmblgbefnaaDoor
/- THE CELL 'sum', in the pinned program and in every row, IS THE sha256 OF THE DUMP (.gsa) THAT YtdcldmblgbefnaaDoorProg.lean LOADS. Nothing in Lean hashes anything: it is a label: what it is worth is what the hold of that sum in a sandbox is worth. -/
noncomputable def Tryd.pinned : Pinned := { name := "ytdcldmblgbefnaadoor", sum := "6e5e77fa985c5f952b1253401da7637ce534f62069b40eb1aa1675021dfa9adf", checked := Tryd.checked }
namespace Rows
def none {H : Type} : Left H := { results := [], args := [] }

/- WHAT THE LISTED PACKAGE-LEVEL VARIABLES READ AS WHEN THE CALL BEGINS. Each datum BY PROGRAM (the guide's laid-datum.mjs) off the statement by which the dump's own 'gosem.cut.vars' lays the variable. In a bare row this is a premise. The card (YtdcldmblgbefnaaDoorCards.lean) ties it to the program's text. -/
def laid_speculum_fsm_table {H : Type} : DataW H := .agg [.agg [.agg [.lit (.int .i64 1), .lit (.int .i64 129)], .agg [.lit (.int .i64 0), .lit (.int .i64 0)], .agg [.lit (.int .i64 0), .lit (.int .i64 2)], .agg [.lit (.int .i64 0), .lit (.int .i64 0)], .agg [.lit (.int .i64 0), .lit (.int .i64 0)], .agg [.lit (.int .i64 0), .lit (.int .i64 0)], .agg [.lit (.int .i64 0), .lit (.int .i64 0)], .agg [.lit (.int .i64 0), .lit (.int .i64 0)], .agg [.lit (.int .i64 0), .lit (.int .i64 0)], .agg [.lit (.int .i64 0), .lit (.int .i64 0)], .agg [.lit (.int .i64 0), .lit (.int .i64 0)], .agg [.lit (.int .i64 0), .lit (.int .i64 0)], .agg [.lit (.int .i64 0), .lit (.int .i64 0)], .agg [.lit (.int .i64 0), .lit (.int .i64 0)], .agg [.lit (.int .i64 0), .lit (.int .i64 0)], .agg [.lit (.int .i64 0), .lit (.int .i64 0)]], .agg [.agg [.lit (.int .i64 1), .lit (.int .i64 0)], .agg [.lit (.int .i64 0), .lit (.int .i64 2050)], .agg [.lit (.int .i64 3), .lit (.int .i64 2308)], .agg [.lit (.int .i64 2), .lit (.int .i64 128)], .agg [.lit (.int .i64 1), .lit (.int .i64 129)], .agg [.lit (.int .i64 0), .lit (.int .i64 2050)], .agg [.lit (.int .i64 0), .lit (.int .i64 2050)], .agg [.lit (.int .i64 0), .lit (.int .i64 2050)], .agg [.lit (.int .i64 0), .lit (.int .i64 2050)], .agg [.lit (.int .i64 0), .lit (.int .i64 2050)], .agg [.lit (.int .i64 0), .lit (.int .i64 2050)], .agg [.lit (.int .i64 0), .lit (.int .i64 2050)], .agg [.lit (.int .i64 0), .lit (.int .i64 2050)], .agg [.lit (.int .i64 0), .lit (.int .i64 2050)], .agg [.lit (.int .i64 0), .lit (.int .i64 2050)], .agg [.lit (.int .i64 0), .lit (.int .i64 2050)]], .agg [.agg [.lit (.int .i64 2), .lit (.int .i64 0)], .agg [.lit (.int .i64 0), .lit (.int .i64 2050)], .agg [.lit (.int .i64 3), .lit (.int .i64 2308)], .agg [.lit (.int .i64 0), .lit (.int .i64 2050)], .agg [.lit (.int .i64 1), .lit (.int .i64 129)], .agg [.lit (.int .i64 0), .lit (.int .i64 2050)], .agg [.lit (.int .i64 0), .lit (.int .i64 2050)], .agg [.lit (.int .i64 0), .lit (.int .i64 2050)], .agg [.lit (.int .i64 0), .lit (.int .i64 2050)], .agg [.lit (.int .i64 0), .lit (.int .i64 2050)], .agg [.lit (.int .i64 0), .lit (.int .i64 2050)], .agg [.lit (.int .i64 0), .lit (.int .i64 2050)], .agg [.lit (.int .i64 0), .lit (.int .i64 2050)], .agg [.lit (.int .i64 0), .lit (.int .i64 2050)], .agg [.lit (.int .i64 0), .lit (.int .i64 2050)], .agg [.lit (.int .i64 0), .lit (.int .i64 2050)]], .agg [.agg [.lit (.int .i64 3), .lit (.int .i64 0)], .agg [.lit (.int .i64 0), .lit (.int .i64 2066)], .agg [.lit (.int .i64 3), .lit (.int .i64 0)], .agg [.lit (.int .i64 2), .lit (.int .i64 2176)], .agg [.lit (.int .i64 0), .lit (.int .i64 2066)], .agg [.lit (.int .i64 0), .lit (.int .i64 2066)], .agg [.lit (.int .i64 0), .lit (.int .i64 2066)], .agg [.lit (.int .i64 4), .lit (.int .i64 1544)], .agg [.lit (.int .i64 0), .lit (.int .i64 2066)], .agg [.lit (.int .i64 0), .lit (.int .i64 2066)], .agg [.lit (.int .i64 0), .lit (.int .i64 2066)], .agg [.lit (.int .i64 0), .lit (.int .i64 2050)], .agg [.lit (.int .i64 0), .lit (.int .i64 2066)], .agg [.lit (.int .i64 0), .lit (.int .i64 2066)], .agg [.lit (.int .i64 0), .lit (.int .i64 2066)], .agg [.lit (.int .i64 0), .lit (.int .i64 2066)]], .agg [.agg [.lit (.int .i64 4), .lit (.int .i64 0)], .agg [.lit (.int .i64 0), .lit (.int .i64 2066)], .agg [.lit (.int .i64 4), .lit (.int .i64 0)], .agg [.lit (.int .i64 0), .lit (.int .i64 2048)], .agg [.lit (.int .i64 0), .lit (.int .i64 2066)], .agg [.lit (.int .i64 0), .lit (.int .i64 2066)], .agg [.lit (.int .i64 4), .lit (.int .i64 1032)], .agg [.lit (.int .i64 0), .lit (.int .i64 2066)], .agg [.lit (.int .i64 0), .lit (.int .i64 2066)], .agg [.lit (.int .i64 0), .lit (.int .i64 2066)], .agg [.lit (.int .i64 0), .lit (.int .i64 2066)], .agg [.lit (.int .i64 0), .lit (.int .i64 2050)], .agg [.lit (.int .i64 5), .lit (.int .i64 544)], .agg [.lit (.int .i64 0), .lit (.int .i64 2066)], .agg [.lit (.int .i64 0), .lit (.int .i64 2066)], .agg [.lit (.int .i64 0), .lit (.int .i64 2066)]], .agg [.agg [.lit (.int .i64 5), .lit (.int .i64 0)], .agg [.lit (.int .i64 0), .lit (.int .i64 2130)], .agg [.lit (.int .i64 5), .lit (.int .i64 0)], .agg [.lit (.int .i64 0), .lit (.int .i64 2112)], .agg [.lit (.int .i64 0), .lit (.int .i64 2130)], .agg [.lit (.int .i64 0), .lit (.int .i64 2130)], .agg [.lit (.int .i64 5), .lit (.int .i64 1032)], .agg [.lit (.int .i64 0), .lit (.int .i64 2130)], .agg [.lit (.int .i64 0), .lit (.int .i64 2130)], .agg [.lit (.int .i64 0), .lit (.int .i64 2130)], .agg [.lit (.int .i64 0), .lit (.int .i64 2130)], .agg [.lit (.int .i64 0), .lit (.int .i64 2114)], .agg [.lit (.int .i64 5), .lit (.int .i64 512)], .agg [.lit (.int .i64 5), .lit (.int .i64 512)], .agg [.lit (.int .i64 0), .lit (.int .i64 2130)], .agg [.lit (.int .i64 0), .lit (.int .i64 2130)]]]
def laid_speculum_octet_digits {H : Type} : DataW H := .agg [.lit (.int .u8 48), .lit (.int .u8 49), .lit (.int .u8 50), .lit (.int .u8 51), .lit (.int .u8 52), .lit (.int .u8 53), .lit (.int .u8 54), .lit (.int .u8 55), .lit (.int .u8 56), .lit (.int .u8 57), .lit (.int .u8 97), .lit (.int .u8 98), .lit (.int .u8 99), .lit (.int .u8 100), .lit (.int .u8 101), .lit (.int .u8 102)]
def laid_speculum_frame_leasts {H : Type} : DataW H := .agg [.lit (.int .i64 0), .lit (.int .i64 29), .lit (.int .i64 23), .lit (.int .i64 21), .lit (.int .i64 19)]

/-- 'speculumlaw21.FsmSteps': WHATEVER THE INPUT: true; the input reads as it did. -/
def fsmStepsSpec : ChangeSpec := { name := "fsmSteps", fn := fun _ => fun
  | [d1, d2] => { results := [.lit (.bool true)], args := [d1, d2] }
  | _ => none }
def fsmStepsRow : OpenClaim := { program := "ytdcldmblgbefnaadoor", sum := "6e5e77fa985c5f952b1253401da7637ce534f62069b40eb1aa1675021dfa9adf", func := "speculum/speculumlaw21.FsmSteps", spec := "fsmSteps", named := ["speculum/fsm.table"], apart := false, laid := [("speculum/fsm.table", laid_speculum_fsm_table)] }
def FsmStepsSaid : Prop := fsmStepsRow.holds Tryd.pinned (OpenSpec.ofChange fsmStepsSpec)

/-- ITS FALSE NEIGHBOUR: 'it returns false'. Refute it at one input. -/
def fsmStepsWrong : ChangeSpec := { name := "fsmSteps", fn := fun _ => fun
  | [d1, d2] => { results := [.lit (.bool false)], args := [d1, d2] }
  | _ => none }
def FsmStepsWrongFalsely : Prop := fsmStepsRow.holds Tryd.pinned (OpenSpec.ofChange fsmStepsWrong)

/-- 'speculumlaw21.FsmFaults': WHATEVER THE INPUT: true; the input reads as it did. -/
def fsmFaultsSpec : ChangeSpec := { name := "fsmFaults", fn := fun _ => fun
  | [d1, d2] => { results := [.lit (.bool true)], args := [d1, d2] }
  | _ => none }
def fsmFaultsRow : OpenClaim := { program := "ytdcldmblgbefnaadoor", sum := "6e5e77fa985c5f952b1253401da7637ce534f62069b40eb1aa1675021dfa9adf", func := "speculum/speculumlaw21.FsmFaults", spec := "fsmFaults", named := ["speculum/fsm.table"], apart := false, laid := [("speculum/fsm.table", laid_speculum_fsm_table)] }
def FsmFaultsSaid : Prop := fsmFaultsRow.holds Tryd.pinned (OpenSpec.ofChange fsmFaultsSpec)

/-- ITS FALSE NEIGHBOUR: 'it returns false'. Refute it at one input. -/
def fsmFaultsWrong : ChangeSpec := { name := "fsmFaults", fn := fun _ => fun
  | [d1, d2] => { results := [.lit (.bool false)], args := [d1, d2] }
  | _ => none }
def FsmFaultsWrongFalsely : Prop := fsmFaultsRow.holds Tryd.pinned (OpenSpec.ofChange fsmFaultsWrong)

/-- 'speculumlaw21.FsmFalls': WHATEVER THE INPUT: true; the input reads as it did. -/
def fsmFallsSpec : ChangeSpec := { name := "fsmFalls", fn := fun _ => fun
  | [] => { results := [.lit (.bool true)], args := [] }
  | _ => none }
def fsmFallsRow : OpenClaim := { program := "ytdcldmblgbefnaadoor", sum := "6e5e77fa985c5f952b1253401da7637ce534f62069b40eb1aa1675021dfa9adf", func := "speculum/speculumlaw21.FsmFalls", spec := "fsmFalls", named := ["speculum/fsm.table"], apart := false, laid := [("speculum/fsm.table", laid_speculum_fsm_table)] }
def FsmFallsSaid : Prop := fsmFallsRow.holds Tryd.pinned (OpenSpec.ofChange fsmFallsSpec)

/-- ITS FALSE NEIGHBOUR: 'it returns false'. Refute it at one input. -/
def fsmFallsWrong : ChangeSpec := { name := "fsmFalls", fn := fun _ => fun
  | [] => { results := [.lit (.bool false)], args := [] }
  | _ => none }
def FsmFallsWrongFalsely : Prop := fsmFallsRow.holds Tryd.pinned (OpenSpec.ofChange fsmFallsWrong)

/-- 'speculumlaw01.OctetPuts': WHATEVER THE INPUT: true; the input reads as it did. -/
def octetPutsSpec : ChangeSpec := { name := "octetPuts", fn := fun _ => fun
  | [d1, d2, d3] => { results := [.lit (.bool true)], args := [d1, d2, d3] }
  | _ => none }
def octetPutsRow : OpenClaim := { program := "ytdcldmblgbefnaadoor", sum := "6e5e77fa985c5f952b1253401da7637ce534f62069b40eb1aa1675021dfa9adf", func := "speculum/speculumlaw01.OctetPuts", spec := "octetPuts", named := ["speculum/octet.digits"], apart := false, laid := [("speculum/octet.digits", laid_speculum_octet_digits)] }
def OctetPutsSaid : Prop := octetPutsRow.holds Tryd.pinned (OpenSpec.ofChange octetPutsSpec)

/-- ITS FALSE NEIGHBOUR: 'it returns false'. Refute it at one input. -/
def octetPutsWrong : ChangeSpec := { name := "octetPuts", fn := fun _ => fun
  | [d1, d2, d3] => { results := [.lit (.bool false)], args := [d1, d2, d3] }
  | _ => none }
def OctetPutsWrongFalsely : Prop := octetPutsRow.holds Tryd.pinned (OpenSpec.ofChange octetPutsWrong)

/-- 'speculumlaw01.OctetHex': WHATEVER THE INPUT: true; the input reads as it did. -/
def octetHexSpec : ChangeSpec := { name := "octetHex", fn := fun _ => fun
  | [d1, d2] => { results := [.lit (.bool true)], args := [d1, d2] }
  | _ => none }
def octetHexRow : OpenClaim := { program := "ytdcldmblgbefnaadoor", sum := "6e5e77fa985c5f952b1253401da7637ce534f62069b40eb1aa1675021dfa9adf", func := "speculum/speculumlaw01.OctetHex", spec := "octetHex", named := ["speculum/octet.digits"], apart := false, laid := [("speculum/octet.digits", laid_speculum_octet_digits)] }
def OctetHexSaid : Prop := octetHexRow.holds Tryd.pinned (OpenSpec.ofChange octetHexSpec)

/-- ITS FALSE NEIGHBOUR: 'it returns false'. Refute it at one input. -/
def octetHexWrong : ChangeSpec := { name := "octetHex", fn := fun _ => fun
  | [d1, d2] => { results := [.lit (.bool false)], args := [d1, d2] }
  | _ => none }
def OctetHexWrongFalsely : Prop := octetHexRow.holds Tryd.pinned (OpenSpec.ofChange octetHexWrong)

/-- 'speculumlaw01.OctetDigits': WHATEVER THE INPUT: true; the input reads as it did. -/
def octetDigitsSpec : ChangeSpec := { name := "octetDigits", fn := fun _ => fun
  | [d1, d2] => { results := [.lit (.bool true)], args := [d1, d2] }
  | _ => none }
def octetDigitsRow : OpenClaim := { program := "ytdcldmblgbefnaadoor", sum := "6e5e77fa985c5f952b1253401da7637ce534f62069b40eb1aa1675021dfa9adf", func := "speculum/speculumlaw01.OctetDigits", spec := "octetDigits", named := ["speculum/octet.digits"], apart := false, laid := [("speculum/octet.digits", laid_speculum_octet_digits)] }
def OctetDigitsSaid : Prop := octetDigitsRow.holds Tryd.pinned (OpenSpec.ofChange octetDigitsSpec)

/-- ITS FALSE NEIGHBOUR: 'it returns false'. Refute it at one input. -/
def octetDigitsWrong : ChangeSpec := { name := "octetDigits", fn := fun _ => fun
  | [d1, d2] => { results := [.lit (.bool false)], args := [d1, d2] }
  | _ => none }
def OctetDigitsWrongFalsely : Prop := octetDigitsRow.holds Tryd.pinned (OpenSpec.ofChange octetDigitsWrong)

/-- 'speculumlaw21.FsmLegal': WHATEVER THE INPUT: true; the input reads as it did. -/
def fsmLegalSpec : ChangeSpec := { name := "fsmLegal", fn := fun _ => fun
  | [d] => { results := [.lit (.bool true)], args := [d] }
  | _ => none }
def fsmLegalRow : OpenClaim := { program := "ytdcldmblgbefnaadoor", sum := "6e5e77fa985c5f952b1253401da7637ce534f62069b40eb1aa1675021dfa9adf", func := "speculum/speculumlaw21.FsmLegal", spec := "fsmLegal", named := ["speculum/fsm.table"], apart := false, laid := [("speculum/fsm.table", laid_speculum_fsm_table)] }
def FsmLegalSaid : Prop := fsmLegalRow.holds Tryd.pinned (OpenSpec.ofChange fsmLegalSpec)

/-- ITS FALSE NEIGHBOUR: 'it returns false'. Refute it at one input. -/
def fsmLegalWrong : ChangeSpec := { name := "fsmLegal", fn := fun _ => fun
  | [d] => { results := [.lit (.bool false)], args := [d] }
  | _ => none }
def FsmLegalWrongFalsely : Prop := fsmLegalRow.holds Tryd.pinned (OpenSpec.ofChange fsmLegalWrong)

/-- 'speculumlaw01.OctetTakes': WHATEVER THE INPUT: true; the input reads as it did. -/
def octetTakesSpec : ChangeSpec := { name := "octetTakes", fn := fun _ => fun
  | [d1, d2] => { results := [.lit (.bool true)], args := [d1, d2] }
  | _ => none }
def octetTakesRow : OpenClaim := { program := "ytdcldmblgbefnaadoor", sum := "6e5e77fa985c5f952b1253401da7637ce534f62069b40eb1aa1675021dfa9adf", func := "speculum/speculumlaw01.OctetTakes", spec := "octetTakes", named := ["speculum/octet.digits"], apart := false, laid := [("speculum/octet.digits", laid_speculum_octet_digits)] }
def OctetTakesSaid : Prop := octetTakesRow.holds Tryd.pinned (OpenSpec.ofChange octetTakesSpec)

/-- ITS FALSE NEIGHBOUR: 'it returns false'. Refute it at one input. -/
def octetTakesWrong : ChangeSpec := { name := "octetTakes", fn := fun _ => fun
  | [d1, d2] => { results := [.lit (.bool false)], args := [d1, d2] }
  | _ => none }
def OctetTakesWrongFalsely : Prop := octetTakesRow.holds Tryd.pinned (OpenSpec.ofChange octetTakesWrong)

/-- 'speculumlaw01.OctetNobody': WHATEVER THE INPUT: true; the input reads as it did. -/
def octetNobodySpec : ChangeSpec := { name := "octetNobody", fn := fun _ => fun
  | [d] => { results := [.lit (.bool true)], args := [d] }
  | _ => none }
def octetNobodyRow : OpenClaim := { program := "ytdcldmblgbefnaadoor", sum := "6e5e77fa985c5f952b1253401da7637ce534f62069b40eb1aa1675021dfa9adf", func := "speculum/speculumlaw01.OctetNobody", spec := "octetNobody", named := ["speculum/octet.digits"], apart := false, laid := [("speculum/octet.digits", laid_speculum_octet_digits)] }
def OctetNobodySaid : Prop := octetNobodyRow.holds Tryd.pinned (OpenSpec.ofChange octetNobodySpec)

/-- ITS FALSE NEIGHBOUR: 'it returns false'. Refute it at one input. -/
def octetNobodyWrong : ChangeSpec := { name := "octetNobody", fn := fun _ => fun
  | [d] => { results := [.lit (.bool false)], args := [d] }
  | _ => none }
def OctetNobodyWrongFalsely : Prop := octetNobodyRow.holds Tryd.pinned (OpenSpec.ofChange octetNobodyWrong)

/-- 'speculumlaw01.OctetReads': WHATEVER THE INPUT: true; the input reads as it did. -/
def octetReadsSpec : ChangeSpec := { name := "octetReads", fn := fun _ => fun
  | [d1, d2] => { results := [.lit (.bool true)], args := [d1, d2] }
  | _ => none }
def octetReadsRow : OpenClaim := { program := "ytdcldmblgbefnaadoor", sum := "6e5e77fa985c5f952b1253401da7637ce534f62069b40eb1aa1675021dfa9adf", func := "speculum/speculumlaw01.OctetReads", spec := "octetReads", named := ["speculum/octet.digits"], apart := false, laid := [("speculum/octet.digits", laid_speculum_octet_digits)] }
def OctetReadsSaid : Prop := octetReadsRow.holds Tryd.pinned (OpenSpec.ofChange octetReadsSpec)

/-- ITS FALSE NEIGHBOUR: 'it returns false'. Refute it at one input. -/
def octetReadsWrong : ChangeSpec := { name := "octetReads", fn := fun _ => fun
  | [d1, d2] => { results := [.lit (.bool false)], args := [d1, d2] }
  | _ => none }
def OctetReadsWrongFalsely : Prop := octetReadsRow.holds Tryd.pinned (OpenSpec.ofChange octetReadsWrong)

/-- 'speculumlaw01.OctetBack': WHATEVER THE INPUT: true; the input reads as it did. -/
def octetBackSpec : ChangeSpec := { name := "octetBack", fn := fun _ => fun
  | [d1, d2, d3] => { results := [.lit (.bool true)], args := [d1, d2, d3] }
  | _ => none }
def octetBackRow : OpenClaim := { program := "ytdcldmblgbefnaadoor", sum := "6e5e77fa985c5f952b1253401da7637ce534f62069b40eb1aa1675021dfa9adf", func := "speculum/speculumlaw01.OctetBack", spec := "octetBack", named := ["speculum/octet.digits"], apart := false, laid := [("speculum/octet.digits", laid_speculum_octet_digits)] }
def OctetBackSaid : Prop := octetBackRow.holds Tryd.pinned (OpenSpec.ofChange octetBackSpec)

/-- ITS FALSE NEIGHBOUR: 'it returns false'. Refute it at one input. -/
def octetBackWrong : ChangeSpec := { name := "octetBack", fn := fun _ => fun
  | [d1, d2, d3] => { results := [.lit (.bool false)], args := [d1, d2, d3] }
  | _ => none }
def OctetBackWrongFalsely : Prop := octetBackRow.holds Tryd.pinned (OpenSpec.ofChange octetBackWrong)

/-- 'speculumlaw07.FramePuts': WHATEVER THE INPUT: true; the input reads as it did. -/
def framePutsSpec : ChangeSpec := { name := "framePuts", fn := fun _ => fun
  | [d1, d2] => { results := [.lit (.bool true)], args := [d1, d2] }
  | _ => none }
def framePutsRow : OpenClaim := { program := "ytdcldmblgbefnaadoor", sum := "6e5e77fa985c5f952b1253401da7637ce534f62069b40eb1aa1675021dfa9adf", func := "speculum/speculumlaw07.FramePuts", spec := "framePuts", named := ["speculum/frame.leasts"], apart := false, laid := [("speculum/frame.leasts", laid_speculum_frame_leasts)] }
def FramePutsSaid : Prop := framePutsRow.holds Tryd.pinned (OpenSpec.ofChange framePutsSpec)

/-- ITS FALSE NEIGHBOUR: 'it returns false'. Refute it at one input. -/
def framePutsWrong : ChangeSpec := { name := "framePuts", fn := fun _ => fun
  | [d1, d2] => { results := [.lit (.bool false)], args := [d1, d2] }
  | _ => none }
def FramePutsWrongFalsely : Prop := framePutsRow.holds Tryd.pinned (OpenSpec.ofChange framePutsWrong)

/-- 'speculumlaw07.FrameNext': WHATEVER THE INPUT: true; the input reads as it did. -/
def frameNextSpec : ChangeSpec := { name := "frameNext", fn := fun _ => fun
  | [d] => { results := [.lit (.bool true)], args := [d] }
  | _ => none }
def frameNextRow : OpenClaim := { program := "ytdcldmblgbefnaadoor", sum := "6e5e77fa985c5f952b1253401da7637ce534f62069b40eb1aa1675021dfa9adf", func := "speculum/speculumlaw07.FrameNext", spec := "frameNext", named := ["speculum/frame.leasts"], apart := false, laid := [("speculum/frame.leasts", laid_speculum_frame_leasts)] }
def FrameNextSaid : Prop := frameNextRow.holds Tryd.pinned (OpenSpec.ofChange frameNextSpec)

/-- ITS FALSE NEIGHBOUR: 'it returns false'. Refute it at one input. -/
def frameNextWrong : ChangeSpec := { name := "frameNext", fn := fun _ => fun
  | [d] => { results := [.lit (.bool false)], args := [d] }
  | _ => none }
def FrameNextWrongFalsely : Prop := frameNextRow.holds Tryd.pinned (OpenSpec.ofChange frameNextWrong)

/-- 'speculumlaw08.NoticeTexts': WHATEVER THE INPUT: true; the input reads as it did. -/
def noticeTextsSpec : ChangeSpec := { name := "noticeTexts", fn := fun _ => fun
  | [d] => { results := [.lit (.bool true)], args := [d] }
  | _ => none }
def noticeTextsRow : OpenClaim := { program := "ytdcldmblgbefnaadoor", sum := "6e5e77fa985c5f952b1253401da7637ce534f62069b40eb1aa1675021dfa9adf", func := "speculum/speculumlaw08.NoticeTexts", spec := "noticeTexts", named := ["speculum/octet.digits"], apart := false, laid := [("speculum/octet.digits", laid_speculum_octet_digits)] }
def NoticeTextsSaid : Prop := noticeTextsRow.holds Tryd.pinned (OpenSpec.ofChange noticeTextsSpec)

/-- ITS FALSE NEIGHBOUR: 'it returns false'. Refute it at one input. -/
def noticeTextsWrong : ChangeSpec := { name := "noticeTexts", fn := fun _ => fun
  | [d] => { results := [.lit (.bool false)], args := [d] }
  | _ => none }
def NoticeTextsWrongFalsely : Prop := noticeTextsRow.holds Tryd.pinned (OpenSpec.ofChange noticeTextsWrong)

/-- 'speculumlaw08.NoticeNames': WHATEVER THE INPUT: true; the input reads as it did. -/
def noticeNamesSpec : ChangeSpec := { name := "noticeNames", fn := fun _ => fun
  | [d1, d2] => { results := [.lit (.bool true)], args := [d1, d2] }
  | _ => none }
def noticeNamesRow : OpenClaim := { program := "ytdcldmblgbefnaadoor", sum := "6e5e77fa985c5f952b1253401da7637ce534f62069b40eb1aa1675021dfa9adf", func := "speculum/speculumlaw08.NoticeNames", spec := "noticeNames", named := ["speculum/octet.digits"], apart := false, laid := [("speculum/octet.digits", laid_speculum_octet_digits)] }
def NoticeNamesSaid : Prop := noticeNamesRow.holds Tryd.pinned (OpenSpec.ofChange noticeNamesSpec)

/-- ITS FALSE NEIGHBOUR: 'it returns false'. Refute it at one input. -/
def noticeNamesWrong : ChangeSpec := { name := "noticeNames", fn := fun _ => fun
  | [d1, d2] => { results := [.lit (.bool false)], args := [d1, d2] }
  | _ => none }
def NoticeNamesWrongFalsely : Prop := noticeNamesRow.holds Tryd.pinned (OpenSpec.ofChange noticeNamesWrong)

/-- 'speculumlaw08.NoticePuts': WHATEVER THE INPUT: true; the input reads as it did. -/
def noticePutsSpec : ChangeSpec := { name := "noticePuts", fn := fun _ => fun
  | [d] => { results := [.lit (.bool true)], args := [d] }
  | _ => none }
def noticePutsRow : OpenClaim := { program := "ytdcldmblgbefnaadoor", sum := "6e5e77fa985c5f952b1253401da7637ce534f62069b40eb1aa1675021dfa9adf", func := "speculum/speculumlaw08.NoticePuts", spec := "noticePuts", named := ["speculum/octet.digits"], apart := false, laid := [("speculum/octet.digits", laid_speculum_octet_digits)] }
def NoticePutsSaid : Prop := noticePutsRow.holds Tryd.pinned (OpenSpec.ofChange noticePutsSpec)

/-- ITS FALSE NEIGHBOUR: 'it returns false'. Refute it at one input. -/
def noticePutsWrong : ChangeSpec := { name := "noticePuts", fn := fun _ => fun
  | [d] => { results := [.lit (.bool false)], args := [d] }
  | _ => none }
def NoticePutsWrongFalsely : Prop := noticePutsRow.holds Tryd.pinned (OpenSpec.ofChange noticePutsWrong)

/-- 'speculumlaw07.FrameStreams': WHATEVER THE INPUT: true; the input reads as it did. -/
def frameStreamsSpec : ChangeSpec := { name := "frameStreams", fn := fun _ => fun
  | [d1, d2] => { results := [.lit (.bool true)], args := [d1, d2] }
  | _ => none }
def frameStreamsRow : OpenClaim := { program := "ytdcldmblgbefnaadoor", sum := "6e5e77fa985c5f952b1253401da7637ce534f62069b40eb1aa1675021dfa9adf", func := "speculum/speculumlaw07.FrameStreams", spec := "frameStreams", named := ["speculum/frame.leasts"], apart := false, laid := [("speculum/frame.leasts", laid_speculum_frame_leasts)] }
def FrameStreamsSaid : Prop := frameStreamsRow.holds Tryd.pinned (OpenSpec.ofChange frameStreamsSpec)

/-- ITS FALSE NEIGHBOUR: 'it returns false'. Refute it at one input. -/
def frameStreamsWrong : ChangeSpec := { name := "frameStreams", fn := fun _ => fun
  | [d1, d2] => { results := [.lit (.bool false)], args := [d1, d2] }
  | _ => none }
def FrameStreamsWrongFalsely : Prop := frameStreamsRow.holds Tryd.pinned (OpenSpec.ofChange frameStreamsWrong)

/-- 'speculumlaw07.FrameBack': WHATEVER THE INPUT: true; the input reads as it did. -/
def frameBackSpec : ChangeSpec := { name := "frameBack", fn := fun _ => fun
  | [d] => { results := [.lit (.bool true)], args := [d] }
  | _ => none }
def frameBackRow : OpenClaim := { program := "ytdcldmblgbefnaadoor", sum := "6e5e77fa985c5f952b1253401da7637ce534f62069b40eb1aa1675021dfa9adf", func := "speculum/speculumlaw07.FrameBack", spec := "frameBack", named := ["speculum/frame.leasts"], apart := false, laid := [("speculum/frame.leasts", laid_speculum_frame_leasts)] }
def FrameBackSaid : Prop := frameBackRow.holds Tryd.pinned (OpenSpec.ofChange frameBackSpec)

/-- ITS FALSE NEIGHBOUR: 'it returns false'. Refute it at one input. -/
def frameBackWrong : ChangeSpec := { name := "frameBack", fn := fun _ => fun
  | [d] => { results := [.lit (.bool false)], args := [d] }
  | _ => none }
def FrameBackWrongFalsely : Prop := frameBackRow.holds Tryd.pinned (OpenSpec.ofChange frameBackWrong)

/-- 'speculumlaw07.FrameNobody': WHATEVER THE INPUT: true; the input reads as it did. -/
def frameNobodySpec : ChangeSpec := { name := "frameNobody", fn := fun _ => fun
  | [d] => { results := [.lit (.bool true)], args := [d] }
  | _ => none }
def frameNobodyRow : OpenClaim := { program := "ytdcldmblgbefnaadoor", sum := "6e5e77fa985c5f952b1253401da7637ce534f62069b40eb1aa1675021dfa9adf", func := "speculum/speculumlaw07.FrameNobody", spec := "frameNobody", named := ["speculum/frame.leasts"], apart := false, laid := [("speculum/frame.leasts", laid_speculum_frame_leasts)] }
def FrameNobodySaid : Prop := frameNobodyRow.holds Tryd.pinned (OpenSpec.ofChange frameNobodySpec)

/-- ITS FALSE NEIGHBOUR: 'it returns false'. Refute it at one input. -/
def frameNobodyWrong : ChangeSpec := { name := "frameNobody", fn := fun _ => fun
  | [d] => { results := [.lit (.bool false)], args := [d] }
  | _ => none }
def FrameNobodyWrongFalsely : Prop := frameNobodyRow.holds Tryd.pinned (OpenSpec.ofChange frameNobodyWrong)

/-- 'speculumlaw08.NoticeReads': WHATEVER THE INPUT: true; the input reads as it did. -/
def noticeReadsSpec : ChangeSpec := { name := "noticeReads", fn := fun _ => fun
  | [d1, d2] => { results := [.lit (.bool true)], args := [d1, d2] }
  | _ => none }
def noticeReadsRow : OpenClaim := { program := "ytdcldmblgbefnaadoor", sum := "6e5e77fa985c5f952b1253401da7637ce534f62069b40eb1aa1675021dfa9adf", func := "speculum/speculumlaw08.NoticeReads", spec := "noticeReads", named := ["speculum/octet.digits"], apart := false, laid := [("speculum/octet.digits", laid_speculum_octet_digits)] }
def NoticeReadsSaid : Prop := noticeReadsRow.holds Tryd.pinned (OpenSpec.ofChange noticeReadsSpec)

/-- ITS FALSE NEIGHBOUR: 'it returns false'. Refute it at one input. -/
def noticeReadsWrong : ChangeSpec := { name := "noticeReads", fn := fun _ => fun
  | [d1, d2] => { results := [.lit (.bool false)], args := [d1, d2] }
  | _ => none }
def NoticeReadsWrongFalsely : Prop := noticeReadsRow.holds Tryd.pinned (OpenSpec.ofChange noticeReadsWrong)

/- THE SECOND FORM. 'bulk': how many values and letters a reading holds, each counted each time it is reached (what is shared counts as often as it is met; a slice's spare places count too). A statement '..UptoSaid' is the law's where the arguments, and the package variables that the reading takes, are together of bulk at most 1048576: NARROWER than '..Said'. Prove '..Said' where nothing that the law and all that it calls make is longer than what came in: it says more and counts as full. Else prove '..UptoSaid'. A law counts once. -/
mutual
def uptoBulk {H : Type} : DataW H → Nat
  | .lit (.string bytes) => bytes.length + 1
  | .lit _ => 1
  | .nil => 1
  | .ptr d => uptoBulk d + 1
  | .slice elems spare => uptoBulkAll elems + uptoBulkAll spare + 1
  | .agg parts => uptoBulkAll parts + 1
  | .iface _ d => uptoBulk d + 1
  | .map entries => uptoBulkEntries entries + 1
  | .held _ => 1
def uptoBulkAll {H : Type} : List (DataW H) → Nat
  | [] => 0
  | d :: r => uptoBulk d + uptoBulkAll r
def uptoBulkEntries {H : Type} : List (Lit × DataW H) → Nat
  | [] => 0
  | x :: r => uptoBulkEntry x + uptoBulkEntries r
def uptoBulkEntry {H : Type} : Lit × DataW H → Nat
  | (.string bytes, d) => bytes.length + uptoBulk d + 1
  | (_, d) => uptoBulk d + 1
 end
def uptoSmall : (H : Type) → List (DataW H) → Bool := fun _ ds => decide (uptoBulkAll ds ≤ 1048576)
def OpenSpec.upto (s : _root_.Go.ChangeSpec) : _root_.Go.OpenSpec := { _root_.Go.OpenSpec.ofChange s with cond := some uptoSmall }

/-- 'speculumlaw21.FsmSteps', WHERE WHAT IT READS IS OF BULK AT MOST 1048576: true; the input reads as it did. -/
def fsmStepsUptoRow : OpenClaim := { program := "ytdcldmblgbefnaadoor", sum := "6e5e77fa985c5f952b1253401da7637ce534f62069b40eb1aa1675021dfa9adf", func := "speculum/speculumlaw21.FsmSteps", spec := "fsmSteps", named := ["speculum/fsm.table"], apart := false, laid := [("speculum/fsm.table", laid_speculum_fsm_table)], narrowed := true }
def FsmStepsUptoSaid : Prop := fsmStepsUptoRow.holds Tryd.pinned (OpenSpec.upto fsmStepsSpec)

/-- 'speculumlaw21.FsmFaults', WHERE WHAT IT READS IS OF BULK AT MOST 1048576: true; the input reads as it did. -/
def fsmFaultsUptoRow : OpenClaim := { program := "ytdcldmblgbefnaadoor", sum := "6e5e77fa985c5f952b1253401da7637ce534f62069b40eb1aa1675021dfa9adf", func := "speculum/speculumlaw21.FsmFaults", spec := "fsmFaults", named := ["speculum/fsm.table"], apart := false, laid := [("speculum/fsm.table", laid_speculum_fsm_table)], narrowed := true }
def FsmFaultsUptoSaid : Prop := fsmFaultsUptoRow.holds Tryd.pinned (OpenSpec.upto fsmFaultsSpec)

/-- 'speculumlaw21.FsmFalls', WHERE WHAT IT READS IS OF BULK AT MOST 1048576: true; the input reads as it did. -/
def fsmFallsUptoRow : OpenClaim := { program := "ytdcldmblgbefnaadoor", sum := "6e5e77fa985c5f952b1253401da7637ce534f62069b40eb1aa1675021dfa9adf", func := "speculum/speculumlaw21.FsmFalls", spec := "fsmFalls", named := ["speculum/fsm.table"], apart := false, laid := [("speculum/fsm.table", laid_speculum_fsm_table)], narrowed := true }
def FsmFallsUptoSaid : Prop := fsmFallsUptoRow.holds Tryd.pinned (OpenSpec.upto fsmFallsSpec)

/-- 'speculumlaw01.OctetPuts', WHERE WHAT IT READS IS OF BULK AT MOST 1048576: true; the input reads as it did. -/
def octetPutsUptoRow : OpenClaim := { program := "ytdcldmblgbefnaadoor", sum := "6e5e77fa985c5f952b1253401da7637ce534f62069b40eb1aa1675021dfa9adf", func := "speculum/speculumlaw01.OctetPuts", spec := "octetPuts", named := ["speculum/octet.digits"], apart := false, laid := [("speculum/octet.digits", laid_speculum_octet_digits)], narrowed := true }
def OctetPutsUptoSaid : Prop := octetPutsUptoRow.holds Tryd.pinned (OpenSpec.upto octetPutsSpec)

/-- 'speculumlaw01.OctetHex', WHERE WHAT IT READS IS OF BULK AT MOST 1048576: true; the input reads as it did. -/
def octetHexUptoRow : OpenClaim := { program := "ytdcldmblgbefnaadoor", sum := "6e5e77fa985c5f952b1253401da7637ce534f62069b40eb1aa1675021dfa9adf", func := "speculum/speculumlaw01.OctetHex", spec := "octetHex", named := ["speculum/octet.digits"], apart := false, laid := [("speculum/octet.digits", laid_speculum_octet_digits)], narrowed := true }
def OctetHexUptoSaid : Prop := octetHexUptoRow.holds Tryd.pinned (OpenSpec.upto octetHexSpec)

/-- 'speculumlaw01.OctetDigits', WHERE WHAT IT READS IS OF BULK AT MOST 1048576: true; the input reads as it did. -/
def octetDigitsUptoRow : OpenClaim := { program := "ytdcldmblgbefnaadoor", sum := "6e5e77fa985c5f952b1253401da7637ce534f62069b40eb1aa1675021dfa9adf", func := "speculum/speculumlaw01.OctetDigits", spec := "octetDigits", named := ["speculum/octet.digits"], apart := false, laid := [("speculum/octet.digits", laid_speculum_octet_digits)], narrowed := true }
def OctetDigitsUptoSaid : Prop := octetDigitsUptoRow.holds Tryd.pinned (OpenSpec.upto octetDigitsSpec)

/-- 'speculumlaw21.FsmLegal', WHERE WHAT IT READS IS OF BULK AT MOST 1048576: true; the input reads as it did. -/
def fsmLegalUptoRow : OpenClaim := { program := "ytdcldmblgbefnaadoor", sum := "6e5e77fa985c5f952b1253401da7637ce534f62069b40eb1aa1675021dfa9adf", func := "speculum/speculumlaw21.FsmLegal", spec := "fsmLegal", named := ["speculum/fsm.table"], apart := false, laid := [("speculum/fsm.table", laid_speculum_fsm_table)], narrowed := true }
def FsmLegalUptoSaid : Prop := fsmLegalUptoRow.holds Tryd.pinned (OpenSpec.upto fsmLegalSpec)

/-- 'speculumlaw01.OctetTakes', WHERE WHAT IT READS IS OF BULK AT MOST 1048576: true; the input reads as it did. -/
def octetTakesUptoRow : OpenClaim := { program := "ytdcldmblgbefnaadoor", sum := "6e5e77fa985c5f952b1253401da7637ce534f62069b40eb1aa1675021dfa9adf", func := "speculum/speculumlaw01.OctetTakes", spec := "octetTakes", named := ["speculum/octet.digits"], apart := false, laid := [("speculum/octet.digits", laid_speculum_octet_digits)], narrowed := true }
def OctetTakesUptoSaid : Prop := octetTakesUptoRow.holds Tryd.pinned (OpenSpec.upto octetTakesSpec)

/-- 'speculumlaw01.OctetNobody', WHERE WHAT IT READS IS OF BULK AT MOST 1048576: true; the input reads as it did. -/
def octetNobodyUptoRow : OpenClaim := { program := "ytdcldmblgbefnaadoor", sum := "6e5e77fa985c5f952b1253401da7637ce534f62069b40eb1aa1675021dfa9adf", func := "speculum/speculumlaw01.OctetNobody", spec := "octetNobody", named := ["speculum/octet.digits"], apart := false, laid := [("speculum/octet.digits", laid_speculum_octet_digits)], narrowed := true }
def OctetNobodyUptoSaid : Prop := octetNobodyUptoRow.holds Tryd.pinned (OpenSpec.upto octetNobodySpec)

/-- 'speculumlaw01.OctetReads', WHERE WHAT IT READS IS OF BULK AT MOST 1048576: true; the input reads as it did. -/
def octetReadsUptoRow : OpenClaim := { program := "ytdcldmblgbefnaadoor", sum := "6e5e77fa985c5f952b1253401da7637ce534f62069b40eb1aa1675021dfa9adf", func := "speculum/speculumlaw01.OctetReads", spec := "octetReads", named := ["speculum/octet.digits"], apart := false, laid := [("speculum/octet.digits", laid_speculum_octet_digits)], narrowed := true }
def OctetReadsUptoSaid : Prop := octetReadsUptoRow.holds Tryd.pinned (OpenSpec.upto octetReadsSpec)

/-- 'speculumlaw01.OctetBack', WHERE WHAT IT READS IS OF BULK AT MOST 1048576: true; the input reads as it did. -/
def octetBackUptoRow : OpenClaim := { program := "ytdcldmblgbefnaadoor", sum := "6e5e77fa985c5f952b1253401da7637ce534f62069b40eb1aa1675021dfa9adf", func := "speculum/speculumlaw01.OctetBack", spec := "octetBack", named := ["speculum/octet.digits"], apart := false, laid := [("speculum/octet.digits", laid_speculum_octet_digits)], narrowed := true }
def OctetBackUptoSaid : Prop := octetBackUptoRow.holds Tryd.pinned (OpenSpec.upto octetBackSpec)

/-- 'speculumlaw07.FramePuts', WHERE WHAT IT READS IS OF BULK AT MOST 1048576: true; the input reads as it did. -/
def framePutsUptoRow : OpenClaim := { program := "ytdcldmblgbefnaadoor", sum := "6e5e77fa985c5f952b1253401da7637ce534f62069b40eb1aa1675021dfa9adf", func := "speculum/speculumlaw07.FramePuts", spec := "framePuts", named := ["speculum/frame.leasts"], apart := false, laid := [("speculum/frame.leasts", laid_speculum_frame_leasts)], narrowed := true }
def FramePutsUptoSaid : Prop := framePutsUptoRow.holds Tryd.pinned (OpenSpec.upto framePutsSpec)

/-- 'speculumlaw07.FrameNext', WHERE WHAT IT READS IS OF BULK AT MOST 1048576: true; the input reads as it did. -/
def frameNextUptoRow : OpenClaim := { program := "ytdcldmblgbefnaadoor", sum := "6e5e77fa985c5f952b1253401da7637ce534f62069b40eb1aa1675021dfa9adf", func := "speculum/speculumlaw07.FrameNext", spec := "frameNext", named := ["speculum/frame.leasts"], apart := false, laid := [("speculum/frame.leasts", laid_speculum_frame_leasts)], narrowed := true }
def FrameNextUptoSaid : Prop := frameNextUptoRow.holds Tryd.pinned (OpenSpec.upto frameNextSpec)

/-- 'speculumlaw08.NoticeTexts', WHERE WHAT IT READS IS OF BULK AT MOST 1048576: true; the input reads as it did. -/
def noticeTextsUptoRow : OpenClaim := { program := "ytdcldmblgbefnaadoor", sum := "6e5e77fa985c5f952b1253401da7637ce534f62069b40eb1aa1675021dfa9adf", func := "speculum/speculumlaw08.NoticeTexts", spec := "noticeTexts", named := ["speculum/octet.digits"], apart := false, laid := [("speculum/octet.digits", laid_speculum_octet_digits)], narrowed := true }
def NoticeTextsUptoSaid : Prop := noticeTextsUptoRow.holds Tryd.pinned (OpenSpec.upto noticeTextsSpec)

/-- 'speculumlaw08.NoticeNames', WHERE WHAT IT READS IS OF BULK AT MOST 1048576: true; the input reads as it did. -/
def noticeNamesUptoRow : OpenClaim := { program := "ytdcldmblgbefnaadoor", sum := "6e5e77fa985c5f952b1253401da7637ce534f62069b40eb1aa1675021dfa9adf", func := "speculum/speculumlaw08.NoticeNames", spec := "noticeNames", named := ["speculum/octet.digits"], apart := false, laid := [("speculum/octet.digits", laid_speculum_octet_digits)], narrowed := true }
def NoticeNamesUptoSaid : Prop := noticeNamesUptoRow.holds Tryd.pinned (OpenSpec.upto noticeNamesSpec)

/-- 'speculumlaw08.NoticePuts', WHERE WHAT IT READS IS OF BULK AT MOST 1048576: true; the input reads as it did. -/
def noticePutsUptoRow : OpenClaim := { program := "ytdcldmblgbefnaadoor", sum := "6e5e77fa985c5f952b1253401da7637ce534f62069b40eb1aa1675021dfa9adf", func := "speculum/speculumlaw08.NoticePuts", spec := "noticePuts", named := ["speculum/octet.digits"], apart := false, laid := [("speculum/octet.digits", laid_speculum_octet_digits)], narrowed := true }
def NoticePutsUptoSaid : Prop := noticePutsUptoRow.holds Tryd.pinned (OpenSpec.upto noticePutsSpec)

/-- 'speculumlaw07.FrameStreams', WHERE WHAT IT READS IS OF BULK AT MOST 1048576: true; the input reads as it did. -/
def frameStreamsUptoRow : OpenClaim := { program := "ytdcldmblgbefnaadoor", sum := "6e5e77fa985c5f952b1253401da7637ce534f62069b40eb1aa1675021dfa9adf", func := "speculum/speculumlaw07.FrameStreams", spec := "frameStreams", named := ["speculum/frame.leasts"], apart := false, laid := [("speculum/frame.leasts", laid_speculum_frame_leasts)], narrowed := true }
def FrameStreamsUptoSaid : Prop := frameStreamsUptoRow.holds Tryd.pinned (OpenSpec.upto frameStreamsSpec)

/-- 'speculumlaw07.FrameBack', WHERE WHAT IT READS IS OF BULK AT MOST 1048576: true; the input reads as it did. -/
def frameBackUptoRow : OpenClaim := { program := "ytdcldmblgbefnaadoor", sum := "6e5e77fa985c5f952b1253401da7637ce534f62069b40eb1aa1675021dfa9adf", func := "speculum/speculumlaw07.FrameBack", spec := "frameBack", named := ["speculum/frame.leasts"], apart := false, laid := [("speculum/frame.leasts", laid_speculum_frame_leasts)], narrowed := true }
def FrameBackUptoSaid : Prop := frameBackUptoRow.holds Tryd.pinned (OpenSpec.upto frameBackSpec)

/-- 'speculumlaw07.FrameNobody', WHERE WHAT IT READS IS OF BULK AT MOST 1048576: true; the input reads as it did. -/
def frameNobodyUptoRow : OpenClaim := { program := "ytdcldmblgbefnaadoor", sum := "6e5e77fa985c5f952b1253401da7637ce534f62069b40eb1aa1675021dfa9adf", func := "speculum/speculumlaw07.FrameNobody", spec := "frameNobody", named := ["speculum/frame.leasts"], apart := false, laid := [("speculum/frame.leasts", laid_speculum_frame_leasts)], narrowed := true }
def FrameNobodyUptoSaid : Prop := frameNobodyUptoRow.holds Tryd.pinned (OpenSpec.upto frameNobodySpec)

/-- 'speculumlaw08.NoticeReads', WHERE WHAT IT READS IS OF BULK AT MOST 1048576: true; the input reads as it did. -/
def noticeReadsUptoRow : OpenClaim := { program := "ytdcldmblgbefnaadoor", sum := "6e5e77fa985c5f952b1253401da7637ce534f62069b40eb1aa1675021dfa9adf", func := "speculum/speculumlaw08.NoticeReads", spec := "noticeReads", named := ["speculum/octet.digits"], apart := false, laid := [("speculum/octet.digits", laid_speculum_octet_digits)], narrowed := true }
def NoticeReadsUptoSaid : Prop := noticeReadsUptoRow.holds Tryd.pinned (OpenSpec.upto noticeReadsSpec)

end Rows
end Go.Proofs.YtdcldmblgbefnaaDoor
