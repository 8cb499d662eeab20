/-
  NARROWER THAN 'FOR EVERY INPUT', by the rows' own cells (each row's printed sentence says how): SessionHolds: laid · SessionNobody: laid.
  DERIVED. THE GIVEN ROWS OF THIS SEAT. 2 by the template 'for every input the law returns true; each argument reads behind the call as it read before'; 0 by the template 'total and deterministic' (their statements: YthgjknmfghjioaaDoorTotals.lean).
  GIVEN WITH THE SEED: the statements are not yours to turn. If you find one false, say at which input.
  Laid BY PROGRAM, IN A SANDBOX (cutbox-rows.mjs): the forced cells as the released guide's own fill.sh prints them over the translation 5f557878d5b04222… (all of the seat's roots in one cut). By AI agents, Wed Nov 11 2026. No macro, syntax, notation, axiom, sorry.
-/
import Derived.Test.YthgjknmfghjioaaDoorChecked
import GoSem.Claim
import GoSem.ClaimJoined
import GoSem.ClaimMapViews
import Derived.JoinedTies
import Derived.KernelRfl
namespace Go.Proofs.YthgjknmfghjioaaDoor
/- THE CELL 'sum', in the pinned program and in every row, IS THE sha256 OF THE DUMP (.gsa) THAT YthgjknmfghjioaaDoorProg.lean LOADS. Nothing in Lean hashes anything: it is a label: what it is worth is what the hold of that sum in a sandbox is worth. -/
noncomputable def Tryd.pinned : Pinned := { name := "ythgjknmfghjioaadoor", sum := "5f557878d5b04222983fa7a0223c032223920f349348b08c8fbf2ba2e61d3afa", checked := Tryd.checked }
namespace Rows
def none {H : Type} : Left H := { results := [], args := [] }

/- WHAT THE LISTED PACKAGE-LEVEL VARIABLES READ AS WHEN THE CALL BEGINS. Each datum BY PROGRAM (the guide's laid-datum.mjs) off the statement by which the dump's own 'gosem.cut.vars' lays the variable. In a bare row this is a premise. The card (YthgjknmfghjioaaDoorCards.lean) ties it to the program's text. -/
def laid_speculum_frame_leasts {H : Type} : DataW H := .agg [.lit (.int .i64 0), .lit (.int .i64 29), .lit (.int .i64 23), .lit (.int .i64 21), .lit (.int .i64 19)]
def laid_speculum_fsm_table {H : Type} : DataW H := .agg [.agg [.agg [.lit (.int .i64 1), .lit (.int .i64 129)], .agg [.lit (.int .i64 0), .lit (.int .i64 0)], .agg [.lit (.int .i64 0), .lit (.int .i64 2)], .agg [.lit (.int .i64 0), .lit (.int .i64 0)], .agg [.lit (.int .i64 0), .lit (.int .i64 0)], .agg [.lit (.int .i64 0), .lit (.int .i64 0)], .agg [.lit (.int .i64 0), .lit (.int .i64 0)], .agg [.lit (.int .i64 0), .lit (.int .i64 0)], .agg [.lit (.int .i64 0), .lit (.int .i64 0)], .agg [.lit (.int .i64 0), .lit (.int .i64 0)], .agg [.lit (.int .i64 0), .lit (.int .i64 0)], .agg [.lit (.int .i64 0), .lit (.int .i64 0)], .agg [.lit (.int .i64 0), .lit (.int .i64 0)], .agg [.lit (.int .i64 0), .lit (.int .i64 0)], .agg [.lit (.int .i64 0), .lit (.int .i64 0)], .agg [.lit (.int .i64 0), .lit (.int .i64 0)]], .agg [.agg [.lit (.int .i64 1), .lit (.int .i64 0)], .agg [.lit (.int .i64 0), .lit (.int .i64 2050)], .agg [.lit (.int .i64 3), .lit (.int .i64 2308)], .agg [.lit (.int .i64 2), .lit (.int .i64 128)], .agg [.lit (.int .i64 1), .lit (.int .i64 129)], .agg [.lit (.int .i64 0), .lit (.int .i64 2050)], .agg [.lit (.int .i64 0), .lit (.int .i64 2050)], .agg [.lit (.int .i64 0), .lit (.int .i64 2050)], .agg [.lit (.int .i64 0), .lit (.int .i64 2050)], .agg [.lit (.int .i64 0), .lit (.int .i64 2050)], .agg [.lit (.int .i64 0), .lit (.int .i64 2050)], .agg [.lit (.int .i64 0), .lit (.int .i64 2050)], .agg [.lit (.int .i64 0), .lit (.int .i64 2050)], .agg [.lit (.int .i64 0), .lit (.int .i64 2050)], .agg [.lit (.int .i64 0), .lit (.int .i64 2050)], .agg [.lit (.int .i64 0), .lit (.int .i64 2050)]], .agg [.agg [.lit (.int .i64 2), .lit (.int .i64 0)], .agg [.lit (.int .i64 0), .lit (.int .i64 2050)], .agg [.lit (.int .i64 3), .lit (.int .i64 2308)], .agg [.lit (.int .i64 0), .lit (.int .i64 2050)], .agg [.lit (.int .i64 1), .lit (.int .i64 129)], .agg [.lit (.int .i64 0), .lit (.int .i64 2050)], .agg [.lit (.int .i64 0), .lit (.int .i64 2050)], .agg [.lit (.int .i64 0), .lit (.int .i64 2050)], .agg [.lit (.int .i64 0), .lit (.int .i64 2050)], .agg [.lit (.int .i64 0), .lit (.int .i64 2050)], .agg [.lit (.int .i64 0), .lit (.int .i64 2050)], .agg [.lit (.int .i64 0), .lit (.int .i64 2050)], .agg [.lit (.int .i64 0), .lit (.int .i64 2050)], .agg [.lit (.int .i64 0), .lit (.int .i64 2050)], .agg [.lit (.int .i64 0), .lit (.int .i64 2050)], .agg [.lit (.int .i64 0), .lit (.int .i64 2050)]], .agg [.agg [.lit (.int .i64 3), .lit (.int .i64 0)], .agg [.lit (.int .i64 0), .lit (.int .i64 2066)], .agg [.lit (.int .i64 3), .lit (.int .i64 0)], .agg [.lit (.int .i64 2), .lit (.int .i64 2176)], .agg [.lit (.int .i64 0), .lit (.int .i64 2066)], .agg [.lit (.int .i64 0), .lit (.int .i64 2066)], .agg [.lit (.int .i64 0), .lit (.int .i64 2066)], .agg [.lit (.int .i64 4), .lit (.int .i64 1544)], .agg [.lit (.int .i64 0), .lit (.int .i64 2066)], .agg [.lit (.int .i64 0), .lit (.int .i64 2066)], .agg [.lit (.int .i64 0), .lit (.int .i64 2066)], .agg [.lit (.int .i64 0), .lit (.int .i64 2050)], .agg [.lit (.int .i64 0), .lit (.int .i64 2066)], .agg [.lit (.int .i64 0), .lit (.int .i64 2066)], .agg [.lit (.int .i64 0), .lit (.int .i64 2066)], .agg [.lit (.int .i64 0), .lit (.int .i64 2066)]], .agg [.agg [.lit (.int .i64 4), .lit (.int .i64 0)], .agg [.lit (.int .i64 0), .lit (.int .i64 2066)], .agg [.lit (.int .i64 4), .lit (.int .i64 0)], .agg [.lit (.int .i64 0), .lit (.int .i64 2048)], .agg [.lit (.int .i64 0), .lit (.int .i64 2066)], .agg [.lit (.int .i64 0), .lit (.int .i64 2066)], .agg [.lit (.int .i64 4), .lit (.int .i64 1032)], .agg [.lit (.int .i64 0), .lit (.int .i64 2066)], .agg [.lit (.int .i64 0), .lit (.int .i64 2066)], .agg [.lit (.int .i64 0), .lit (.int .i64 2066)], .agg [.lit (.int .i64 0), .lit (.int .i64 2066)], .agg [.lit (.int .i64 0), .lit (.int .i64 2050)], .agg [.lit (.int .i64 5), .lit (.int .i64 544)], .agg [.lit (.int .i64 0), .lit (.int .i64 2066)], .agg [.lit (.int .i64 0), .lit (.int .i64 2066)], .agg [.lit (.int .i64 0), .lit (.int .i64 2066)]], .agg [.agg [.lit (.int .i64 5), .lit (.int .i64 0)], .agg [.lit (.int .i64 0), .lit (.int .i64 2130)], .agg [.lit (.int .i64 5), .lit (.int .i64 0)], .agg [.lit (.int .i64 0), .lit (.int .i64 2112)], .agg [.lit (.int .i64 0), .lit (.int .i64 2130)], .agg [.lit (.int .i64 0), .lit (.int .i64 2130)], .agg [.lit (.int .i64 5), .lit (.int .i64 1032)], .agg [.lit (.int .i64 0), .lit (.int .i64 2130)], .agg [.lit (.int .i64 0), .lit (.int .i64 2130)], .agg [.lit (.int .i64 0), .lit (.int .i64 2130)], .agg [.lit (.int .i64 0), .lit (.int .i64 2130)], .agg [.lit (.int .i64 0), .lit (.int .i64 2114)], .agg [.lit (.int .i64 5), .lit (.int .i64 512)], .agg [.lit (.int .i64 5), .lit (.int .i64 512)], .agg [.lit (.int .i64 0), .lit (.int .i64 2130)], .agg [.lit (.int .i64 0), .lit (.int .i64 2130)]]]
def laid_speculum_attrs_looks {H : Type} : DataW H := .agg [.agg [.lit (.int .i64 0), .lit (.int .i64 0), .lit (.int .i64 0)], .agg [.lit (.int .i64 64), .lit (.int .i64 1), .lit (.int .i64 1)], .agg [.lit (.int .i64 64), .lit (.int .i64 0), .lit (.int .i64 65536)], .agg [.lit (.int .i64 64), .lit (.int .i64 4), .lit (.int .i64 4)], .agg [.lit (.int .i64 128), .lit (.int .i64 4), .lit (.int .i64 4)], .agg [.lit (.int .i64 64), .lit (.int .i64 4), .lit (.int .i64 4)], .agg [.lit (.int .i64 64), .lit (.int .i64 0), .lit (.int .i64 0)], .agg [.lit (.int .i64 192), .lit (.int .i64 6), .lit (.int .i64 8)], .agg [.lit (.int .i64 192), .lit (.int .i64 0), .lit (.int .i64 65536)], .agg [.lit (.int .i64 0), .lit (.int .i64 0), .lit (.int .i64 0)], .agg [.lit (.int .i64 0), .lit (.int .i64 0), .lit (.int .i64 0)], .agg [.lit (.int .i64 0), .lit (.int .i64 0), .lit (.int .i64 0)], .agg [.lit (.int .i64 0), .lit (.int .i64 0), .lit (.int .i64 0)], .agg [.lit (.int .i64 0), .lit (.int .i64 0), .lit (.int .i64 0)], .agg [.lit (.int .i64 0), .lit (.int .i64 0), .lit (.int .i64 0)], .agg [.lit (.int .i64 0), .lit (.int .i64 0), .lit (.int .i64 0)], .agg [.lit (.int .i64 0), .lit (.int .i64 0), .lit (.int .i64 0)], .agg [.lit (.int .i64 192), .lit (.int .i64 0), .lit (.int .i64 65536)], .agg [.lit (.int .i64 192), .lit (.int .i64 0), .lit (.int .i64 65536)]]

/-- 'speculumlaw23.SessionHolds': WHATEVER THE INPUT: true; the input reads as it did. -/
def sessionHoldsSpec : ChangeSpec := { name := "sessionHolds", fn := fun _ => fun
  | [d1, d2, d3] => { results := [.lit (.bool true)], args := [d1, d2, d3] }
  | _ => none }
def sessionHoldsRow : OpenClaim := { program := "ythgjknmfghjioaadoor", sum := "5f557878d5b04222983fa7a0223c032223920f349348b08c8fbf2ba2e61d3afa", func := "speculum/speculumlaw23.SessionHolds", spec := "sessionHolds", inPlace := ["slices.overlaps[speculum/api.Raw]"], unfollowed := true, recurses := true, named := ["speculum/fsm.table", "speculum/frame.leasts", "speculum/attrs.looks"], apart := false, laid := [("speculum/frame.leasts", laid_speculum_frame_leasts), ("speculum/fsm.table", laid_speculum_fsm_table), ("speculum/attrs.looks", laid_speculum_attrs_looks)] }
def SessionHoldsSaid : Prop := sessionHoldsRow.holds Tryd.pinned (OpenSpec.ofChange sessionHoldsSpec)

/-- ITS FALSE NEIGHBOUR: 'it returns false'. Refute it at one input. -/
def sessionHoldsWrong : ChangeSpec := { name := "sessionHolds", fn := fun _ => fun
  | [d1, d2, d3] => { results := [.lit (.bool false)], args := [d1, d2, d3] }
  | _ => none }
def SessionHoldsWrongFalsely : Prop := sessionHoldsRow.holds Tryd.pinned (OpenSpec.ofChange sessionHoldsWrong)

/-- 'speculumlaw23.SessionNobody': WHATEVER THE INPUT: true; the input reads as it did. -/
def sessionNobodySpec : ChangeSpec := { name := "sessionNobody", fn := fun _ => fun
  | [d] => { results := [.lit (.bool true)], args := [d] }
  | _ => none }
def sessionNobodyRow : OpenClaim := { program := "ythgjknmfghjioaadoor", sum := "5f557878d5b04222983fa7a0223c032223920f349348b08c8fbf2ba2e61d3afa", func := "speculum/speculumlaw23.SessionNobody", spec := "sessionNobody", inPlace := ["slices.overlaps[speculum/api.Raw]"], unfollowed := true, recurses := true, named := ["speculum/fsm.table", "speculum/frame.leasts", "speculum/attrs.looks"], apart := false, laid := [("speculum/frame.leasts", laid_speculum_frame_leasts), ("speculum/fsm.table", laid_speculum_fsm_table), ("speculum/attrs.looks", laid_speculum_attrs_looks)] }
def SessionNobodySaid : Prop := sessionNobodyRow.holds Tryd.pinned (OpenSpec.ofChange sessionNobodySpec)

/-- ITS FALSE NEIGHBOUR: 'it returns false'. Refute it at one input. -/
def sessionNobodyWrong : ChangeSpec := { name := "sessionNobody", fn := fun _ => fun
  | [d] => { results := [.lit (.bool false)], args := [d] }
  | _ => none }
def SessionNobodyWrongFalsely : Prop := sessionNobodyRow.holds Tryd.pinned (OpenSpec.ofChange sessionNobodyWrong)

/- THE SECOND FORM. 'bulk': how many values and letters a reading holds, each counted each time it is reached (what is shared counts as often as it is met; a slice's spare places count too). A statement '..UptoSaid' is the law's where the arguments, and the package variables that the reading takes, are together of bulk at most 1048576: NARROWER than '..Said'. Prove '..Said' where nothing that the law and all that it calls make is longer than what came in: it says more and counts as full. Else prove '..UptoSaid'. A law counts once. -/
mutual
def uptoBulk {H : Type} : DataW H → Nat
  | .lit (.string bytes) => bytes.length + 1
  | .lit _ => 1
  | .nil => 1
  | .ptr d => uptoBulk d + 1
  | .slice elems spare => uptoBulkAll elems + uptoBulkAll spare + 1
  | .agg parts => uptoBulkAll parts + 1
  | .iface _ d => uptoBulk d + 1
  | .map entries => uptoBulkEntries entries + 1
  | .held _ => 1
def uptoBulkAll {H : Type} : List (DataW H) → Nat
  | [] => 0
  | d :: r => uptoBulk d + uptoBulkAll r
def uptoBulkEntries {H : Type} : List (Lit × DataW H) → Nat
  | [] => 0
  | x :: r => uptoBulkEntry x + uptoBulkEntries r
def uptoBulkEntry {H : Type} : Lit × DataW H → Nat
  | (.string bytes, d) => bytes.length + uptoBulk d + 1
  | (_, d) => uptoBulk d + 1
 end
def uptoSmall : (H : Type) → List (DataW H) → Bool := fun _ ds => decide (uptoBulkAll ds ≤ 1048576)
def OpenSpec.upto (s : _root_.Go.ChangeSpec) : _root_.Go.OpenSpec := { _root_.Go.OpenSpec.ofChange s with cond := some uptoSmall }

/-- 'speculumlaw23.SessionHolds', WHERE WHAT IT READS IS OF BULK AT MOST 1048576: true; the input reads as it did. -/
def sessionHoldsUptoRow : OpenClaim := { program := "ythgjknmfghjioaadoor", sum := "5f557878d5b04222983fa7a0223c032223920f349348b08c8fbf2ba2e61d3afa", func := "speculum/speculumlaw23.SessionHolds", spec := "sessionHolds", inPlace := ["slices.overlaps[speculum/api.Raw]"], unfollowed := true, recurses := true, named := ["speculum/fsm.table", "speculum/frame.leasts", "speculum/attrs.looks"], apart := false, laid := [("speculum/frame.leasts", laid_speculum_frame_leasts), ("speculum/fsm.table", laid_speculum_fsm_table), ("speculum/attrs.looks", laid_speculum_attrs_looks)], narrowed := true }
def SessionHoldsUptoSaid : Prop := sessionHoldsUptoRow.holds Tryd.pinned (OpenSpec.upto sessionHoldsSpec)

/-- 'speculumlaw23.SessionNobody', WHERE WHAT IT READS IS OF BULK AT MOST 1048576: true; the input reads as it did. -/
def sessionNobodyUptoRow : OpenClaim := { program := "ythgjknmfghjioaadoor", sum := "5f557878d5b04222983fa7a0223c032223920f349348b08c8fbf2ba2e61d3afa", func := "speculum/speculumlaw23.SessionNobody", spec := "sessionNobody", inPlace := ["slices.overlaps[speculum/api.Raw]"], unfollowed := true, recurses := true, named := ["speculum/fsm.table", "speculum/frame.leasts", "speculum/attrs.looks"], apart := false, laid := [("speculum/frame.leasts", laid_speculum_frame_leasts), ("speculum/fsm.table", laid_speculum_fsm_table), ("speculum/attrs.looks", laid_speculum_attrs_looks)], narrowed := true }
def SessionNobodyUptoSaid : Prop := sessionNobodyUptoRow.holds Tryd.pinned (OpenSpec.upto sessionNobodySpec)

end Rows
end Go.Proofs.YthgjknmfghjioaaDoor
