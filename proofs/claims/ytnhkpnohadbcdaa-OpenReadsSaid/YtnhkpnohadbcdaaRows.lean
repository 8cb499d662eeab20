/-
  No cell of these rows narrows 'for every input' (looked for: loops, veiled, ifaces, maps, wideKeys, modest, calm, conditions, laid).
  DERIVED. THE GIVEN ROWS OF THIS SEAT. 4 by the template 'for every input the law returns true; each argument reads behind the call as it read before'; 0 by the template 'total and deterministic' (their statements: YtnhkpnohadbcdaaTotals.lean).
  GIVEN WITH THE SEED: the statements are not yours to turn. If you find one false, say at which input.
  Laid BY PROGRAM, IN A SANDBOX (cutbox-rows.mjs): the forced cells as the released guide's own fill.sh prints them over the translation 067e4daf29580123… (all of the seat's roots in one cut). By AI agents, Wed Nov 11 2026. No macro, syntax, notation, axiom, sorry.
-/
import Derived.Test.YtnhkpnohadbcdaaChecked
import GoSem.Claim
import GoSem.ClaimJoined
import GoSem.ClaimMapViews
import Derived.JoinedTies
import Derived.KernelRfl
namespace Go.Proofs.Ytnhkpnohadbcdaa
/- THE CELL 'sum', in the pinned program and in every row, IS THE sha256 OF THE DUMP (.gsa) THAT YtnhkpnohadbcdaaProg.lean LOADS. Nothing in Lean hashes anything: it is a label: what it is worth is what the hold of that sum in a sandbox is worth. -/
noncomputable def Try.pinned : Pinned := { name := "ytnhkpnohadbcdaa", sum := "067e4daf29580123260ac3165f9f99e34b6d3aadfe99e479dc184e350c9487c2", checked := Try.checked }
namespace Rows
def none {H : Type} : Left H := { results := [], args := [] }

/-- 'speculumlaw06.OpenPuts': WHATEVER THE INPUT: true; the input reads as it did. -/
def openPutsSpec : ChangeSpec := { name := "openPuts", fn := fun _ => fun
  | [d] => { results := [.lit (.bool true)], args := [d] }
  | _ => none }
def openPutsRow : OpenClaim := { program := "ytnhkpnohadbcdaa", sum := "067e4daf29580123260ac3165f9f99e34b6d3aadfe99e479dc184e350c9487c2", func := "speculum/speculumlaw06.OpenPuts", spec := "openPuts", unfollowed := true, recurses := true, apart := false }
def OpenPutsSaid : Prop := openPutsRow.holds Try.pinned (OpenSpec.ofChange openPutsSpec)

/-- ITS FALSE NEIGHBOUR: 'it returns false'. Refute it at one input. -/
def openPutsWrong : ChangeSpec := { name := "openPuts", fn := fun _ => fun
  | [d] => { results := [.lit (.bool false)], args := [d] }
  | _ => none }
def OpenPutsWrongFalsely : Prop := openPutsRow.holds Try.pinned (OpenSpec.ofChange openPutsWrong)

/-- 'speculumlaw06.OpenReads': WHATEVER THE INPUT: true; the input reads as it did. -/
def openReadsSpec : ChangeSpec := { name := "openReads", fn := fun _ => fun
  | [d] => { results := [.lit (.bool true)], args := [d] }
  | _ => none }
def openReadsRow : OpenClaim := { program := "ytnhkpnohadbcdaa", sum := "067e4daf29580123260ac3165f9f99e34b6d3aadfe99e479dc184e350c9487c2", func := "speculum/speculumlaw06.OpenReads", spec := "openReads", unfollowed := true, recurses := true, apart := false }
def OpenReadsSaid : Prop := openReadsRow.holds Try.pinned (OpenSpec.ofChange openReadsSpec)

/-- ITS FALSE NEIGHBOUR: 'it returns false'. Refute it at one input. -/
def openReadsWrong : ChangeSpec := { name := "openReads", fn := fun _ => fun
  | [d] => { results := [.lit (.bool false)], args := [d] }
  | _ => none }
def OpenReadsWrongFalsely : Prop := openReadsRow.holds Try.pinned (OpenSpec.ofChange openReadsWrong)

/-- 'speculumlaw06.OpenChecks': WHATEVER THE INPUT: true; the input reads as it did. -/
def openChecksSpec : ChangeSpec := { name := "openChecks", fn := fun _ => fun
  | [d1, d2, d3] => { results := [.lit (.bool true)], args := [d1, d2, d3] }
  | _ => none }
def openChecksRow : OpenClaim := { program := "ytnhkpnohadbcdaa", sum := "067e4daf29580123260ac3165f9f99e34b6d3aadfe99e479dc184e350c9487c2", func := "speculum/speculumlaw06.OpenChecks", spec := "openChecks", unfollowed := true, recurses := true, apart := false }
def OpenChecksSaid : Prop := openChecksRow.holds Try.pinned (OpenSpec.ofChange openChecksSpec)

/-- ITS FALSE NEIGHBOUR: 'it returns false'. Refute it at one input. -/
def openChecksWrong : ChangeSpec := { name := "openChecks", fn := fun _ => fun
  | [d1, d2, d3] => { results := [.lit (.bool false)], args := [d1, d2, d3] }
  | _ => none }
def OpenChecksWrongFalsely : Prop := openChecksRow.holds Try.pinned (OpenSpec.ofChange openChecksWrong)

/-- 'speculumlaw06.OpenMine': WHATEVER THE INPUT: true; the input reads as it did. -/
def openMineSpec : ChangeSpec := { name := "openMine", fn := fun _ => fun
  | [d1, d2, d3] => { results := [.lit (.bool true)], args := [d1, d2, d3] }
  | _ => none }
def openMineRow : OpenClaim := { program := "ytnhkpnohadbcdaa", sum := "067e4daf29580123260ac3165f9f99e34b6d3aadfe99e479dc184e350c9487c2", func := "speculum/speculumlaw06.OpenMine", spec := "openMine", unfollowed := true, recurses := true, apart := false }
def OpenMineSaid : Prop := openMineRow.holds Try.pinned (OpenSpec.ofChange openMineSpec)

/-- ITS FALSE NEIGHBOUR: 'it returns false'. Refute it at one input. -/
def openMineWrong : ChangeSpec := { name := "openMine", fn := fun _ => fun
  | [d1, d2, d3] => { results := [.lit (.bool false)], args := [d1, d2, d3] }
  | _ => none }
def OpenMineWrongFalsely : Prop := openMineRow.holds Try.pinned (OpenSpec.ofChange openMineWrong)

/- THE SECOND FORM. 'bulk': how many values and letters a reading holds, each counted each time it is reached (what is shared counts as often as it is met; a slice's spare places count too). A statement '..UptoSaid' is the law's where the arguments, and the package variables that the reading takes, are together of bulk at most 1048576: NARROWER than '..Said'. Prove '..Said' where nothing that the law and all that it calls make is longer than what came in: it says more and counts as full. Else prove '..UptoSaid'. A law counts once. -/
mutual
def uptoBulk {H : Type} : DataW H → Nat
  | .lit (.string bytes) => bytes.length + 1
  | .lit _ => 1
  | .nil => 1
  | .ptr d => uptoBulk d + 1
  | .slice elems spare => uptoBulkAll elems + uptoBulkAll spare + 1
  | .agg parts => uptoBulkAll parts + 1
  | .iface _ d => uptoBulk d + 1
  | .map entries => uptoBulkEntries entries + 1
  | .held _ => 1
def uptoBulkAll {H : Type} : List (DataW H) → Nat
  | [] => 0
  | d :: r => uptoBulk d + uptoBulkAll r
def uptoBulkEntries {H : Type} : List (Lit × DataW H) → Nat
  | [] => 0
  | x :: r => uptoBulkEntry x + uptoBulkEntries r
def uptoBulkEntry {H : Type} : Lit × DataW H → Nat
  | (.string bytes, d) => bytes.length + uptoBulk d + 1
  | (_, d) => uptoBulk d + 1
 end
def uptoSmall : (H : Type) → List (DataW H) → Bool := fun _ ds => decide (uptoBulkAll ds ≤ 1048576)
def OpenSpec.upto (s : _root_.Go.ChangeSpec) : _root_.Go.OpenSpec := { _root_.Go.OpenSpec.ofChange s with cond := some uptoSmall }

/-- 'speculumlaw06.OpenPuts', WHERE WHAT IT READS IS OF BULK AT MOST 1048576: true; the input reads as it did. -/
def openPutsUptoRow : OpenClaim := { program := "ytnhkpnohadbcdaa", sum := "067e4daf29580123260ac3165f9f99e34b6d3aadfe99e479dc184e350c9487c2", func := "speculum/speculumlaw06.OpenPuts", spec := "openPuts", unfollowed := true, recurses := true, apart := false, narrowed := true }
def OpenPutsUptoSaid : Prop := openPutsUptoRow.holds Try.pinned (OpenSpec.upto openPutsSpec)

/-- 'speculumlaw06.OpenReads', WHERE WHAT IT READS IS OF BULK AT MOST 1048576: true; the input reads as it did. -/
def openReadsUptoRow : OpenClaim := { program := "ytnhkpnohadbcdaa", sum := "067e4daf29580123260ac3165f9f99e34b6d3aadfe99e479dc184e350c9487c2", func := "speculum/speculumlaw06.OpenReads", spec := "openReads", unfollowed := true, recurses := true, apart := false, narrowed := true }
def OpenReadsUptoSaid : Prop := openReadsUptoRow.holds Try.pinned (OpenSpec.upto openReadsSpec)

/-- 'speculumlaw06.OpenChecks', WHERE WHAT IT READS IS OF BULK AT MOST 1048576: true; the input reads as it did. -/
def openChecksUptoRow : OpenClaim := { program := "ytnhkpnohadbcdaa", sum := "067e4daf29580123260ac3165f9f99e34b6d3aadfe99e479dc184e350c9487c2", func := "speculum/speculumlaw06.OpenChecks", spec := "openChecks", unfollowed := true, recurses := true, apart := false, narrowed := true }
def OpenChecksUptoSaid : Prop := openChecksUptoRow.holds Try.pinned (OpenSpec.upto openChecksSpec)

/-- 'speculumlaw06.OpenMine', WHERE WHAT IT READS IS OF BULK AT MOST 1048576: true; the input reads as it did. -/
def openMineUptoRow : OpenClaim := { program := "ytnhkpnohadbcdaa", sum := "067e4daf29580123260ac3165f9f99e34b6d3aadfe99e479dc184e350c9487c2", func := "speculum/speculumlaw06.OpenMine", spec := "openMine", unfollowed := true, recurses := true, apart := false, narrowed := true }
def OpenMineUptoSaid : Prop := openMineUptoRow.holds Try.pinned (OpenSpec.upto openMineSpec)

end Rows
end Go.Proofs.Ytnhkpnohadbcdaa
