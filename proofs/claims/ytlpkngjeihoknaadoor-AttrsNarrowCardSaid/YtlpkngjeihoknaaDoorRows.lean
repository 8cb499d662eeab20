/-
  NARROWER THAN 'FOR EVERY INPUT', by the rows' own cells (each row's printed sentence says how): AspathTexts: laid · AspathParses: laid · AspathSame: laid · AspathMerges: laid · AspathParts: laid · AspathPuts: laid · AspathReads: laid · AspathPrepends: laid · AttrsRight: laid · AttrsSame: laid · AttrsPuts: laid · AttrsBack: laid · AttrsNarrow: laid.
  DERIVED. THE GIVEN ROWS OF THIS SEAT. 13 by the template 'for every input the law returns true; each argument reads behind the call as it read before'; 0 by the template 'total and deterministic' (their statements: YtlpkngjeihoknaaDoorTotals.lean).
  GIVEN WITH THE SEED: the statements are not yours to turn. If you find one false, say at which input.
  Laid BY PROGRAM, IN A SANDBOX (cutbox-rows.mjs): the forced cells as the released guide's own fill.sh prints them over the translation 694b445ffefdcd62… (all of the seat's roots in one cut). By AI agents, Wed Nov 11 2026. No macro, syntax, notation, axiom, sorry.
-/
import Derived.Test.YtlpkngjeihoknaaDoorChecked
import GoSem.Claim
import GoSem.ClaimJoined
import GoSem.ClaimMapViews
import Derived.JoinedTies
import Derived.KernelRfl
namespace Go.Proofs.YtlpkngjeihoknaaDoor
/- THE CELL 'sum', in the pinned program and in every row, IS THE sha256 OF THE DUMP (.gsa) THAT YtlpkngjeihoknaaDoorProg.lean LOADS. Nothing in Lean hashes anything: it is a label: what it is worth is what the hold of that sum in a sandbox is worth. -/
noncomputable def Tryd.pinned : Pinned := { name := "ytlpkngjeihoknaadoor", sum := "694b445ffefdcd62ea6ac90c6b2c03add5648dec5fd3f2b968ea5c7b70eaac4e", checked := Tryd.checked }
namespace Rows
def none {H : Type} : Left H := { results := [], args := [] }

/- WHAT THE LISTED PACKAGE-LEVEL VARIABLES READ AS WHEN THE CALL BEGINS. Each datum BY PROGRAM (the guide's laid-datum.mjs) off the statement by which the dump's own 'gosem.cut.vars' lays the variable. In a bare row this is a premise. The card (YtlpkngjeihoknaaDoorCards.lean) ties it to the program's text. -/
def laid_speculum_octet_digits {H : Type} : DataW H := .agg [.lit (.int .u8 48), .lit (.int .u8 49), .lit (.int .u8 50), .lit (.int .u8 51), .lit (.int .u8 52), .lit (.int .u8 53), .lit (.int .u8 54), .lit (.int .u8 55), .lit (.int .u8 56), .lit (.int .u8 57), .lit (.int .u8 97), .lit (.int .u8 98), .lit (.int .u8 99), .lit (.int .u8 100), .lit (.int .u8 101), .lit (.int .u8 102)]
def laid_speculum_attrs_looks {H : Type} : DataW H := .agg [.agg [.lit (.int .i64 0), .lit (.int .i64 0), .lit (.int .i64 0)], .agg [.lit (.int .i64 64), .lit (.int .i64 1), .lit (.int .i64 1)], .agg [.lit (.int .i64 64), .lit (.int .i64 0), .lit (.int .i64 65536)], .agg [.lit (.int .i64 64), .lit (.int .i64 4), .lit (.int .i64 4)], .agg [.lit (.int .i64 128), .lit (.int .i64 4), .lit (.int .i64 4)], .agg [.lit (.int .i64 64), .lit (.int .i64 4), .lit (.int .i64 4)], .agg [.lit (.int .i64 64), .lit (.int .i64 0), .lit (.int .i64 0)], .agg [.lit (.int .i64 192), .lit (.int .i64 6), .lit (.int .i64 8)], .agg [.lit (.int .i64 192), .lit (.int .i64 0), .lit (.int .i64 65536)], .agg [.lit (.int .i64 0), .lit (.int .i64 0), .lit (.int .i64 0)], .agg [.lit (.int .i64 0), .lit (.int .i64 0), .lit (.int .i64 0)], .agg [.lit (.int .i64 0), .lit (.int .i64 0), .lit (.int .i64 0)], .agg [.lit (.int .i64 0), .lit (.int .i64 0), .lit (.int .i64 0)], .agg [.lit (.int .i64 0), .lit (.int .i64 0), .lit (.int .i64 0)], .agg [.lit (.int .i64 0), .lit (.int .i64 0), .lit (.int .i64 0)], .agg [.lit (.int .i64 0), .lit (.int .i64 0), .lit (.int .i64 0)], .agg [.lit (.int .i64 0), .lit (.int .i64 0), .lit (.int .i64 0)], .agg [.lit (.int .i64 192), .lit (.int .i64 0), .lit (.int .i64 65536)], .agg [.lit (.int .i64 192), .lit (.int .i64 0), .lit (.int .i64 65536)]]

/-- 'speculumlaw03.AspathTexts': WHATEVER THE INPUT: true; the input reads as it did. -/
def aspathTextsSpec : ChangeSpec := { name := "aspathTexts", fn := fun _ => fun
  | [d] => { results := [.lit (.bool true)], args := [d] }
  | _ => none }
def aspathTextsRow : OpenClaim := { program := "ytlpkngjeihoknaadoor", sum := "694b445ffefdcd62ea6ac90c6b2c03add5648dec5fd3f2b968ea5c7b70eaac4e", func := "speculum/speculumlaw03.AspathTexts", spec := "aspathTexts", inPlace := ["internal/abi.NoEscape", "internal/bytealg.MakeNoZero"], unfollowed := true, recurses := true, named := ["speculum/octet.digits"], apart := false, laid := [("speculum/octet.digits", laid_speculum_octet_digits)] }
def AspathTextsSaid : Prop := aspathTextsRow.holds Tryd.pinned (OpenSpec.ofChange aspathTextsSpec)

/-- ITS FALSE NEIGHBOUR: 'it returns false'. Refute it at one input. -/
def aspathTextsWrong : ChangeSpec := { name := "aspathTexts", fn := fun _ => fun
  | [d] => { results := [.lit (.bool false)], args := [d] }
  | _ => none }
def AspathTextsWrongFalsely : Prop := aspathTextsRow.holds Tryd.pinned (OpenSpec.ofChange aspathTextsWrong)

/-- 'speculumlaw03.AspathParses': WHATEVER THE INPUT: true; the input reads as it did. -/
def aspathParsesSpec : ChangeSpec := { name := "aspathParses", fn := fun _ => fun
  | [d] => { results := [.lit (.bool true)], args := [d] }
  | _ => none }
def aspathParsesRow : OpenClaim := { program := "ytlpkngjeihoknaadoor", sum := "694b445ffefdcd62ea6ac90c6b2c03add5648dec5fd3f2b968ea5c7b70eaac4e", func := "speculum/speculumlaw03.AspathParses", spec := "aspathParses", inPlace := ["internal/abi.NoEscape", "internal/bytealg.MakeNoZero"], unfollowed := true, recurses := true, named := ["speculum/octet.digits"], apart := false, laid := [("speculum/octet.digits", laid_speculum_octet_digits)] }
def AspathParsesSaid : Prop := aspathParsesRow.holds Tryd.pinned (OpenSpec.ofChange aspathParsesSpec)

/-- ITS FALSE NEIGHBOUR: 'it returns false'. Refute it at one input. -/
def aspathParsesWrong : ChangeSpec := { name := "aspathParses", fn := fun _ => fun
  | [d] => { results := [.lit (.bool false)], args := [d] }
  | _ => none }
def AspathParsesWrongFalsely : Prop := aspathParsesRow.holds Tryd.pinned (OpenSpec.ofChange aspathParsesWrong)

/-- 'speculumlaw03.AspathSame': WHATEVER THE INPUT: true; the input reads as it did. -/
def aspathSameSpec : ChangeSpec := { name := "aspathSame", fn := fun _ => fun
  | [d1, d2] => { results := [.lit (.bool true)], args := [d1, d2] }
  | _ => none }
def aspathSameRow : OpenClaim := { program := "ytlpkngjeihoknaadoor", sum := "694b445ffefdcd62ea6ac90c6b2c03add5648dec5fd3f2b968ea5c7b70eaac4e", func := "speculum/speculumlaw03.AspathSame", spec := "aspathSame", inPlace := ["internal/abi.NoEscape", "internal/bytealg.MakeNoZero"], unfollowed := true, recurses := true, named := ["speculum/octet.digits"], apart := false, laid := [("speculum/octet.digits", laid_speculum_octet_digits)] }
def AspathSameSaid : Prop := aspathSameRow.holds Tryd.pinned (OpenSpec.ofChange aspathSameSpec)

/-- ITS FALSE NEIGHBOUR: 'it returns false'. Refute it at one input. -/
def aspathSameWrong : ChangeSpec := { name := "aspathSame", fn := fun _ => fun
  | [d1, d2] => { results := [.lit (.bool false)], args := [d1, d2] }
  | _ => none }
def AspathSameWrongFalsely : Prop := aspathSameRow.holds Tryd.pinned (OpenSpec.ofChange aspathSameWrong)

/-- 'speculumlaw03.AspathMerges': WHATEVER THE INPUT: true; the input reads as it did. -/
def aspathMergesSpec : ChangeSpec := { name := "aspathMerges", fn := fun _ => fun
  | [d1, d2] => { results := [.lit (.bool true)], args := [d1, d2] }
  | _ => none }
def aspathMergesRow : OpenClaim := { program := "ytlpkngjeihoknaadoor", sum := "694b445ffefdcd62ea6ac90c6b2c03add5648dec5fd3f2b968ea5c7b70eaac4e", func := "speculum/speculumlaw03.AspathMerges", spec := "aspathMerges", inPlace := ["internal/abi.NoEscape", "internal/bytealg.MakeNoZero"], unfollowed := true, recurses := true, named := ["speculum/octet.digits"], apart := false, laid := [("speculum/octet.digits", laid_speculum_octet_digits)] }
def AspathMergesSaid : Prop := aspathMergesRow.holds Tryd.pinned (OpenSpec.ofChange aspathMergesSpec)

/-- ITS FALSE NEIGHBOUR: 'it returns false'. Refute it at one input. -/
def aspathMergesWrong : ChangeSpec := { name := "aspathMerges", fn := fun _ => fun
  | [d1, d2] => { results := [.lit (.bool false)], args := [d1, d2] }
  | _ => none }
def AspathMergesWrongFalsely : Prop := aspathMergesRow.holds Tryd.pinned (OpenSpec.ofChange aspathMergesWrong)

/-- 'speculumlaw03.AspathParts': WHATEVER THE INPUT: true; the input reads as it did. -/
def aspathPartsSpec : ChangeSpec := { name := "aspathParts", fn := fun _ => fun
  | [d1, d2] => { results := [.lit (.bool true)], args := [d1, d2] }
  | _ => none }
def aspathPartsRow : OpenClaim := { program := "ytlpkngjeihoknaadoor", sum := "694b445ffefdcd62ea6ac90c6b2c03add5648dec5fd3f2b968ea5c7b70eaac4e", func := "speculum/speculumlaw03.AspathParts", spec := "aspathParts", inPlace := ["internal/abi.NoEscape", "internal/bytealg.MakeNoZero"], unfollowed := true, recurses := true, named := ["speculum/octet.digits"], apart := false, laid := [("speculum/octet.digits", laid_speculum_octet_digits)] }
def AspathPartsSaid : Prop := aspathPartsRow.holds Tryd.pinned (OpenSpec.ofChange aspathPartsSpec)

/-- ITS FALSE NEIGHBOUR: 'it returns false'. Refute it at one input. -/
def aspathPartsWrong : ChangeSpec := { name := "aspathParts", fn := fun _ => fun
  | [d1, d2] => { results := [.lit (.bool false)], args := [d1, d2] }
  | _ => none }
def AspathPartsWrongFalsely : Prop := aspathPartsRow.holds Tryd.pinned (OpenSpec.ofChange aspathPartsWrong)

/-- 'speculumlaw03.AspathPuts': WHATEVER THE INPUT: true; the input reads as it did. -/
def aspathPutsSpec : ChangeSpec := { name := "aspathPuts", fn := fun _ => fun
  | [d1, d2] => { results := [.lit (.bool true)], args := [d1, d2] }
  | _ => none }
def aspathPutsRow : OpenClaim := { program := "ytlpkngjeihoknaadoor", sum := "694b445ffefdcd62ea6ac90c6b2c03add5648dec5fd3f2b968ea5c7b70eaac4e", func := "speculum/speculumlaw03.AspathPuts", spec := "aspathPuts", inPlace := ["internal/abi.NoEscape", "internal/bytealg.MakeNoZero"], unfollowed := true, recurses := true, named := ["speculum/octet.digits"], apart := false, laid := [("speculum/octet.digits", laid_speculum_octet_digits)] }
def AspathPutsSaid : Prop := aspathPutsRow.holds Tryd.pinned (OpenSpec.ofChange aspathPutsSpec)

/-- ITS FALSE NEIGHBOUR: 'it returns false'. Refute it at one input. -/
def aspathPutsWrong : ChangeSpec := { name := "aspathPuts", fn := fun _ => fun
  | [d1, d2] => { results := [.lit (.bool false)], args := [d1, d2] }
  | _ => none }
def AspathPutsWrongFalsely : Prop := aspathPutsRow.holds Tryd.pinned (OpenSpec.ofChange aspathPutsWrong)

/-- 'speculumlaw03.AspathReads': WHATEVER THE INPUT: true; the input reads as it did. -/
def aspathReadsSpec : ChangeSpec := { name := "aspathReads", fn := fun _ => fun
  | [d1, d2] => { results := [.lit (.bool true)], args := [d1, d2] }
  | _ => none }
def aspathReadsRow : OpenClaim := { program := "ytlpkngjeihoknaadoor", sum := "694b445ffefdcd62ea6ac90c6b2c03add5648dec5fd3f2b968ea5c7b70eaac4e", func := "speculum/speculumlaw03.AspathReads", spec := "aspathReads", inPlace := ["internal/abi.NoEscape", "internal/bytealg.MakeNoZero"], unfollowed := true, recurses := true, named := ["speculum/octet.digits"], apart := false, laid := [("speculum/octet.digits", laid_speculum_octet_digits)] }
def AspathReadsSaid : Prop := aspathReadsRow.holds Tryd.pinned (OpenSpec.ofChange aspathReadsSpec)

/-- ITS FALSE NEIGHBOUR: 'it returns false'. Refute it at one input. -/
def aspathReadsWrong : ChangeSpec := { name := "aspathReads", fn := fun _ => fun
  | [d1, d2] => { results := [.lit (.bool false)], args := [d1, d2] }
  | _ => none }
def AspathReadsWrongFalsely : Prop := aspathReadsRow.holds Tryd.pinned (OpenSpec.ofChange aspathReadsWrong)

/-- 'speculumlaw03.AspathPrepends': WHATEVER THE INPUT: true; the input reads as it did. -/
def aspathPrependsSpec : ChangeSpec := { name := "aspathPrepends", fn := fun _ => fun
  | [d1, d2] => { results := [.lit (.bool true)], args := [d1, d2] }
  | _ => none }
def aspathPrependsRow : OpenClaim := { program := "ytlpkngjeihoknaadoor", sum := "694b445ffefdcd62ea6ac90c6b2c03add5648dec5fd3f2b968ea5c7b70eaac4e", func := "speculum/speculumlaw03.AspathPrepends", spec := "aspathPrepends", inPlace := ["internal/abi.NoEscape", "internal/bytealg.MakeNoZero", "slices.overlaps[uint32]", "slices.overlaps[speculum/api.Segment]"], unfollowed := true, recurses := true, named := ["speculum/octet.digits"], apart := false, laid := [("speculum/octet.digits", laid_speculum_octet_digits)] }
def AspathPrependsSaid : Prop := aspathPrependsRow.holds Tryd.pinned (OpenSpec.ofChange aspathPrependsSpec)

/-- ITS FALSE NEIGHBOUR: 'it returns false'. Refute it at one input. -/
def aspathPrependsWrong : ChangeSpec := { name := "aspathPrepends", fn := fun _ => fun
  | [d1, d2] => { results := [.lit (.bool false)], args := [d1, d2] }
  | _ => none }
def AspathPrependsWrongFalsely : Prop := aspathPrependsRow.holds Tryd.pinned (OpenSpec.ofChange aspathPrependsWrong)

/-- 'speculumlaw04.AttrsRight': WHATEVER THE INPUT: true; the input reads as it did. -/
def attrsRightSpec : ChangeSpec := { name := "attrsRight", fn := fun _ => fun
  | [d1, d2, d3] => { results := [.lit (.bool true)], args := [d1, d2, d3] }
  | _ => none }
def attrsRightRow : OpenClaim := { program := "ytlpkngjeihoknaadoor", sum := "694b445ffefdcd62ea6ac90c6b2c03add5648dec5fd3f2b968ea5c7b70eaac4e", func := "speculum/speculumlaw04.AttrsRight", spec := "attrsRight", inPlace := ["slices.overlaps[speculum/api.Raw]"], unfollowed := true, recurses := true, named := ["speculum/attrs.looks"], apart := false, laid := [("speculum/attrs.looks", laid_speculum_attrs_looks)] }
def AttrsRightSaid : Prop := attrsRightRow.holds Tryd.pinned (OpenSpec.ofChange attrsRightSpec)

/-- ITS FALSE NEIGHBOUR: 'it returns false'. Refute it at one input. -/
def attrsRightWrong : ChangeSpec := { name := "attrsRight", fn := fun _ => fun
  | [d1, d2, d3] => { results := [.lit (.bool false)], args := [d1, d2, d3] }
  | _ => none }
def AttrsRightWrongFalsely : Prop := attrsRightRow.holds Tryd.pinned (OpenSpec.ofChange attrsRightWrong)

/-- 'speculumlaw04.AttrsSame': WHATEVER THE INPUT: true; the input reads as it did. -/
def attrsSameSpec : ChangeSpec := { name := "attrsSame", fn := fun _ => fun
  | [d1, d2] => { results := [.lit (.bool true)], args := [d1, d2] }
  | _ => none }
def attrsSameRow : OpenClaim := { program := "ytlpkngjeihoknaadoor", sum := "694b445ffefdcd62ea6ac90c6b2c03add5648dec5fd3f2b968ea5c7b70eaac4e", func := "speculum/speculumlaw04.AttrsSame", spec := "attrsSame", inPlace := ["slices.overlaps[speculum/api.Raw]"], unfollowed := true, recurses := true, named := ["speculum/attrs.looks"], apart := false, laid := [("speculum/attrs.looks", laid_speculum_attrs_looks)] }
def AttrsSameSaid : Prop := attrsSameRow.holds Tryd.pinned (OpenSpec.ofChange attrsSameSpec)

/-- ITS FALSE NEIGHBOUR: 'it returns false'. Refute it at one input. -/
def attrsSameWrong : ChangeSpec := { name := "attrsSame", fn := fun _ => fun
  | [d1, d2] => { results := [.lit (.bool false)], args := [d1, d2] }
  | _ => none }
def AttrsSameWrongFalsely : Prop := attrsSameRow.holds Tryd.pinned (OpenSpec.ofChange attrsSameWrong)

/-- 'speculumlaw04.AttrsPuts': WHATEVER THE INPUT: true; the input reads as it did. -/
def attrsPutsSpec : ChangeSpec := { name := "attrsPuts", fn := fun _ => fun
  | [d1, d2] => { results := [.lit (.bool true)], args := [d1, d2] }
  | _ => none }
def attrsPutsRow : OpenClaim := { program := "ytlpkngjeihoknaadoor", sum := "694b445ffefdcd62ea6ac90c6b2c03add5648dec5fd3f2b968ea5c7b70eaac4e", func := "speculum/speculumlaw04.AttrsPuts", spec := "attrsPuts", inPlace := ["slices.overlaps[speculum/api.Raw]"], unfollowed := true, recurses := true, named := ["speculum/attrs.looks"], apart := false, laid := [("speculum/attrs.looks", laid_speculum_attrs_looks)] }
def AttrsPutsSaid : Prop := attrsPutsRow.holds Tryd.pinned (OpenSpec.ofChange attrsPutsSpec)

/-- ITS FALSE NEIGHBOUR: 'it returns false'. Refute it at one input. -/
def attrsPutsWrong : ChangeSpec := { name := "attrsPuts", fn := fun _ => fun
  | [d1, d2] => { results := [.lit (.bool false)], args := [d1, d2] }
  | _ => none }
def AttrsPutsWrongFalsely : Prop := attrsPutsRow.holds Tryd.pinned (OpenSpec.ofChange attrsPutsWrong)

/-- 'speculumlaw04.AttrsBack': WHATEVER THE INPUT: true; the input reads as it did. -/
def attrsBackSpec : ChangeSpec := { name := "attrsBack", fn := fun _ => fun
  | [d] => { results := [.lit (.bool true)], args := [d] }
  | _ => none }
def attrsBackRow : OpenClaim := { program := "ytlpkngjeihoknaadoor", sum := "694b445ffefdcd62ea6ac90c6b2c03add5648dec5fd3f2b968ea5c7b70eaac4e", func := "speculum/speculumlaw04.AttrsBack", spec := "attrsBack", inPlace := ["slices.overlaps[speculum/api.Raw]"], unfollowed := true, recurses := true, named := ["speculum/attrs.looks"], apart := false, laid := [("speculum/attrs.looks", laid_speculum_attrs_looks)] }
def AttrsBackSaid : Prop := attrsBackRow.holds Tryd.pinned (OpenSpec.ofChange attrsBackSpec)

/-- ITS FALSE NEIGHBOUR: 'it returns false'. Refute it at one input. -/
def attrsBackWrong : ChangeSpec := { name := "attrsBack", fn := fun _ => fun
  | [d] => { results := [.lit (.bool false)], args := [d] }
  | _ => none }
def AttrsBackWrongFalsely : Prop := attrsBackRow.holds Tryd.pinned (OpenSpec.ofChange attrsBackWrong)

/-- 'speculumlaw04.AttrsNarrow': WHATEVER THE INPUT: true; the input reads as it did. -/
def attrsNarrowSpec : ChangeSpec := { name := "attrsNarrow", fn := fun _ => fun
  | [d] => { results := [.lit (.bool true)], args := [d] }
  | _ => none }
def attrsNarrowRow : OpenClaim := { program := "ytlpkngjeihoknaadoor", sum := "694b445ffefdcd62ea6ac90c6b2c03add5648dec5fd3f2b968ea5c7b70eaac4e", func := "speculum/speculumlaw04.AttrsNarrow", spec := "attrsNarrow", inPlace := ["slices.overlaps[speculum/api.Raw]"], unfollowed := true, recurses := true, named := ["speculum/attrs.looks"], apart := false, laid := [("speculum/attrs.looks", laid_speculum_attrs_looks)] }
def AttrsNarrowSaid : Prop := attrsNarrowRow.holds Tryd.pinned (OpenSpec.ofChange attrsNarrowSpec)

/-- ITS FALSE NEIGHBOUR: 'it returns false'. Refute it at one input. -/
def attrsNarrowWrong : ChangeSpec := { name := "attrsNarrow", fn := fun _ => fun
  | [d] => { results := [.lit (.bool false)], args := [d] }
  | _ => none }
def AttrsNarrowWrongFalsely : Prop := attrsNarrowRow.holds Tryd.pinned (OpenSpec.ofChange attrsNarrowWrong)

/- THE SECOND FORM. 'bulk': how many values and letters a reading holds, each counted each time it is reached (what is shared counts as often as it is met; a slice's spare places count too). A statement '..UptoSaid' is the law's where the arguments, and the package variables that the reading takes, are together of bulk at most 1048576: NARROWER than '..Said'. Prove '..Said' where nothing that the law and all that it calls make is longer than what came in: it says more and counts as full. Else prove '..UptoSaid'. A law counts once. -/
mutual
def uptoBulk {H : Type} : DataW H → Nat
  | .lit (.string bytes) => bytes.length + 1
  | .lit _ => 1
  | .nil => 1
  | .ptr d => uptoBulk d + 1
  | .slice elems spare => uptoBulkAll elems + uptoBulkAll spare + 1
  | .agg parts => uptoBulkAll parts + 1
  | .iface _ d => uptoBulk d + 1
  | .map entries => uptoBulkEntries entries + 1
  | .held _ => 1
def uptoBulkAll {H : Type} : List (DataW H) → Nat
  | [] => 0
  | d :: r => uptoBulk d + uptoBulkAll r
def uptoBulkEntries {H : Type} : List (Lit × DataW H) → Nat
  | [] => 0
  | x :: r => uptoBulkEntry x + uptoBulkEntries r
def uptoBulkEntry {H : Type} : Lit × DataW H → Nat
  | (.string bytes, d) => bytes.length + uptoBulk d + 1
  | (_, d) => uptoBulk d + 1
 end
def uptoSmall : (H : Type) → List (DataW H) → Bool := fun _ ds => decide (uptoBulkAll ds ≤ 1048576)
def OpenSpec.upto (s : _root_.Go.ChangeSpec) : _root_.Go.OpenSpec := { _root_.Go.OpenSpec.ofChange s with cond := some uptoSmall }

/-- 'speculumlaw03.AspathTexts', WHERE WHAT IT READS IS OF BULK AT MOST 1048576: true; the input reads as it did. -/
def aspathTextsUptoRow : OpenClaim := { program := "ytlpkngjeihoknaadoor", sum := "694b445ffefdcd62ea6ac90c6b2c03add5648dec5fd3f2b968ea5c7b70eaac4e", func := "speculum/speculumlaw03.AspathTexts", spec := "aspathTexts", inPlace := ["internal/abi.NoEscape", "internal/bytealg.MakeNoZero"], unfollowed := true, recurses := true, named := ["speculum/octet.digits"], apart := false, laid := [("speculum/octet.digits", laid_speculum_octet_digits)], narrowed := true }
def AspathTextsUptoSaid : Prop := aspathTextsUptoRow.holds Tryd.pinned (OpenSpec.upto aspathTextsSpec)

/-- 'speculumlaw03.AspathParses', WHERE WHAT IT READS IS OF BULK AT MOST 1048576: true; the input reads as it did. -/
def aspathParsesUptoRow : OpenClaim := { program := "ytlpkngjeihoknaadoor", sum := "694b445ffefdcd62ea6ac90c6b2c03add5648dec5fd3f2b968ea5c7b70eaac4e", func := "speculum/speculumlaw03.AspathParses", spec := "aspathParses", inPlace := ["internal/abi.NoEscape", "internal/bytealg.MakeNoZero"], unfollowed := true, recurses := true, named := ["speculum/octet.digits"], apart := false, laid := [("speculum/octet.digits", laid_speculum_octet_digits)], narrowed := true }
def AspathParsesUptoSaid : Prop := aspathParsesUptoRow.holds Tryd.pinned (OpenSpec.upto aspathParsesSpec)

/-- 'speculumlaw03.AspathSame', WHERE WHAT IT READS IS OF BULK AT MOST 1048576: true; the input reads as it did. -/
def aspathSameUptoRow : OpenClaim := { program := "ytlpkngjeihoknaadoor", sum := "694b445ffefdcd62ea6ac90c6b2c03add5648dec5fd3f2b968ea5c7b70eaac4e", func := "speculum/speculumlaw03.AspathSame", spec := "aspathSame", inPlace := ["internal/abi.NoEscape", "internal/bytealg.MakeNoZero"], unfollowed := true, recurses := true, named := ["speculum/octet.digits"], apart := false, laid := [("speculum/octet.digits", laid_speculum_octet_digits)], narrowed := true }
def AspathSameUptoSaid : Prop := aspathSameUptoRow.holds Tryd.pinned (OpenSpec.upto aspathSameSpec)

/-- 'speculumlaw03.AspathMerges', WHERE WHAT IT READS IS OF BULK AT MOST 1048576: true; the input reads as it did. -/
def aspathMergesUptoRow : OpenClaim := { program := "ytlpkngjeihoknaadoor", sum := "694b445ffefdcd62ea6ac90c6b2c03add5648dec5fd3f2b968ea5c7b70eaac4e", func := "speculum/speculumlaw03.AspathMerges", spec := "aspathMerges", inPlace := ["internal/abi.NoEscape", "internal/bytealg.MakeNoZero"], unfollowed := true, recurses := true, named := ["speculum/octet.digits"], apart := false, laid := [("speculum/octet.digits", laid_speculum_octet_digits)], narrowed := true }
def AspathMergesUptoSaid : Prop := aspathMergesUptoRow.holds Tryd.pinned (OpenSpec.upto aspathMergesSpec)

/-- 'speculumlaw03.AspathParts', WHERE WHAT IT READS IS OF BULK AT MOST 1048576: true; the input reads as it did. -/
def aspathPartsUptoRow : OpenClaim := { program := "ytlpkngjeihoknaadoor", sum := "694b445ffefdcd62ea6ac90c6b2c03add5648dec5fd3f2b968ea5c7b70eaac4e", func := "speculum/speculumlaw03.AspathParts", spec := "aspathParts", inPlace := ["internal/abi.NoEscape", "internal/bytealg.MakeNoZero"], unfollowed := true, recurses := true, named := ["speculum/octet.digits"], apart := false, laid := [("speculum/octet.digits", laid_speculum_octet_digits)], narrowed := true }
def AspathPartsUptoSaid : Prop := aspathPartsUptoRow.holds Tryd.pinned (OpenSpec.upto aspathPartsSpec)

/-- 'speculumlaw03.AspathPuts', WHERE WHAT IT READS IS OF BULK AT MOST 1048576: true; the input reads as it did. -/
def aspathPutsUptoRow : OpenClaim := { program := "ytlpkngjeihoknaadoor", sum := "694b445ffefdcd62ea6ac90c6b2c03add5648dec5fd3f2b968ea5c7b70eaac4e", func := "speculum/speculumlaw03.AspathPuts", spec := "aspathPuts", inPlace := ["internal/abi.NoEscape", "internal/bytealg.MakeNoZero"], unfollowed := true, recurses := true, named := ["speculum/octet.digits"], apart := false, laid := [("speculum/octet.digits", laid_speculum_octet_digits)], narrowed := true }
def AspathPutsUptoSaid : Prop := aspathPutsUptoRow.holds Tryd.pinned (OpenSpec.upto aspathPutsSpec)

/-- 'speculumlaw03.AspathReads', WHERE WHAT IT READS IS OF BULK AT MOST 1048576: true; the input reads as it did. -/
def aspathReadsUptoRow : OpenClaim := { program := "ytlpkngjeihoknaadoor", sum := "694b445ffefdcd62ea6ac90c6b2c03add5648dec5fd3f2b968ea5c7b70eaac4e", func := "speculum/speculumlaw03.AspathReads", spec := "aspathReads", inPlace := ["internal/abi.NoEscape", "internal/bytealg.MakeNoZero"], unfollowed := true, recurses := true, named := ["speculum/octet.digits"], apart := false, laid := [("speculum/octet.digits", laid_speculum_octet_digits)], narrowed := true }
def AspathReadsUptoSaid : Prop := aspathReadsUptoRow.holds Tryd.pinned (OpenSpec.upto aspathReadsSpec)

/-- 'speculumlaw03.AspathPrepends', WHERE WHAT IT READS IS OF BULK AT MOST 1048576: true; the input reads as it did. -/
def aspathPrependsUptoRow : OpenClaim := { program := "ytlpkngjeihoknaadoor", sum := "694b445ffefdcd62ea6ac90c6b2c03add5648dec5fd3f2b968ea5c7b70eaac4e", func := "speculum/speculumlaw03.AspathPrepends", spec := "aspathPrepends", inPlace := ["internal/abi.NoEscape", "internal/bytealg.MakeNoZero", "slices.overlaps[uint32]", "slices.overlaps[speculum/api.Segment]"], unfollowed := true, recurses := true, named := ["speculum/octet.digits"], apart := false, laid := [("speculum/octet.digits", laid_speculum_octet_digits)], narrowed := true }
def AspathPrependsUptoSaid : Prop := aspathPrependsUptoRow.holds Tryd.pinned (OpenSpec.upto aspathPrependsSpec)

/-- 'speculumlaw04.AttrsRight', WHERE WHAT IT READS IS OF BULK AT MOST 1048576: true; the input reads as it did. -/
def attrsRightUptoRow : OpenClaim := { program := "ytlpkngjeihoknaadoor", sum := "694b445ffefdcd62ea6ac90c6b2c03add5648dec5fd3f2b968ea5c7b70eaac4e", func := "speculum/speculumlaw04.AttrsRight", spec := "attrsRight", inPlace := ["slices.overlaps[speculum/api.Raw]"], unfollowed := true, recurses := true, named := ["speculum/attrs.looks"], apart := false, laid := [("speculum/attrs.looks", laid_speculum_attrs_looks)], narrowed := true }
def AttrsRightUptoSaid : Prop := attrsRightUptoRow.holds Tryd.pinned (OpenSpec.upto attrsRightSpec)

/-- 'speculumlaw04.AttrsSame', WHERE WHAT IT READS IS OF BULK AT MOST 1048576: true; the input reads as it did. -/
def attrsSameUptoRow : OpenClaim := { program := "ytlpkngjeihoknaadoor", sum := "694b445ffefdcd62ea6ac90c6b2c03add5648dec5fd3f2b968ea5c7b70eaac4e", func := "speculum/speculumlaw04.AttrsSame", spec := "attrsSame", inPlace := ["slices.overlaps[speculum/api.Raw]"], unfollowed := true, recurses := true, named := ["speculum/attrs.looks"], apart := false, laid := [("speculum/attrs.looks", laid_speculum_attrs_looks)], narrowed := true }
def AttrsSameUptoSaid : Prop := attrsSameUptoRow.holds Tryd.pinned (OpenSpec.upto attrsSameSpec)

/-- 'speculumlaw04.AttrsPuts', WHERE WHAT IT READS IS OF BULK AT MOST 1048576: true; the input reads as it did. -/
def attrsPutsUptoRow : OpenClaim := { program := "ytlpkngjeihoknaadoor", sum := "694b445ffefdcd62ea6ac90c6b2c03add5648dec5fd3f2b968ea5c7b70eaac4e", func := "speculum/speculumlaw04.AttrsPuts", spec := "attrsPuts", inPlace := ["slices.overlaps[speculum/api.Raw]"], unfollowed := true, recurses := true, named := ["speculum/attrs.looks"], apart := false, laid := [("speculum/attrs.looks", laid_speculum_attrs_looks)], narrowed := true }
def AttrsPutsUptoSaid : Prop := attrsPutsUptoRow.holds Tryd.pinned (OpenSpec.upto attrsPutsSpec)

/-- 'speculumlaw04.AttrsBack', WHERE WHAT IT READS IS OF BULK AT MOST 1048576: true; the input reads as it did. -/
def attrsBackUptoRow : OpenClaim := { program := "ytlpkngjeihoknaadoor", sum := "694b445ffefdcd62ea6ac90c6b2c03add5648dec5fd3f2b968ea5c7b70eaac4e", func := "speculum/speculumlaw04.AttrsBack", spec := "attrsBack", inPlace := ["slices.overlaps[speculum/api.Raw]"], unfollowed := true, recurses := true, named := ["speculum/attrs.looks"], apart := false, laid := [("speculum/attrs.looks", laid_speculum_attrs_looks)], narrowed := true }
def AttrsBackUptoSaid : Prop := attrsBackUptoRow.holds Tryd.pinned (OpenSpec.upto attrsBackSpec)

/-- 'speculumlaw04.AttrsNarrow', WHERE WHAT IT READS IS OF BULK AT MOST 1048576: true; the input reads as it did. -/
def attrsNarrowUptoRow : OpenClaim := { program := "ytlpkngjeihoknaadoor", sum := "694b445ffefdcd62ea6ac90c6b2c03add5648dec5fd3f2b968ea5c7b70eaac4e", func := "speculum/speculumlaw04.AttrsNarrow", spec := "attrsNarrow", inPlace := ["slices.overlaps[speculum/api.Raw]"], unfollowed := true, recurses := true, named := ["speculum/attrs.looks"], apart := false, laid := [("speculum/attrs.looks", laid_speculum_attrs_looks)], narrowed := true }
def AttrsNarrowUptoSaid : Prop := attrsNarrowUptoRow.holds Tryd.pinned (OpenSpec.upto attrsNarrowSpec)

end Rows
end Go.Proofs.YtlpkngjeihoknaaDoor
