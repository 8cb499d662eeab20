/- The walks of octet.Int and of the document's Text and Int. Conditions: the table of digits (DigTab). -/
import Derived.Test.YtlpkngjeihoknaaDoorProg
import Derived.WalkKit
import Derived.WalkSpells
import Derived.WalkLawsBesides
import Derived.Outline
import Derived.Deep.QuietTactic
import Derived.BigQuiet
import Derived.Handy
import Derived.Lib.Hide
import Derived.Test.YtlpkngjeihoknaaDoorDecPlain
import Derived.Test.YtlpkngjeihoknaaDoorOctetC
import Derived.Test.YtlpkngjeihoknaaDoorRefHex
namespace Go.Proofs.YtlpkngjeihoknaaDoor
open Go.RowKit
/-- A number and a bool are handed back: what the text says. -/
def RetIB (w : World) (l : List UInt8) (e : Ending) (w' : World) : Prop := ∃ (v : Int) (ok : Bool), e = .returned (.tuple #[.int .i64 v, .bool ok]) ∧ IntAns l v ok ∧ Below w.heap.size w w'
end Go.Proofs.YtlpkngjeihoknaaDoor
