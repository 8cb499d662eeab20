/- The walks of laws of layer 1. Conditions: the table of digits (DigTab). -/
import Derived.Test.YtlpkngjeihoknaaDoorProg
import Derived.WalkKit
import Derived.WalkSpells
import Derived.WalkLawsBesides
import Derived.Outline
import Derived.Deep.QuietTactic
import Derived.BigQuiet
import Derived.Handy
import Derived.Lib.Hide
import Derived.Test.YtlpkngjeihoknaaDoorOctetC
import Derived.Test.YtlpkngjeihoknaaDoorRef01
namespace Go.Proofs.YtlpkngjeihoknaaDoor
open Go.RowKit
end Go.Proofs.YtlpkngjeihoknaaDoor
