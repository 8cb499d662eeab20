/- The walks of laws of layer 1. Conditions: the table of digits (DigTab). -/
import Derived.Test.YtnhkpnohadbcdaaDoorProg
import Derived.WalkKit
import Derived.WalkSpells
import Derived.WalkLawsBesides
import Derived.Outline
import Derived.Deep.QuietTactic
import Derived.BigQuiet
import Derived.Handy
import Derived.Lib.Hide
import Derived.Test.YtnhkpnohadbcdaaDoorOctetC
import Derived.Test.YtnhkpnohadbcdaaDoorRef01
namespace Go.Proofs.YtnhkpnohadbcdaaDoor
open Go.RowKit
end Go.Proofs.YtnhkpnohadbcdaaDoor
