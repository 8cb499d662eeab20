/- Walks of the document's reader: numbers, what is left, errors. Conditions: none but sizes. -/
import Derived.Test.YthgjknmfghjioaaDoorProg
import Derived.WalkKit
import Derived.WalkSpells
import Derived.WalkLawsBesides
import Derived.Outline
import Derived.Deep.QuietTactic
import Derived.BigQuiet
import Derived.Handy
import Derived.Lib.Hide
import Derived.Test.YthgjknmfghjioaaDoorRefR
namespace Go.Proofs.YthgjknmfghjioaaDoor
open Go.RowKit
end Go.Proofs.YthgjknmfghjioaaDoor
