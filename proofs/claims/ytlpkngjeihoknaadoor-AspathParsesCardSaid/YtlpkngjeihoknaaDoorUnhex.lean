/- The walk of octet.Unhex. Conditions: the table of digits (DigTab). -/
import Derived.Test.YtlpkngjeihoknaaDoorProg
import Derived.WalkKit
import Derived.WalkSpells
import Derived.WalkLawsBesides
import Derived.Outline
import Derived.Deep.QuietTactic
import Derived.BigQuiet
import Derived.Handy
import Derived.Lib.Hide
import Derived.Test.YtlpkngjeihoknaaDoorHexPlain
namespace Go.Proofs.YtlpkngjeihoknaaDoor
open Go.RowKit
theorem DigTab.drewN {w : World} (h : DigTab w) (n : Nat) : DigTab (w.drewN n) := h
theorem DigTab.drew {w : World} (h : DigTab w) : DigTab w.drew := h
end Go.Proofs.YtlpkngjeihoknaaDoor
