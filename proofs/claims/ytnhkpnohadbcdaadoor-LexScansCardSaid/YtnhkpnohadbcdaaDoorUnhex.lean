/- The walk of octet.Unhex. Conditions: the table of digits (DigTab). -/
import Derived.Test.YtnhkpnohadbcdaaDoorProg
import Derived.WalkKit
import Derived.WalkSpells
import Derived.WalkLawsBesides
import Derived.Outline
import Derived.Deep.QuietTactic
import Derived.BigQuiet
import Derived.Handy
import Derived.Lib.Hide
import Derived.Test.YtnhkpnohadbcdaaDoorHexPlain
namespace Go.Proofs.YtnhkpnohadbcdaaDoor
open Go.RowKit
theorem value_is (c r : Int) (w : World) (ht : DigTab w) (hr : Hid (valI c = r)) :
    Calls Tryd.prog 114 #[.int .u8 c] w fun en w' => en = .returned (.int .u8 r) ∧ w = w' := by
  rw [← hr.out]; exact value_any c w ht
theorem DigTab.drewN {w : World} (h : DigTab w) (n : Nat) : DigTab (w.drewN n) := h
theorem DigTab.drew {w : World} (h : DigTab w) : DigTab w.drew := h
end Go.Proofs.YtnhkpnohadbcdaaDoor
