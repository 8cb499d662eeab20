/- Walks of the document's layer 1 (speculumref01). -/
import Derived.Test.YtnhkpnohadbcdaaDoorProg
import Derived.WalkKit
import Derived.WalkSpells
import Derived.WalkLawsBesides
import Derived.Outline
import Derived.Deep.QuietTactic
import Derived.BigQuiet
import Derived.Handy
import Derived.Lib.Hide
import Derived.Test.YtnhkpnohadbcdaaDoorOctet
namespace Go.Proofs.YtnhkpnohadbcdaaDoor
open Go.RowKit
theorem ref01Same (A A' : Option Addr) (n n' c c' : Nat) (l l' : List UInt8) (w : World) (B B' : Nat) (h : BS w B A n l) (h' : BS w B' A' n' l') :
    Calls Tryd.prog 56 #[.slice A n c, .slice A' n' c'] w fun en w' => en = .returned (.bool (l == l')) ∧ w = w' := by
  have k1 := h.conv (P := Tryd.prog) 55 9 5 c Tryd.underlying55 Tryd.underlying5 Tryd.underlying9
  have k2 := h'.conv (P := Tryd.prog) 55 9 5 c' Tryd.underlying55 Tryd.underlying5 Tryd.underlying9
  go_enter Tryd.func56, Tryd.ntmps56
  go_wp2
  go_ret
  exact ⟨rfl, rfl⟩
end Go.Proofs.YtnhkpnohadbcdaaDoor
