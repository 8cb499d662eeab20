/- Walks of the document's layer 1 (speculumref01). -/
import Derived.Test.YtdcldmblgbefnaaDoorProg
import Derived.WalkKit
import Derived.WalkSpells
import Derived.WalkLawsBesides
import Derived.Outline
import Derived.Deep.QuietTactic
import Derived.BigQuiet
import Derived.Handy
import Derived.Lib.Hide
import Derived.Test.YtdcldmblgbefnaaDoorBase
namespace Go.Proofs.YtdcldmblgbefnaaDoor
open Go.RowKit
theorem ref01Same (A A' : Option Addr) (n n' c c' : Nat) (l l' : List UInt8) (w : World) (B B' : Nat) (hn : n = l.length) (hn' : n' = l'.length) (h : BS w B A l) (h' : BS w B' A' l') :
    Calls Tryd.prog 32 #[.slice A n c, .slice A' n' c'] w fun en w' => en = .returned (.bool (l == l')) ∧ w = w' := by
  have k1 := h.conv (P := Tryd.prog) 27 9 5 c Tryd.underlying27 Tryd.underlying5 Tryd.underlying9
  have k2 := h'.conv (P := Tryd.prog) 27 9 5 c' Tryd.underlying27 Tryd.underlying5 Tryd.underlying9
  subst hn hn'
  go_enter Tryd.func32, Tryd.ntmps32
  go_wp2
  go_ret
  exact ⟨rfl, rfl⟩
end Go.Proofs.YtdcldmblgbefnaaDoor
