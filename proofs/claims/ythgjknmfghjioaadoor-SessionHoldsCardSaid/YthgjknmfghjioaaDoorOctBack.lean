/- The walk of the law OctetBack. Conditions: the table of digits (DigTab). -/
import Derived.Test.YthgjknmfghjioaaDoorProg
import Derived.WalkKit
import Derived.WalkSpells
import Derived.WalkLawsBesides
import Derived.Outline
import Derived.Deep.QuietTactic
import Derived.BigQuiet
import Derived.Handy
import Derived.Lib.Hide
import Derived.Deep.RegionHeld
import Derived.Test.YthgjknmfghjioaaDoorReaderTwo
namespace Go.Proofs.YthgjknmfghjioaaDoor
open Go.RowKit
theorem RD.drew {w : World} {g : Nat} {l : List UInt8} {s : Bool} (h : RD w g l s) : RD w.drew g l s := h
/-- A slice of the call's own without bytes. -/
theorem OB.emptyB (w : World) {T base : Nat} (hb : base ≤ w.heap.size) : OB (w.alloc (.cells #[] T)) T base (some ⟨w.heap.size, 0, none⟩) 0 0 [] :=
  ⟨rfl, rfl, .inr ⟨w.heap.size, 0, #[], rfl, hb, Blk.new w T #[], Nat.le_refl _, by unfold maxLen; omega, rfl, rfl⟩⟩
end Go.Proofs.YthgjknmfghjioaaDoor
