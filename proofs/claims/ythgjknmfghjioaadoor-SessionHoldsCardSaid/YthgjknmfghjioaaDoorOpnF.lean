/- Walks of layer 6 (open): whether two OPENs, or two faults, are the same; the time that two take. No conditions but sizes. -/
import Derived.Test.YthgjknmfghjioaaDoorProg
import Derived.WalkKit
import Derived.WalkSpells
import Derived.WalkLawsBesides
import Derived.Outline
import Derived.Deep.QuietTactic
import Derived.BigQuiet
import Derived.Handy
import Derived.Lib.Hide
import Derived.Deep.DeepCutAuto
import Derived.Deep.CutBlock
import Derived.Test.YthgjknmfghjioaaDoorOpnC
namespace Go.Proofs.YthgjknmfghjioaaDoor
open Go.RowKit
set_option linter.unusedSimpArgs false
set_option linter.unusedVariables false
/-- Yes or no, by what it tells. -/
def RetQ (w : World) (P : Prop) (e : Ending) (w' : World) : Prop := ∃ r : Bool, e = .returned (.bool r) ∧ (r = true ↔ P) ∧ Below w.heap.size w w'
theorem RetQ.no {w w' : World} {P : Prop} (h : ¬ P) (hb : Below w.heap.size w w') : RetQ w P (.returned (.bool false)) w' := ⟨false, rfl, ⟨(fun e => by cases e), fun e => absurd e h⟩, hb⟩
theorem RetQ.yes {w w' : World} {P : Prop} (h : P) (hb : Below w.heap.size w w') : RetQ w P (.returned (.bool true)) w' := ⟨true, rfl, ⟨fun _ => h, fun _ => rfl⟩, hb⟩
theorem ne_true {x y : Int} (h : ¬ x = y) : (x != y) = true := by simpa using h
theorem ne_false {x y : Int} (h : x = y) : (x != y) = false := by simpa using h
end Go.Proofs.YthgjknmfghjioaaDoor
