/- Walks of the document's reader (speculumref01.R). Conditions: none but sizes. -/
import Derived.Test.YthgjknmfghjioaaDoorProg
import Derived.WalkKit
import Derived.WalkSpells
import Derived.WalkLawsBesides
import Derived.Outline
import Derived.Deep.QuietTactic
import Derived.BigQuiet
import Derived.Handy
import Derived.Lib.Hide
import Derived.Deep.RegionHeld3
import Derived.Test.YthgjknmfghjioaaDoorReaderB
namespace Go.Proofs.YthgjknmfghjioaaDoor
open Go.RowKit
theorem keep3 {w W W' : World} {x y z : Value} {p q r : Addr} (hp : p.block < w.heap.size) (hq : q.block < w.heap.size) (hr : r.block < w.heap.size) (hb : Below w.heap.size W W') (h : Below w.heap.size w W ∧ W.cell? p = some x ∧ W.cell? q = some y ∧ W.cell? r = some z) :
    Below w.heap.size w W' ∧ W'.cell? p = some x ∧ W'.cell? q = some y ∧ W'.cell? r = some z :=
  ⟨h.1.trans hb, (hb.cell hp).trans h.2.1, (hb.cell hq).trans h.2.2.1, (hb.cell hr).trans h.2.2.2⟩
theorem rx_no {A : Option Addr} {n c a : Nat} {s : Bool} : ∀ (i : Nat) (v : Int), (#[Value.slice A n c, Value.int .i64 a, Value.bool s] : Array Value)[i]? ≠ some (Value.int .u8 v) := by
  intro i v
  rcases i with _ | _ | _ | i
  · simp
  · simp
  · simp
  · simp
end Go.Proofs.YthgjknmfghjioaaDoor
