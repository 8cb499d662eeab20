/- More on readers: what keeps one. No conditions. -/
import Derived.Test.YthgjknmfghjioaaDoorProg
import Derived.WalkKit
import Derived.WalkSpells
import Derived.WalkLawsBesides
import Derived.Outline
import Derived.Deep.QuietTactic
import Derived.BigQuiet
import Derived.Handy
import Derived.Lib.Hide
import Derived.Test.YthgjknmfghjioaaDoorReaderB
namespace Go.Proofs.YthgjknmfghjioaaDoor
open Go.RowKit
theorem rd_below {w w' : World} {B g : Nat} {l : List UInt8} {s : Bool} (h : RD w g l s) (hb : Below B w w') (hB : w.heap.size ≤ B) : RD w' g l s := by
  have hlt := h.lt
  obtain ⟨A, n, c, h1, h2, h3⟩ := h
  exact ⟨A, n, c, h1.below hb (by omega), h2, (h3.below (hb.mono hB)).more hb.size⟩
theorem at_below {B : Nat} {a w w' : World} {g : Nat} (h : Below B a w) (hg : w.grownBy w' (some g)) (hB : B ≤ w.heap.size) (hle : B ≤ g) : Below B a w' :=
  h.grown hg hB (fun k hk => by injection hk; omega)
theorem grown_tr {a b c : World} {row : Option Nat} (h : a.grownBy b row) (k : b.grownBy c row) : a.grownBy c row :=
  ⟨k.os.trans h.os, k.tape.trans h.tape, k.output.trans h.output, Nat.le_trans h.size k.size, fun i hi hne => (k.block i (Nat.lt_of_lt_of_le hi h.size) hne).trans (h.block i hi hne)⟩
theorem tk_yes {l : List UInt8} {k : Nat} (h : k ≤ l.length) : tkOut l false k = l.take k ∧ tkLeft l false k = l.drop k ∧ tkShort l false k = false := by
  have hor : ¬ (false = true ∨ (k : Int) < 0 ∨ (l.length : Int) < k) := by simp; omega
  exact ⟨by rw [tkOut, if_neg hor, Int.toNat_natCast], by rw [tkLeft, if_neg hor, Int.toNat_natCast], by rw [tkShort, decide_eq_false hor]⟩
end Go.Proofs.YthgjknmfghjioaaDoor
