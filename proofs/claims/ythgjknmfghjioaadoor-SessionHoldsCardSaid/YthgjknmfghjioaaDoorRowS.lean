/- Whole rows stored as one step. No conditions. -/
import Derived.Test.YthgjknmfghjioaaDoorProg
import Derived.WalkKit
import Derived.WalkSpells
import Derived.WalkLawsBesides
import Derived.Outline
import Derived.Deep.QuietTactic
import Derived.BigQuiet
import Derived.Handy
import Derived.Lib.Hide
import Derived.Test.YthgjknmfghjioaaDoorDeep
namespace Go.Proofs.YthgjknmfghjioaaDoor
open Go.RowKit
/-- A whole row stored, as one step of a region that draws. -/
theorem step_row {P : Program} {ops : Array Oper} {o : Oper} {a : Act} {w : World} {K : Act → World → Prop} {Q : Exit → Act → World → Prop} {E : Prop} (hgd : o.guard = none) (ty : TypeId) (x y : Operand) (ho : o.op = .store ty x y)
    (g : Nat) (cells : Array Value) (hx : a.eval x = .pointer (some ⟨g, 0, none⟩)) (hy : a.eval y = .agg cells)
    (t : TypeId) (old : Array Value) (hg : Blk w g t old) (hi : (P.info? ty).map (·.size) = some cells.size)
    (hold : old.size = cells.size) (h1 : cells.all (·.oneCell') = true)
    (h : K (a.put o.dst undef) (w.setRow g cells)) : if Region.wanted o (yielded ops a.tmps) = true then Oper.wp P o a w K Q else E := by
  have hw : Region.wanted o (yielded ops a.tmps) = true := by simp [Region.wanted, hgd]
  rw [if_pos hw]
  exact wp_store_row ty x y ho g cells hx hy t old hg hi hold h1 h
theorem Blk.row {w : World} {g : Nat} {t : TypeId} {cs : Array Value} (h : Blk w g t cs) (new : Array Value) : Blk (w.setRow g new) g t new := setRow_heap w g cs new t (0, 0) h
theorem row_far (w : World) (k : Nat) (new : Array Value) {b : Nat} (hb : b ≠ k) : (w.setRow k new).heap[b]? = w.heap[b]? := by
  unfold World.setRow
  simp [Array.getElem?_modify, Ne.symm hb]
theorem row_size (w : World) (k : Nat) (new : Array Value) : (w.setRow k new).heap.size = w.heap.size := by simp [World.setRow]
theorem Blk.rowFar {w : World} {g k : Nat} {t : TypeId} {cs : Array Value} (h : Blk w g t cs) (hk : g ≠ k) (new : Array Value) : Blk (w.setRow k new) g t cs := (row_far w k new hk).trans h
theorem row_grown (w : World) (k : Nat) (new : Array Value) : w.grownBy (w.setRow k new) (some k) := ⟨rfl, rfl, rfl, by rw [row_size]; exact Nat.le_refl _, fun b _ hne => row_far w k new (fun e => hne (by rw [e]))⟩
theorem Sm.setRow {B : Nat} {av : List Nat} {a w : World} (h : Sm B av a w) {k : Nat} (hk : B ≤ k ∨ k ∈ av) (new : Array Value) : Sm B av a (w.setRow k new) :=
  h.trans ⟨rfl, rfl, rfl, by simp [World.setRow], fun b hb hn => row_far w k new (by
    rintro rfl
    rcases hk with hk | hk
    · omega
    · exact hn hk)⟩
end Go.Proofs.YthgjknmfghjioaaDoor
