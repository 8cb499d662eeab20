/- The walks of layer 21: fsm.Step, fsm.Name, fsm.Fault, and the document's Step, Name, Fault, each by its contract over any world that holds the table. Conditions: the table's cells (FsmTab). -/
import Derived.Test.YthgjknmfghjioaaDoorProg
import Derived.WalkKit
import Derived.WalkSpells
import Derived.WalkLawsBesides
import Derived.Outline
import Derived.Deep.QuietTactic
import Derived.BigQuiet
import Derived.Handy
import Derived.Lib.Hide
import Derived.Test.YthgjknmfghjioaaDoorBase
import Derived.Test.YthgjknmfghjioaaDoorFsmPlain
namespace Go.Proofs.YthgjknmfghjioaaDoor
open Go.RowKit
/-- The table's cells. -/
def FsmTab (w : World) : Prop := ∀ s e : Nat, s < 6 → e < 16 → w.cell? ⟨0, s * 32 + e * 2, none⟩ = some (.int .i64 ((fsmCell s e).1 : Int)) ∧ w.cell? ⟨0, s * 32 + e * 2 + 1, none⟩ = some (.int .i64 ((fsmCell s e).2 : Int))
theorem FsmTab.below {w w' : World} (h : FsmTab w) (hb : Below w.heap.size w w') : FsmTab w' := fun s e hs he => by
  have h1 := h s e hs he
  exact ⟨(hb.cell (lt_of_cell h1.1)).trans h1.1, (hb.cell (lt_of_cell h1.2)).trans h1.2⟩

set_option maxHeartbeats 400000 in
theorem fsmStep_out (s e : Int) (w : World) (h : s < 0 ∨ 5 < s ∨ e < 0 ∨ 15 < e) :
    Calls Tryd.prog 23 #[.int .i64 s, .int .i64 e] w fun en w' => en = .returned (.tuple #[.int .i64 0, .int .i64 0]) ∧ Below w.heap.size w w' := by
  have aux : ∀ b : Bool, (decide (s < 0) || decide (6 ≤ s) || decide (e < 0) || decide (16 ≤ e)) = b → b = true := fun b hb => by rw [← hb]; simp; omega
  by_cases h1 : s < 0
  · go_enter Tryd.func23, Tryd.ntmps23
    go_wp2
    go_ret2
    exact ⟨rfl, Below.refl _ _⟩
  by_cases h2 : 5 < s
  · go_enter Tryd.func23, Tryd.ntmps23
    go_wp2
    go_ret2
    exact ⟨rfl, Below.refl _ _⟩
  by_cases h3 : e < 0
  · go_enter Tryd.func23, Tryd.ntmps23
    go_wp2
    go_ret2
    exact ⟨rfl, Below.refl _ _⟩
  have h4 : 15 < e := by omega
  go_enter Tryd.func23, Tryd.ntmps23
  go_wp2
  go_ret2
  exact ⟨rfl, Below.refl _ _⟩
set_option maxHeartbeats 400000 in
theorem fsmStep_in (s e : Nat) (w : World) (h : s < 6) (he : e < 16) (a b : Int)
    (ha : w.cell? ⟨0, s * 32 + e * 2, none⟩ = some (.int .i64 a)) (hb : w.cell? ⟨0, s * 32 + e * 2 + 1, none⟩ = some (.int .i64 b)) :
    Calls Tryd.prog 23 #[.int .i64 s, .int .i64 e] w fun en w' => en = .returned (.tuple #[.int .i64 a, .int .i64 b]) ∧ Below w.heap.size w w' := by
  go_enter Tryd.func23, Tryd.ntmps23
  go_wp2
  go_quiet (fail)
  go_wp2
  go_ret2
  exact ⟨rfl, (by repeat' (first | (with_reducible exact Below.refl _ _) | (with_reducible assumption) | (with_reducible refine below_drewN ?_ _) | (with_reducible refine Below.drew ?_) | (with_reducible refine Below.alloc ?_ ?_ _) | (with_reducible refine Below.setCell ?_ ?_ _) | go_size))⟩
/-- fsm.Step, at any state and event. -/
theorem fsmStep (s e : Int) (w : World) (ht : FsmTab w) :
    Calls Tryd.prog 23 #[.int .i64 s, .int .i64 e] w fun en w' => en = .returned (.tuple #[.int .i64 (fsmTo s e), .int .i64 (fsmDo s e)]) ∧ Below w.heap.size w w' := by
  by_cases h : 0 ≤ s ∧ s < 6 ∧ 0 ≤ e ∧ e < 16
  · obtain ⟨h1, h2, h3, h4⟩ := h
    obtain ⟨n, rfl⟩ := Int.eq_ofNat_of_zero_le h1
    obtain ⟨m, rfl⟩ := Int.eq_ofNat_of_zero_le h3
    have ⟨ha, hb⟩ := ht n m (by omega) (by omega)
    refine (fsmStep_in n m w (by omega) (by omega) _ _ ha hb).mono ?_
    rintro en w' ⟨rfl, hb⟩
    exact ⟨by rw [fsmTo_in n m (by omega) (by omega), fsmDo_in n m (by omega) (by omega)], hb⟩
  · refine (fsmStep_out s e w (by omega)).mono ?_
    rintro en w' ⟨rfl, hb⟩
    exact ⟨by rw [fsmTo_out s e h, fsmDo_out s e h], hb⟩
def rowCells (e : Nat) : Array Value := ((refRow e).map fun l => Value.string ⟨l.toArray⟩).toArray
theorem rowCells_at (s e : Nat) (h : s < 6) (he : e < 16) : (rowCells e)[s]? = some (.string ⟨(refWord s e).toArray⟩) := by
  have hl := rows_len ⟨e, he⟩
  simp only [rowCells, refWord, List.getElem?_toArray, List.getElem?_map]
  have : s < (refRow (e : Int)).length := by rw [hl]; exact h
  rw [List.getElem?_eq_getElem this]
  rfl
end Go.Proofs.YthgjknmfghjioaaDoor
