/- More walks of layer 21 (joined to XFsm's). -/
import Derived.Test.YthgjknmfghjioaaDoorProg
import Derived.WalkKit
import Derived.WalkSpells
import Derived.WalkLawsBesides
import Derived.Outline
import Derived.Deep.QuietTactic
import Derived.BigQuiet
import Derived.Handy
import Derived.Lib.Hide
import Derived.Test.YthgjknmfghjioaaDoorFsm
namespace Go.Proofs.YthgjknmfghjioaaDoor
open Go.RowKit
/-- fsm.Name. -/
theorem fsmName_any (s : Int) (w : World) : Calls Tryd.prog 22 #[.int .i64 s] w fun en w' => en = .returned (.string (fsmName s)) ∧ Below w.heap.size w w' := by
  by_cases h : 0 ≤ s ∧ s < 6
  · have : s = 0 ∨ s = 1 ∨ s = 2 ∨ s = 3 ∨ s = 4 ∨ s = 5 := by omega
    rcases this with rfl | rfl | rfl | rfl | rfl | rfl
    all_goals
      go_enter Tryd.func22, Tryd.ntmps22
      go_wp2
      go_ret
      exact ⟨rfl, (by repeat' (first | (with_reducible exact Below.refl _ _) | (with_reducible assumption) | (with_reducible refine below_drewN ?_ _) | (with_reducible refine Below.drew ?_) | (with_reducible refine Below.alloc ?_ ?_ _) | (with_reducible refine Below.setCell ?_ ?_ _) | go_size))⟩
  · have HN := Lib.hid (show fsmName s = ⟨#[]⟩ by unfold fsmName; rw [if_neg h])
    by_cases h1 : s < 0
    · go_enter Tryd.func22, Tryd.ntmps22
      go_wp2
      go_ret
      exact ⟨ret_s HN.out.symm, (by repeat' (first | (with_reducible exact Below.refl _ _) | (with_reducible assumption) | (with_reducible refine below_drewN ?_ _) | (with_reducible refine Below.drew ?_) | (with_reducible refine Below.alloc ?_ ?_ _) | (with_reducible refine Below.setCell ?_ ?_ _) | go_size))⟩
    · have h2 : 5 < s := by omega
      go_enter Tryd.func22, Tryd.ntmps22
      go_wp2
      go_ret
      exact ⟨ret_s HN.out.symm, (by repeat' (first | (with_reducible exact Below.refl _ _) | (with_reducible assumption) | (with_reducible refine below_drewN ?_ _) | (with_reducible refine Below.drew ?_) | (with_reducible refine Below.alloc ?_ ?_ _) | (with_reducible refine Below.setCell ?_ ?_ _) | go_size))⟩
/-- A fault without data. -/
def flt (c s : Int) : Value := .agg #[.int .i64 c, .int .i64 s, .slice none 0 0]
/-- What a NOTIFICATION says. -/
def fsmFault (e : Int) (f : Value) : Value := if e == 8 || e == 9 || e == 14 then f else if e == 5 then flt 4 0 else if e == 1 then flt 6 2 else if e == 10 then flt 6 7 else if e == 15 then flt 6 1 else flt 5 0
theorem cease_any (k : Int) (w : World) : Calls Tryd.prog 41 #[.int .i64 k] w fun en w' => en = .returned (flt 6 k) ∧ Below w.heap.size w w' := by
  go_enter Tryd.func41, Tryd.ntmps41
  go_wp2
  go_returns
  exact ⟨rfl, (by repeat' (first | (with_reducible exact Below.refl _ _) | (with_reducible assumption) | (with_reducible refine below_drewN ?_ _) | (with_reducible refine Below.drew ?_) | (with_reducible refine Below.alloc ?_ ?_ _) | (with_reducible refine Below.setCell ?_ ?_ _) | go_size))⟩
end Go.Proofs.YthgjknmfghjioaaDoor
