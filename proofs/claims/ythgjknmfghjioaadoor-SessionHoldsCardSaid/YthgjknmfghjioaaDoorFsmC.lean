/- More walks of layer 21 (joined to XFsm's). -/
import Derived.Test.YthgjknmfghjioaaDoorProg
import Derived.WalkKit
import Derived.WalkSpells
import Derived.WalkLawsBesides
import Derived.Outline
import Derived.Deep.QuietTactic
import Derived.BigQuiet
import Derived.Handy
import Derived.Lib.Hide
import Derived.Test.YthgjknmfghjioaaDoorFsmB
import Derived.Test.YthgjknmfghjioaaDoorRef01
namespace Go.Proofs.YthgjknmfghjioaaDoor
open Go.RowKit
set_option maxHeartbeats 1000000 in
theorem fsmFault_any (e a b : Int) (A : Option Addr) (n c : Nat) (w : World) :
    Calls Tryd.prog 28 #[.int .i64 e, .agg #[.int .i64 a, .int .i64 b, .slice A n c]] w fun en w' => en = .returned (fsmFault e (.agg #[.int .i64 a, .int .i64 b, .slice A n c])) ∧ Below w.heap.size w w' := by
  go_enter Tryd.func28, Tryd.ntmps28
  go_wp2
  all_goals go_returns
  all_goals exact ⟨by simp [fsmFault, flt, *], (by repeat' (first | (with_reducible exact Below.refl _ _) | (with_reducible assumption) | (with_reducible refine below_drewN ?_ _) | (with_reducible refine Below.drew ?_) | (with_reducible refine Below.alloc ?_ ?_ _) | (with_reducible refine Below.setCell ?_ ?_ _) | go_size))⟩
/-- The document's sameness of two faults. -/
theorem sameFault_any (a b a' b' : Int) (A A' : Option Addr) (n c n' c' : Nat) (l l' : List UInt8) (w : World) (h : BS w w.heap.size A n l) (h' : BS w w.heap.size A' n' l') :
    Calls Tryd.prog 7 #[.agg #[.int .i64 a, .int .i64 b, .slice A n c], .agg #[.int .i64 a', .int .i64 b', .slice A' n' c']] w fun en w' => en = .returned (.bool (a == a' && b == b' && l == l')) ∧ Below w.heap.size w w' := by
  by_cases h1 : (a == a') = true
  · by_cases h2 : (b == b') = true
    · go_enter Tryd.func7, Tryd.ntmps7
      go_wp2_with (go_at_call 21; refine (ref01Same A A' n n' c c' l l' _ _ _ ((h.alloc (Nat.le_refl _) _).alloc (by go_size) _) ((h'.alloc (Nat.le_refl _) _).alloc (by go_size) _)).mono ?_; rintro _ w1 ⟨rfl, rfl⟩)
      go_ret
      exact ⟨ret_b (by simp [h1, h2]), (by repeat' (first | (with_reducible exact Below.refl _ _) | (with_reducible assumption) | (with_reducible refine below_drewN ?_ _) | (with_reducible refine Below.drew ?_) | (with_reducible refine Below.alloc ?_ ?_ _) | (with_reducible refine Below.setCell ?_ ?_ _) | go_size))⟩
    · go_enter Tryd.func7, Tryd.ntmps7
      go_wp2
      go_ret
      exact ⟨ret_b (by simp [h1, h2]), (by repeat' (first | (with_reducible exact Below.refl _ _) | (with_reducible assumption) | (with_reducible refine below_drewN ?_ _) | (with_reducible refine Below.drew ?_) | (with_reducible refine Below.alloc ?_ ?_ _) | (with_reducible refine Below.setCell ?_ ?_ _) | go_size))⟩
  · go_enter Tryd.func7, Tryd.ntmps7
    go_wp2
    go_ret
    exact ⟨ret_b (by simp [h1]), (by repeat' (first | (with_reducible exact Below.refl _ _) | (with_reducible assumption) | (with_reducible refine below_drewN ?_ _) | (with_reducible refine Below.drew ?_) | (with_reducible refine Below.alloc ?_ ?_ _) | (with_reducible refine Below.setCell ?_ ?_ _) | go_size))⟩
end Go.Proofs.YthgjknmfghjioaaDoor
