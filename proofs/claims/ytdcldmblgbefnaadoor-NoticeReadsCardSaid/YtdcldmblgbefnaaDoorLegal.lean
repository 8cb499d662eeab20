/- The walks of fsm.sent, fsm.Legal and of the document's Legal. Conditions: the table's cells (FsmTab). -/
import Derived.Test.YtdcldmblgbefnaaDoorProg
import Derived.WalkKit
import Derived.WalkSpells
import Derived.WalkLawsBesides
import Derived.Outline
import Derived.Deep.QuietTactic
import Derived.BigQuiet
import Derived.Handy
import Derived.Lib.Hide
import Derived.Test.YtdcldmblgbefnaaDoorInts
import Derived.Test.YtdcldmblgbefnaaDoorFsmLawB
namespace Go.Proofs.YtdcldmblgbefnaaDoor
open Go.RowKit
/-- What deeds send. -/
def sentB (x y z : Bool) : List Int := (if x then [1] else []) ++ ((if y then [4] else []) ++ (if z then [3] else []))
def sentT (x y z : Bool) (j : Nat) : List Int := if j = 0 then [] else if j = 1 then (if x then [1] else []) else if j = 2 then (if x then [1] else []) ++ (if y then [4] else []) else sentB x y z
theorem sent_0 (W : World) : (Instr.index 123 (.agg #[.int .i64 4, .int .i64 1, .int .i64 8, .int .i64 4, .int .i64 16, .int .i64 3]) (.int .i64 0)).run Tryd.prog W = .ok (.agg #[.int .i64 4, .int .i64 1]) W := by kernel_rfl
theorem sent_1 (W : World) : (Instr.index 123 (.agg #[.int .i64 4, .int .i64 1, .int .i64 8, .int .i64 4, .int .i64 16, .int .i64 3]) (.int .i64 1)).run Tryd.prog W = .ok (.agg #[.int .i64 8, .int .i64 4]) W := by kernel_rfl
theorem sent_2 (W : World) : (Instr.index 123 (.agg #[.int .i64 4, .int .i64 1, .int .i64 8, .int .i64 4, .int .i64 16, .int .i64 3]) (.int .i64 2)).run Tryd.prog W = .ok (.agg #[.int .i64 16, .int .i64 3]) W := by kernel_rfl
set_option maxHeartbeats 1000000 in
set_option maxRecDepth 100000 in
theorem fsmSent (D : Int) (x y z : Bool) (hx : (bits .and .i64 D 4 != 0) = x) (hy : (bits .and .i64 D 8 != 0) = y) (hz : (bits .and .i64 D 16 != 0) = z) (w : World) :
    Calls Tryd.prog 90 #[.int .i64 D] w fun en w' => ∃ A n c, en = .returned (.slice A n c) ∧ OI w' w.heap.size A n c (sentB x y z) ∧ Below w.heap.size w w' := by
  have i0 := sent_0
  have i1 := sent_1
  have i2 := sent_2
  go_enter Tryd.func90, Tryd.ntmps90
  go_wp2_with fail
  go_loopw [3, 10] (fun o i wr => ∃ (j : Nat) (A1 : Option Addr) (n1 c1 : Nat), j ≤ 3 ∧ i = .int .i64 j ∧ o = .slice A1 n1 c1 ∧ OI wr w.heap.size A1 n1 c1 (sentT x y z j) ∧ Below w.heap.size w wr) (fun _ i _ => 3 - (intOf i).toNat)
  case atStart => exact ⟨0, none, 0, 0, by omega, rfl, rfl, OI.nil_, Below.refl _ _⟩
  case round =>
    obtain ⟨j, A1, n1, c1, hj, rfl, rfl, o1, b1⟩ := hrel
    rcases j with _ | _ | _ | _ | j
    · have o1 : OI wr w.heap.size A1 n1 c1 [] := o1
      cases x
      · go_wp2_with fail
        go_roundw
        case rel => exact ⟨1, A1, n1, c1, by omega, rfl, rfl, by simpa [sentT, sentB] using o1.alloc _, b1.alloc b1.size _⟩
        case measure => simp [intOf]
      · go_wp2_with (at_builtin; refine wpl_appI rfl (.tmp 18) (.tmp 21) rfl w.heap.size A1 n1 c1 [] (by rfl) ((o1.alloc _).alloc _) (wr.heap.size + 1 + 1) (some ⟨wr.heap.size + 1, 0, none⟩) 1 1 [1] (by rfl) (Reads.oneI' _ _ _ (by simp)) (by simp) (by have := b1.size; simp; omega) ?_; intro A2 n2 c2 w2 o2 b2)
        go_wp2_with fail
        go_roundw
        case rel => exact ⟨1, A2, n2, c2, by omega, rfl, rfl, by simpa [sentT, sentB] using o2, ((b1.alloc b1.size _).alloc (by have := b1.size; simp; omega) _).trans b2⟩
        case measure => simp [intOf]
    · have o1 : OI wr w.heap.size A1 n1 c1 (if x then [1] else []) := o1
      cases y
      · go_wp2_with fail
        go_roundw
        case rel => exact ⟨2, A1, n1, c1, by omega, rfl, rfl, by simpa [sentT, sentB] using o1.alloc _, b1.alloc b1.size _⟩
        case measure => simp [intOf]
      · go_wp2_with (at_builtin; refine wpl_appI rfl (.tmp 18) (.tmp 21) rfl w.heap.size A1 n1 c1 (if x then [1] else []) (by rfl) ((o1.alloc _).alloc _) (wr.heap.size + 1 + 1) (some ⟨wr.heap.size + 1, 0, none⟩) 1 1 [4] (by rfl) (Reads.oneI' _ _ _ (by simp)) (by cases x <;> simp) (by have := b1.size; simp; omega) ?_; intro A2 n2 c2 w2 o2 b2)
        go_wp2_with fail
        go_roundw
        case rel => exact ⟨2, A2, n2, c2, by omega, rfl, rfl, by simpa [sentT, sentB] using o2, ((b1.alloc b1.size _).alloc (by have := b1.size; simp; omega) _).trans b2⟩
        case measure => simp [intOf]
    · have o1 : OI wr w.heap.size A1 n1 c1 ((if x then [1] else []) ++ (if y then [4] else [])) := o1
      cases z
      · go_wp2_with fail
        go_roundw
        case rel => exact ⟨3, A1, n1, c1, by omega, rfl, rfl, by simpa [sentT, sentB] using o1.alloc _, b1.alloc b1.size _⟩
        case measure => simp [intOf]
      · go_wp2_with (at_builtin; refine wpl_appI rfl (.tmp 18) (.tmp 21) rfl w.heap.size A1 n1 c1 ((if x then [1] else []) ++ (if y then [4] else [])) (by rfl) ((o1.alloc _).alloc _) (wr.heap.size + 1 + 1) (some ⟨wr.heap.size + 1, 0, none⟩) 1 1 [3] (by rfl) (Reads.oneI' _ _ _ (by simp)) (by cases x <;> cases y <;> simp) (by have := b1.size; simp; omega) ?_; intro A2 n2 c2 w2 o2 b2)
        go_wp2_with fail
        go_roundw
        case rel => exact ⟨3, A2, n2, c2, by omega, rfl, rfl, by simpa [sentT, sentB] using o2, ((b1.alloc b1.size _).alloc (by have := b1.size; simp; omega) _).trans b2⟩
        case measure => simp [intOf]
    · go_wp2_with fail
      go_ret
      exact ⟨A1, n1, c1, rfl, o1, b1⟩
    · omega
end Go.Proofs.YtdcldmblgbefnaaDoor
