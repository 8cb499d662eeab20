/- Walks of layer 7 (frame): a stream that is not there; a stream's fault. No conditions but sizes. -/
import Derived.Test.YtdcldmblgbefnaaDoorProg
import Derived.WalkKit
import Derived.WalkSpells
import Derived.WalkLawsBesides
import Derived.Outline
import Derived.Deep.QuietTactic
import Derived.BigQuiet
import Derived.Handy
import Derived.Lib.Hide
import Derived.Deep.RegionHeld3
import Derived.Test.YtdcldmblgbefnaaDoorStream
namespace Go.Proofs.YtdcldmblgbefnaaDoor
open Go.RowKit
theorem ptr_nil (W : World) : (binOp .eql 81 (.pointer none) (.pointer none)).run Tryd.prog W = .ok (.bool true) W := by kernel_rfl
set_option maxHeartbeats 1000000 in
set_option maxRecDepth 100000 in
theorem noneFeed (A : Option Addr) (n c : Nat) (w : World) : Calls Tryd.prog 77 #[.pointer none, .slice A n c] w fun en w' => en = .returned (.tuple #[]) ∧ w = w' := by
  have e := ptr_nil
  go_enter Tryd.func77, Tryd.ntmps77
  go_wp2_with fail
  go_returns
  exact ⟨rfl, rfl⟩
set_option maxHeartbeats 1000000 in
set_option maxRecDepth 100000 in
theorem noneNext (w : World) : Calls Tryd.prog 78 #[.pointer none] w fun en w' => en = .returned (.tuple #[.int .i64 0, .slice none 0 0, .bool false]) ∧ w = w' := by
  have e := ptr_nil
  go_enter Tryd.func78, Tryd.ntmps78
  go_wp2_with fail
  go_returns
  exact ⟨rfl, rfl⟩
set_option maxHeartbeats 1000000 in
set_option maxRecDepth 100000 in
theorem noneLeft (w : World) : Calls Tryd.prog 81 #[.pointer none] w fun en w' => en = .returned (.int .i64 0) ∧ w = w' := by
  have e := ptr_nil
  go_enter Tryd.func81, Tryd.ntmps81
  go_wp2_with fail
  go_returns
  exact ⟨rfl, rfl⟩
set_option maxHeartbeats 1000000 in
set_option maxRecDepth 100000 in
theorem noneFault (w : World) : Calls Tryd.prog 80 #[.pointer none] w fun en w' => en = .returned (.agg #[.int .i64 0, .int .i64 0, .slice none 0 0]) ∧ Below w.heap.size w w' := by
  have e := ptr_nil
  go_enter Tryd.func80, Tryd.ntmps80
  go_wp2_with fail
  go_returns
  exact ⟨by simp, (by repeat' (first | (with_reducible exact Below.refl _ _) | (with_reducible assumption) | (with_reducible refine below_drewN ?_ _) | (with_reducible refine Below.drew ?_) | (with_reducible refine Below.alloc ?_ ?_ _) | (with_reducible refine Below.setCell ?_ ?_ _) | go_size))⟩
theorem k3s {w W : World} {b : Nat} {i j k : Nat} {x y z : Value} (hb : b < w.heap.size) (h0 : w.cell? ⟨b, i, none⟩ = some x) (h1 : w.cell? ⟨b, j, none⟩ = some y) (h2 : w.cell? ⟨b, k, none⟩ = some z) (h : Below w.heap.size w W) :
    Below w.heap.size w W ∧ W.cell? ⟨b, i, none⟩ = some x ∧ W.cell? ⟨b, j, none⟩ = some y ∧ W.cell? ⟨b, k, none⟩ = some z :=
  ⟨h, (h.cell hb).trans h0, (h.cell hb).trans h1, (h.cell hb).trans h2⟩
set_option maxHeartbeats 1000000 in
set_option maxRecDepth 100000 in
theorem streamFault (g : Nat) (l : List UInt8) (C S : Int) (D : List UInt8) (w : World) (own : Option Nat) (h : SMX w g l C S D own) (hD : D.length ≤ 100000) :
    Calls Tryd.prog 80 #[.pointer (some ⟨g, 0, none⟩)] w fun en w' => ∃ A n c, en = .returned (.agg #[.int .i64 C, .int .i64 S, .slice A n c]) ∧ BS w' w'.heap.size A n D ∧ Below w.heap.size w w' := by
  obtain ⟨A1, n1, c1, A2, n2, c2, hB, hnc, h1, h2, _⟩ := h
  have hg := hB.lt
  have e1 : w.cell? ⟨g, 1, none⟩ = some (.int .i64 C) := hB.cell 1
  have e2 : w.cell? ⟨g, 2, none⟩ = some (.int .i64 S) := hB.cell 2
  have e3 : w.cell? ⟨g, 3, none⟩ = some (.slice A2 n2 c2) := hB.cell 3
  have b0 := ((Below.refl w.heap.size w).alloc (Nat.le_refl _) (.cells #[.int .i64 0, .int .i64 0, .slice none 0 0] 29)).drew
  have hR := (Blk.new w 29 #[.int .i64 0, .int .i64 0, .slice none 0 0]).drew
  have hL := Lib.hid hD
  go_enter Tryd.func80, Tryd.ntmps80
  go_wp2_with fail
  go_region_held3 (fun w' => Below w.heap.size w w' ∧ w'.cell? ⟨g, 1, none⟩ = some (.int .i64 C) ∧ w'.cell? ⟨g, 2, none⟩ = some (.int .i64 S) ∧ w'.cell? ⟨g, 3, none⟩ = some (.slice A2 n2 c2))
    ((refine k3s hg e1 e2 e3 ?_; first | exact b0 | exact b05 | exact ((b05.setCell (Nat.le_refl _) _).setCell (Nat.le_refl _) _).setCell (Nat.le_refl _) _))
    ((refine step_app rfl (.const (.slice none 0 0)) (.tmp 20) _ (by rfl) 5 Tryd.underlying27 u8info (w.heap.size + 1) none 0 0 [] (by rfl) OB.nil_ w.heap.size A2 n2 c2 D (by rfl) (h2.below b0) (by rw [List.length_nil, Nat.zero_add]; exact Nat.le_trans hL.out (by omega)) (by simp) ?_; intro A5 n5 c5 w5 o5 b5 g5; rw [List.nil_append] at o5; have b05 := b0.trans (b5.mono (Nat.le_succ _)); have hR5 := hR.below b5 (Nat.lt_succ_self _); have m0 := hR5.cell 0; have m1 := hR5.cell 1; have m2 := hR5.cell 2; have f0 := hR5.frozen 0; have f1 := hR5.frozen 1; have f2 := hR5.frozen 2))
  all_goals
    go_wp2_with fail
    have hB5 := ((hR5.set_ 0 (.int .i64 C)).set_ 1 (.int .i64 S)).set_ 2 (.slice A5 n5 c5)
    have hgf := only_setCell (only_setCell (only_setCell (World.grownBy.refl w5 (some w.heap.size)) (p := ⟨w.heap.size, 0, none⟩) (.inl rfl) (.int .i64 C)) (p := ⟨w.heap.size, 1, none⟩) (.inl rfl) (.int .i64 S)) (p := ⟨w.heap.size, 2, none⟩) (.inl rfl) (.slice A5 n5 c5)
    refine bodyPost_ret (results_cell_row rfl _ _ w.heap.size 29 #[.int .i64 C, .int .i64 S, .slice A5 n5 c5] (0, 0) _ rfl (show Blk _ _ _ _ by simpa using hB5) Tryd.underlying29 rfl flt_info) rfl ?_
    exact ⟨A5, n5, c5, rfl, o5.bs.grownAt hgf (o5.bs.apart hR5 flt_no'), ((b05.setCell (Nat.le_refl _) _).setCell (Nat.le_refl _) _).setCell (Nat.le_refl _) _⟩
end Go.Proofs.YtdcldmblgbefnaaDoor
