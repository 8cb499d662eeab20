/- Walks of layers 20 and 23: whether there is such a time, Set, a new session. No conditions. -/
import Derived.Test.YthgjknmfghjioaaDoorProg
import Derived.WalkKit
import Derived.WalkSpells
import Derived.WalkLawsBesides
import Derived.Outline
import Derived.Deep.QuietTactic
import Derived.BigQuiet
import Derived.Handy
import Derived.Lib.Hide
import Derived.Test.YthgjknmfghjioaaDoorSesA
import Derived.Test.YthgjknmfghjioaaDoorDeep
import Derived.Deep.DeepCutAuto
import Derived.Deep.CutBlock
namespace Go.Proofs.YthgjknmfghjioaaDoor
open Go.RowKit
set_option linter.unusedSimpArgs false
set_option linter.unusedVariables false
theorem clockIs (a b c : Value) (j : Nat) (hj : j < 3) (w : World) :
    Calls Tryd.prog 48 #[.agg #[a, b, c], .int .i64 (j : Int)] w fun en w' => en = .returned (.bool true) ∧ Below w.heap.size w w' := by
  have h0 : (0 : Int) ≤ (j : Int) := by omega
  have h3 : (j : Int) < 3 := by omega
  have t0 : decide ((0 : Int) ≤ (j : Int)) = true := decide_eq_true h0
  have t3 : decide ((j : Int) < 3) = true := decide_eq_true h3
  go_enter Tryd.func48, Tryd.ntmps48
  go_wp2_with fail
  go_ret
  exact ⟨rfl, (by repeat' (first | (with_reducible exact Below.refl _ _) | (with_reducible assumption) | (with_reducible refine below_drewN ?_ _) | (with_reducible refine Below.drew ?_) | (with_reducible refine Below.alloc ?_ ?_ _) | (with_reducible refine Below.setCell ?_ ?_ _) | go_size))⟩
theorem clk_info : (Tryd.prog.info? 58).map (·.size) = some 3 := by kernel_rfl
theorem clk_ret {fn : Func} {p : Tmp} (h : fn.results = #[.cell p 58]) (tmps : Array Value) (w : World) (g : Nat) (a b c : Value)
    (hp : tmps.getD p undef = .pointer (some ⟨g, 0, none⟩)) (hB : Blk w g 58 #[a, b, c]) :
    (results fn tmps).run Tryd.prog w = .ok (.agg #[a, b, c]) w :=
  results_cell_row h tmps w g 58 #[a, b, c] (0, 0) _ hp hB Tryd.underlying58 rfl clk_info
theorem clockSet0 (a b c n : Int) (w : World) :
    Calls Tryd.prog 36 #[.agg #[.int .i64 a, .int .i64 b, .int .i64 c], .int .i64 0, .int .i64 n] w fun en w' => en = .returned (.agg (#[.int .i64 a, .int .i64 b, .int .i64 c].set! 0 (.int .i64 (pos n)))) ∧ Below w.heap.size w w' := by
  obtain ⟨W, hW, hX, hR, b0⟩ := boxes2 w #[.int .i64 a, .int .i64 b, .int .i64 c] #[.int .i64 0, .int .i64 0, .int .i64 0] 58 58
  have HW := Lib.hid hW
  clear hW
  have hXl := hX.lt
  have hRl := hR.lt
  go_enter Tryd.func36, Tryd.ntmps36
  go_upto_region 1 with fail
  rw [HW.out]
  have c_hX0 := hX.cell 0
  have c_hX1 := hX.cell 1
  have c_hX2 := hX.cell 2
  go_wp2_with fail
  refine (clockIs (.int .i64 a) (.int .i64 b) (.int .i64 c) 0 (by omega) _).mono ?_
  rintro _ w1 ⟨rfl, b1⟩
  clear c_hX0 c_hX1 c_hX2
  have b01 := btr b0 b1 b0.size
  have hX_1 := hX.below b1 hX.lt
  have hR_1 := hR.below b1 hR.lt
  have c_hX0 := hX_1.cell 0
  have c_hX1 := hX_1.cell 1
  have c_hX2 := hX_1.cell 2
  by_cases h1 : n < 0
  · have t1 : decide (n < 0) = true := decide_eq_true h1
    have HN := Lib.hid (show pos n = 0 from if_pos h1)
    clear c_hX0 c_hX1 c_hX2
    have c_hX0 := hX_1.cell 0
    have f_hX0 := hX_1.frozen 0
    go_upto_region 3 with fail
    obtain ⟨w2, hw2⟩ : ∃ Wz_, w1.setCell ⟨w.heap.size, 0, none⟩ (.int .i64 0)= Wz_ := ⟨_, rfl⟩
    have hX_2 := hX_1.set_ 0 (.int .i64 0)
    simp only [List.setIfInBounds_toArray, List.set_cons_succ, List.set_cons_zero] at hX_2
    have hR_2 := hR_1.far (p := ⟨w.heap.size, 0, none⟩) (by show _ ≠ w.heap.size; omega) (.int .i64 0)
    have b02 := b01.setCell (p := ⟨w.heap.size, 0, none⟩) (by show _ ≤ w.heap.size; omega) (.int .i64 0)
    have z_2 : w1.heap.size ≤ w2.heap.size := by rw [← hw2]; simp [World.setCell]
    rw [hw2] at hX_2 hR_2 b02
    rw [hw2]
    clear hw2
    clear c_hX0 f_hX0
    clear hX_1
    clear hR_1
    have c_hX0 := hX_2.cell 0
    have f_hX0 := hX_2.frozen 0
    clear c_hX0 f_hX0
    have c_hX0 := hX_2.cell 0
    have c_hX1 := hX_2.cell 1
    have c_hX2 := hX_2.cell 2
    have c_hR0 := hR_2.cell 0
    have f_hR0 := hR_2.frozen 0
    have c_hR1 := hR_2.cell 1
    have f_hR1 := hR_2.frozen 1
    have c_hR2 := hR_2.cell 2
    have f_hR2 := hR_2.frozen 2
    go_wp2_with fail
    obtain ⟨w3a, hw3a⟩ : ∃ Wz_, w2.setCell ⟨(w.heap.size + 1), 0, none⟩ (.int .i64 0)= Wz_ := ⟨_, rfl⟩
    have hX_3a := hX_2.far (p := ⟨(w.heap.size + 1), 0, none⟩) (by show _ ≠ (w.heap.size + 1); omega) (.int .i64 0)
    have hR_3a := hR_2.set_ 0 (.int .i64 0)
    simp only [List.setIfInBounds_toArray, List.set_cons_succ, List.set_cons_zero] at hR_3a
    have b03a := b02.setCell (p := ⟨(w.heap.size + 1), 0, none⟩) (by show _ ≤ (w.heap.size + 1); omega) (.int .i64 0)
    have z_3a : w2.heap.size ≤ w3a.heap.size := by rw [← hw3a]; simp [World.setCell]
    rw [hw3a] at hX_3a hR_3a b03a
    rw [hw3a]
    clear hw3a
    clear c_hX0 c_hX1 c_hX2 c_hR0 f_hR0 c_hR1 f_hR1 c_hR2 f_hR2
    clear hX_2
    clear hR_2
    have c_hX0 := hX_3a.cell 0
    have c_hX1 := hX_3a.cell 1
    have c_hX2 := hX_3a.cell 2
    have c_hR0 := hR_3a.cell 0
    have f_hR0 := hR_3a.frozen 0
    have c_hR1 := hR_3a.cell 1
    have f_hR1 := hR_3a.frozen 1
    have c_hR2 := hR_3a.cell 2
    have f_hR2 := hR_3a.frozen 2
    obtain ⟨w3b, hw3b⟩ : ∃ Wz_, w3a.setCell ⟨(w.heap.size + 1), 1, none⟩ (.int .i64 b)= Wz_ := ⟨_, rfl⟩
    have hX_3b := hX_3a.far (p := ⟨(w.heap.size + 1), 1, none⟩) (by show _ ≠ (w.heap.size + 1); omega) (.int .i64 b)
    have hR_3b := hR_3a.set_ 1 (.int .i64 b)
    simp only [List.setIfInBounds_toArray, List.set_cons_succ, List.set_cons_zero] at hR_3b
    have b03b := b03a.setCell (p := ⟨(w.heap.size + 1), 1, none⟩) (by show _ ≤ (w.heap.size + 1); omega) (.int .i64 b)
    have z_3b : w3a.heap.size ≤ w3b.heap.size := by rw [← hw3b]; simp [World.setCell]
    rw [hw3b] at hX_3b hR_3b b03b
    rw [hw3b]
    clear hw3b
    clear c_hX0 c_hX1 c_hX2 c_hR0 f_hR0 c_hR1 f_hR1 c_hR2 f_hR2
    clear hX_3a
    clear hR_3a
    have c_hX0 := hX_3b.cell 0
    have c_hX1 := hX_3b.cell 1
    have c_hX2 := hX_3b.cell 2
    have c_hR0 := hR_3b.cell 0
    have f_hR0 := hR_3b.frozen 0
    have c_hR1 := hR_3b.cell 1
    have f_hR1 := hR_3b.frozen 1
    have c_hR2 := hR_3b.cell 2
    have f_hR2 := hR_3b.frozen 2
    obtain ⟨w3c, hw3c⟩ : ∃ Wz_, w3b.setCell ⟨(w.heap.size + 1), 2, none⟩ (.int .i64 c)= Wz_ := ⟨_, rfl⟩
    have hX_3c := hX_3b.far (p := ⟨(w.heap.size + 1), 2, none⟩) (by show _ ≠ (w.heap.size + 1); omega) (.int .i64 c)
    have hR_3c := hR_3b.set_ 2 (.int .i64 c)
    simp only [List.setIfInBounds_toArray, List.set_cons_succ, List.set_cons_zero] at hR_3c
    have b03c := b03b.setCell (p := ⟨(w.heap.size + 1), 2, none⟩) (by show _ ≤ (w.heap.size + 1); omega) (.int .i64 c)
    have z_3c : w3b.heap.size ≤ w3c.heap.size := by rw [← hw3c]; simp [World.setCell]
    rw [hw3c] at hX_3c hR_3c b03c
    rw [hw3c]
    clear hw3c
    clear c_hX0 c_hX1 c_hX2 c_hR0 f_hR0 c_hR1 f_hR1 c_hR2 f_hR2
    clear hX_3b
    clear hR_3b
    have c_hX0 := hX_3c.cell 0
    have c_hX1 := hX_3c.cell 1
    have c_hX2 := hX_3c.cell 2
    have c_hR0 := hR_3c.cell 0
    have f_hR0 := hR_3c.frozen 0
    have c_hR1 := hR_3c.cell 1
    have f_hR1 := hR_3c.frozen 1
    have c_hR2 := hR_3c.cell 2
    have f_hR2 := hR_3c.frozen 2
    refine bodyPost_ret (clk_ret rfl _ _ (w.heap.size + 1) _ _ _ rfl hR_3c) rfl ?_
    exact ⟨by rw [HN.out]; rfl, b03c⟩
  · have t1 : decide (n < 0) = false := decide_eq_false h1
    have HN := Lib.hid (show pos n = n from if_neg h1)
    clear c_hX0 c_hX1 c_hX2
    have c_hX0 := hX_1.cell 0
    have f_hX0 := hX_1.frozen 0
    go_upto_region 3 with fail
    obtain ⟨w2, hw2⟩ : ∃ Wz_, w1.setCell ⟨w.heap.size, 0, none⟩ (.int .i64 n)= Wz_ := ⟨_, rfl⟩
    have hX_2 := hX_1.set_ 0 (.int .i64 n)
    simp only [List.setIfInBounds_toArray, List.set_cons_succ, List.set_cons_zero] at hX_2
    have hR_2 := hR_1.far (p := ⟨w.heap.size, 0, none⟩) (by show _ ≠ w.heap.size; omega) (.int .i64 n)
    have b02 := b01.setCell (p := ⟨w.heap.size, 0, none⟩) (by show _ ≤ w.heap.size; omega) (.int .i64 n)
    have z_2 : w1.heap.size ≤ w2.heap.size := by rw [← hw2]; simp [World.setCell]
    rw [hw2] at hX_2 hR_2 b02
    rw [hw2]
    clear hw2
    clear c_hX0 f_hX0
    clear hX_1
    clear hR_1
    have c_hX0 := hX_2.cell 0
    have f_hX0 := hX_2.frozen 0
    clear c_hX0 f_hX0
    have c_hX0 := hX_2.cell 0
    have c_hX1 := hX_2.cell 1
    have c_hX2 := hX_2.cell 2
    have c_hR0 := hR_2.cell 0
    have f_hR0 := hR_2.frozen 0
    have c_hR1 := hR_2.cell 1
    have f_hR1 := hR_2.frozen 1
    have c_hR2 := hR_2.cell 2
    have f_hR2 := hR_2.frozen 2
    go_wp2_with fail
    obtain ⟨w3a, hw3a⟩ : ∃ Wz_, w2.setCell ⟨(w.heap.size + 1), 0, none⟩ (.int .i64 n)= Wz_ := ⟨_, rfl⟩
    have hX_3a := hX_2.far (p := ⟨(w.heap.size + 1), 0, none⟩) (by show _ ≠ (w.heap.size + 1); omega) (.int .i64 n)
    have hR_3a := hR_2.set_ 0 (.int .i64 n)
    simp only [List.setIfInBounds_toArray, List.set_cons_succ, List.set_cons_zero] at hR_3a
    have b03a := b02.setCell (p := ⟨(w.heap.size + 1), 0, none⟩) (by show _ ≤ (w.heap.size + 1); omega) (.int .i64 n)
    have z_3a : w2.heap.size ≤ w3a.heap.size := by rw [← hw3a]; simp [World.setCell]
    rw [hw3a] at hX_3a hR_3a b03a
    rw [hw3a]
    clear hw3a
    clear c_hX0 c_hX1 c_hX2 c_hR0 f_hR0 c_hR1 f_hR1 c_hR2 f_hR2
    clear hX_2
    clear hR_2
    have c_hX0 := hX_3a.cell 0
    have c_hX1 := hX_3a.cell 1
    have c_hX2 := hX_3a.cell 2
    have c_hR0 := hR_3a.cell 0
    have f_hR0 := hR_3a.frozen 0
    have c_hR1 := hR_3a.cell 1
    have f_hR1 := hR_3a.frozen 1
    have c_hR2 := hR_3a.cell 2
    have f_hR2 := hR_3a.frozen 2
    obtain ⟨w3b, hw3b⟩ : ∃ Wz_, w3a.setCell ⟨(w.heap.size + 1), 1, none⟩ (.int .i64 b)= Wz_ := ⟨_, rfl⟩
    have hX_3b := hX_3a.far (p := ⟨(w.heap.size + 1), 1, none⟩) (by show _ ≠ (w.heap.size + 1); omega) (.int .i64 b)
    have hR_3b := hR_3a.set_ 1 (.int .i64 b)
    simp only [List.setIfInBounds_toArray, List.set_cons_succ, List.set_cons_zero] at hR_3b
    have b03b := b03a.setCell (p := ⟨(w.heap.size + 1), 1, none⟩) (by show _ ≤ (w.heap.size + 1); omega) (.int .i64 b)
    have z_3b : w3a.heap.size ≤ w3b.heap.size := by rw [← hw3b]; simp [World.setCell]
    rw [hw3b] at hX_3b hR_3b b03b
    rw [hw3b]
    clear hw3b
    clear c_hX0 c_hX1 c_hX2 c_hR0 f_hR0 c_hR1 f_hR1 c_hR2 f_hR2
    clear hX_3a
    clear hR_3a
    have c_hX0 := hX_3b.cell 0
    have c_hX1 := hX_3b.cell 1
    have c_hX2 := hX_3b.cell 2
    have c_hR0 := hR_3b.cell 0
    have f_hR0 := hR_3b.frozen 0
    have c_hR1 := hR_3b.cell 1
    have f_hR1 := hR_3b.frozen 1
    have c_hR2 := hR_3b.cell 2
    have f_hR2 := hR_3b.frozen 2
    obtain ⟨w3c, hw3c⟩ : ∃ Wz_, w3b.setCell ⟨(w.heap.size + 1), 2, none⟩ (.int .i64 c)= Wz_ := ⟨_, rfl⟩
    have hX_3c := hX_3b.far (p := ⟨(w.heap.size + 1), 2, none⟩) (by show _ ≠ (w.heap.size + 1); omega) (.int .i64 c)
    have hR_3c := hR_3b.set_ 2 (.int .i64 c)
    simp only [List.setIfInBounds_toArray, List.set_cons_succ, List.set_cons_zero] at hR_3c
    have b03c := b03b.setCell (p := ⟨(w.heap.size + 1), 2, none⟩) (by show _ ≤ (w.heap.size + 1); omega) (.int .i64 c)
    have z_3c : w3b.heap.size ≤ w3c.heap.size := by rw [← hw3c]; simp [World.setCell]
    rw [hw3c] at hX_3c hR_3c b03c
    rw [hw3c]
    clear hw3c
    clear c_hX0 c_hX1 c_hX2 c_hR0 f_hR0 c_hR1 f_hR1 c_hR2 f_hR2
    clear hX_3b
    clear hR_3b
    have c_hX0 := hX_3c.cell 0
    have c_hX1 := hX_3c.cell 1
    have c_hX2 := hX_3c.cell 2
    have c_hR0 := hR_3c.cell 0
    have f_hR0 := hR_3c.frozen 0
    have c_hR1 := hR_3c.cell 1
    have f_hR1 := hR_3c.frozen 1
    have c_hR2 := hR_3c.cell 2
    have f_hR2 := hR_3c.frozen 2
    refine bodyPost_ret (clk_ret rfl _ _ (w.heap.size + 1) _ _ _ rfl hR_3c) rfl ?_
    exact ⟨by rw [HN.out]; rfl, b03c⟩
theorem clockSet1 (a b c n : Int) (w : World) :
    Calls Tryd.prog 36 #[.agg #[.int .i64 a, .int .i64 b, .int .i64 c], .int .i64 1, .int .i64 n] w fun en w' => en = .returned (.agg (#[.int .i64 a, .int .i64 b, .int .i64 c].set! 1 (.int .i64 (pos n)))) ∧ Below w.heap.size w w' := by
  obtain ⟨W, hW, hX, hR, b0⟩ := boxes2 w #[.int .i64 a, .int .i64 b, .int .i64 c] #[.int .i64 0, .int .i64 0, .int .i64 0] 58 58
  have HW := Lib.hid hW
  clear hW
  have hXl := hX.lt
  have hRl := hR.lt
  go_enter Tryd.func36, Tryd.ntmps36
  go_upto_region 1 with fail
  rw [HW.out]
  have c_hX0 := hX.cell 0
  have c_hX1 := hX.cell 1
  have c_hX2 := hX.cell 2
  go_wp2_with fail
  refine (clockIs (.int .i64 a) (.int .i64 b) (.int .i64 c) 1 (by omega) _).mono ?_
  rintro _ w1 ⟨rfl, b1⟩
  clear c_hX0 c_hX1 c_hX2
  have b01 := btr b0 b1 b0.size
  have hX_1 := hX.below b1 hX.lt
  have hR_1 := hR.below b1 hR.lt
  have c_hX0 := hX_1.cell 0
  have c_hX1 := hX_1.cell 1
  have c_hX2 := hX_1.cell 2
  by_cases h1 : n < 0
  · have t1 : decide (n < 0) = true := decide_eq_true h1
    have HN := Lib.hid (show pos n = 0 from if_pos h1)
    clear c_hX0 c_hX1 c_hX2
    have c_hX1 := hX_1.cell 1
    have f_hX1 := hX_1.frozen 1
    go_upto_region 3 with fail
    obtain ⟨w2, hw2⟩ : ∃ Wz_, w1.setCell ⟨w.heap.size, 1, none⟩ (.int .i64 0)= Wz_ := ⟨_, rfl⟩
    have hX_2 := hX_1.set_ 1 (.int .i64 0)
    simp only [List.setIfInBounds_toArray, List.set_cons_succ, List.set_cons_zero] at hX_2
    have hR_2 := hR_1.far (p := ⟨w.heap.size, 1, none⟩) (by show _ ≠ w.heap.size; omega) (.int .i64 0)
    have b02 := b01.setCell (p := ⟨w.heap.size, 1, none⟩) (by show _ ≤ w.heap.size; omega) (.int .i64 0)
    have z_2 : w1.heap.size ≤ w2.heap.size := by rw [← hw2]; simp [World.setCell]
    rw [hw2] at hX_2 hR_2 b02
    rw [hw2]
    clear hw2
    clear c_hX1 f_hX1
    clear hX_1
    clear hR_1
    have c_hX1 := hX_2.cell 1
    have f_hX1 := hX_2.frozen 1
    clear c_hX1 f_hX1
    have c_hX0 := hX_2.cell 0
    have c_hX1 := hX_2.cell 1
    have c_hX2 := hX_2.cell 2
    have c_hR0 := hR_2.cell 0
    have f_hR0 := hR_2.frozen 0
    have c_hR1 := hR_2.cell 1
    have f_hR1 := hR_2.frozen 1
    have c_hR2 := hR_2.cell 2
    have f_hR2 := hR_2.frozen 2
    go_wp2_with fail
    obtain ⟨w3a, hw3a⟩ : ∃ Wz_, w2.setCell ⟨(w.heap.size + 1), 0, none⟩ (.int .i64 a)= Wz_ := ⟨_, rfl⟩
    have hX_3a := hX_2.far (p := ⟨(w.heap.size + 1), 0, none⟩) (by show _ ≠ (w.heap.size + 1); omega) (.int .i64 a)
    have hR_3a := hR_2.set_ 0 (.int .i64 a)
    simp only [List.setIfInBounds_toArray, List.set_cons_succ, List.set_cons_zero] at hR_3a
    have b03a := b02.setCell (p := ⟨(w.heap.size + 1), 0, none⟩) (by show _ ≤ (w.heap.size + 1); omega) (.int .i64 a)
    have z_3a : w2.heap.size ≤ w3a.heap.size := by rw [← hw3a]; simp [World.setCell]
    rw [hw3a] at hX_3a hR_3a b03a
    rw [hw3a]
    clear hw3a
    clear c_hX0 c_hX1 c_hX2 c_hR0 f_hR0 c_hR1 f_hR1 c_hR2 f_hR2
    clear hX_2
    clear hR_2
    have c_hX0 := hX_3a.cell 0
    have c_hX1 := hX_3a.cell 1
    have c_hX2 := hX_3a.cell 2
    have c_hR0 := hR_3a.cell 0
    have f_hR0 := hR_3a.frozen 0
    have c_hR1 := hR_3a.cell 1
    have f_hR1 := hR_3a.frozen 1
    have c_hR2 := hR_3a.cell 2
    have f_hR2 := hR_3a.frozen 2
    obtain ⟨w3b, hw3b⟩ : ∃ Wz_, w3a.setCell ⟨(w.heap.size + 1), 1, none⟩ (.int .i64 0)= Wz_ := ⟨_, rfl⟩
    have hX_3b := hX_3a.far (p := ⟨(w.heap.size + 1), 1, none⟩) (by show _ ≠ (w.heap.size + 1); omega) (.int .i64 0)
    have hR_3b := hR_3a.set_ 1 (.int .i64 0)
    simp only [List.setIfInBounds_toArray, List.set_cons_succ, List.set_cons_zero] at hR_3b
    have b03b := b03a.setCell (p := ⟨(w.heap.size + 1), 1, none⟩) (by show _ ≤ (w.heap.size + 1); omega) (.int .i64 0)
    have z_3b : w3a.heap.size ≤ w3b.heap.size := by rw [← hw3b]; simp [World.setCell]
    rw [hw3b] at hX_3b hR_3b b03b
    rw [hw3b]
    clear hw3b
    clear c_hX0 c_hX1 c_hX2 c_hR0 f_hR0 c_hR1 f_hR1 c_hR2 f_hR2
    clear hX_3a
    clear hR_3a
    have c_hX0 := hX_3b.cell 0
    have c_hX1 := hX_3b.cell 1
    have c_hX2 := hX_3b.cell 2
    have c_hR0 := hR_3b.cell 0
    have f_hR0 := hR_3b.frozen 0
    have c_hR1 := hR_3b.cell 1
    have f_hR1 := hR_3b.frozen 1
    have c_hR2 := hR_3b.cell 2
    have f_hR2 := hR_3b.frozen 2
    obtain ⟨w3c, hw3c⟩ : ∃ Wz_, w3b.setCell ⟨(w.heap.size + 1), 2, none⟩ (.int .i64 c)= Wz_ := ⟨_, rfl⟩
    have hX_3c := hX_3b.far (p := ⟨(w.heap.size + 1), 2, none⟩) (by show _ ≠ (w.heap.size + 1); omega) (.int .i64 c)
    have hR_3c := hR_3b.set_ 2 (.int .i64 c)
    simp only [List.setIfInBounds_toArray, List.set_cons_succ, List.set_cons_zero] at hR_3c
    have b03c := b03b.setCell (p := ⟨(w.heap.size + 1), 2, none⟩) (by show _ ≤ (w.heap.size + 1); omega) (.int .i64 c)
    have z_3c : w3b.heap.size ≤ w3c.heap.size := by rw [← hw3c]; simp [World.setCell]
    rw [hw3c] at hX_3c hR_3c b03c
    rw [hw3c]
    clear hw3c
    clear c_hX0 c_hX1 c_hX2 c_hR0 f_hR0 c_hR1 f_hR1 c_hR2 f_hR2
    clear hX_3b
    clear hR_3b
    have c_hX0 := hX_3c.cell 0
    have c_hX1 := hX_3c.cell 1
    have c_hX2 := hX_3c.cell 2
    have c_hR0 := hR_3c.cell 0
    have f_hR0 := hR_3c.frozen 0
    have c_hR1 := hR_3c.cell 1
    have f_hR1 := hR_3c.frozen 1
    have c_hR2 := hR_3c.cell 2
    have f_hR2 := hR_3c.frozen 2
    refine bodyPost_ret (clk_ret rfl _ _ (w.heap.size + 1) _ _ _ rfl hR_3c) rfl ?_
    exact ⟨by rw [HN.out]; rfl, b03c⟩
  · have t1 : decide (n < 0) = false := decide_eq_false h1
    have HN := Lib.hid (show pos n = n from if_neg h1)
    clear c_hX0 c_hX1 c_hX2
    have c_hX1 := hX_1.cell 1
    have f_hX1 := hX_1.frozen 1
    go_upto_region 3 with fail
    obtain ⟨w2, hw2⟩ : ∃ Wz_, w1.setCell ⟨w.heap.size, 1, none⟩ (.int .i64 n)= Wz_ := ⟨_, rfl⟩
    have hX_2 := hX_1.set_ 1 (.int .i64 n)
    simp only [List.setIfInBounds_toArray, List.set_cons_succ, List.set_cons_zero] at hX_2
    have hR_2 := hR_1.far (p := ⟨w.heap.size, 1, none⟩) (by show _ ≠ w.heap.size; omega) (.int .i64 n)
    have b02 := b01.setCell (p := ⟨w.heap.size, 1, none⟩) (by show _ ≤ w.heap.size; omega) (.int .i64 n)
    have z_2 : w1.heap.size ≤ w2.heap.size := by rw [← hw2]; simp [World.setCell]
    rw [hw2] at hX_2 hR_2 b02
    rw [hw2]
    clear hw2
    clear c_hX1 f_hX1
    clear hX_1
    clear hR_1
    have c_hX1 := hX_2.cell 1
    have f_hX1 := hX_2.frozen 1
    clear c_hX1 f_hX1
    have c_hX0 := hX_2.cell 0
    have c_hX1 := hX_2.cell 1
    have c_hX2 := hX_2.cell 2
    have c_hR0 := hR_2.cell 0
    have f_hR0 := hR_2.frozen 0
    have c_hR1 := hR_2.cell 1
    have f_hR1 := hR_2.frozen 1
    have c_hR2 := hR_2.cell 2
    have f_hR2 := hR_2.frozen 2
    go_wp2_with fail
    obtain ⟨w3a, hw3a⟩ : ∃ Wz_, w2.setCell ⟨(w.heap.size + 1), 0, none⟩ (.int .i64 a)= Wz_ := ⟨_, rfl⟩
    have hX_3a := hX_2.far (p := ⟨(w.heap.size + 1), 0, none⟩) (by show _ ≠ (w.heap.size + 1); omega) (.int .i64 a)
    have hR_3a := hR_2.set_ 0 (.int .i64 a)
    simp only [List.setIfInBounds_toArray, List.set_cons_succ, List.set_cons_zero] at hR_3a
    have b03a := b02.setCell (p := ⟨(w.heap.size + 1), 0, none⟩) (by show _ ≤ (w.heap.size + 1); omega) (.int .i64 a)
    have z_3a : w2.heap.size ≤ w3a.heap.size := by rw [← hw3a]; simp [World.setCell]
    rw [hw3a] at hX_3a hR_3a b03a
    rw [hw3a]
    clear hw3a
    clear c_hX0 c_hX1 c_hX2 c_hR0 f_hR0 c_hR1 f_hR1 c_hR2 f_hR2
    clear hX_2
    clear hR_2
    have c_hX0 := hX_3a.cell 0
    have c_hX1 := hX_3a.cell 1
    have c_hX2 := hX_3a.cell 2
    have c_hR0 := hR_3a.cell 0
    have f_hR0 := hR_3a.frozen 0
    have c_hR1 := hR_3a.cell 1
    have f_hR1 := hR_3a.frozen 1
    have c_hR2 := hR_3a.cell 2
    have f_hR2 := hR_3a.frozen 2
    obtain ⟨w3b, hw3b⟩ : ∃ Wz_, w3a.setCell ⟨(w.heap.size + 1), 1, none⟩ (.int .i64 n)= Wz_ := ⟨_, rfl⟩
    have hX_3b := hX_3a.far (p := ⟨(w.heap.size + 1), 1, none⟩) (by show _ ≠ (w.heap.size + 1); omega) (.int .i64 n)
    have hR_3b := hR_3a.set_ 1 (.int .i64 n)
    simp only [List.setIfInBounds_toArray, List.set_cons_succ, List.set_cons_zero] at hR_3b
    have b03b := b03a.setCell (p := ⟨(w.heap.size + 1), 1, none⟩) (by show _ ≤ (w.heap.size + 1); omega) (.int .i64 n)
    have z_3b : w3a.heap.size ≤ w3b.heap.size := by rw [← hw3b]; simp [World.setCell]
    rw [hw3b] at hX_3b hR_3b b03b
    rw [hw3b]
    clear hw3b
    clear c_hX0 c_hX1 c_hX2 c_hR0 f_hR0 c_hR1 f_hR1 c_hR2 f_hR2
    clear hX_3a
    clear hR_3a
    have c_hX0 := hX_3b.cell 0
    have c_hX1 := hX_3b.cell 1
    have c_hX2 := hX_3b.cell 2
    have c_hR0 := hR_3b.cell 0
    have f_hR0 := hR_3b.frozen 0
    have c_hR1 := hR_3b.cell 1
    have f_hR1 := hR_3b.frozen 1
    have c_hR2 := hR_3b.cell 2
    have f_hR2 := hR_3b.frozen 2
    obtain ⟨w3c, hw3c⟩ : ∃ Wz_, w3b.setCell ⟨(w.heap.size + 1), 2, none⟩ (.int .i64 c)= Wz_ := ⟨_, rfl⟩
    have hX_3c := hX_3b.far (p := ⟨(w.heap.size + 1), 2, none⟩) (by show _ ≠ (w.heap.size + 1); omega) (.int .i64 c)
    have hR_3c := hR_3b.set_ 2 (.int .i64 c)
    simp only [List.setIfInBounds_toArray, List.set_cons_succ, List.set_cons_zero] at hR_3c
    have b03c := b03b.setCell (p := ⟨(w.heap.size + 1), 2, none⟩) (by show _ ≤ (w.heap.size + 1); omega) (.int .i64 c)
    have z_3c : w3b.heap.size ≤ w3c.heap.size := by rw [← hw3c]; simp [World.setCell]
    rw [hw3c] at hX_3c hR_3c b03c
    rw [hw3c]
    clear hw3c
    clear c_hX0 c_hX1 c_hX2 c_hR0 f_hR0 c_hR1 f_hR1 c_hR2 f_hR2
    clear hX_3b
    clear hR_3b
    have c_hX0 := hX_3c.cell 0
    have c_hX1 := hX_3c.cell 1
    have c_hX2 := hX_3c.cell 2
    have c_hR0 := hR_3c.cell 0
    have f_hR0 := hR_3c.frozen 0
    have c_hR1 := hR_3c.cell 1
    have f_hR1 := hR_3c.frozen 1
    have c_hR2 := hR_3c.cell 2
    have f_hR2 := hR_3c.frozen 2
    refine bodyPost_ret (clk_ret rfl _ _ (w.heap.size + 1) _ _ _ rfl hR_3c) rfl ?_
    exact ⟨by rw [HN.out]; rfl, b03c⟩
theorem clockSet2 (a b c n : Int) (w : World) :
    Calls Tryd.prog 36 #[.agg #[.int .i64 a, .int .i64 b, .int .i64 c], .int .i64 2, .int .i64 n] w fun en w' => en = .returned (.agg (#[.int .i64 a, .int .i64 b, .int .i64 c].set! 2 (.int .i64 (pos n)))) ∧ Below w.heap.size w w' := by
  obtain ⟨W, hW, hX, hR, b0⟩ := boxes2 w #[.int .i64 a, .int .i64 b, .int .i64 c] #[.int .i64 0, .int .i64 0, .int .i64 0] 58 58
  have HW := Lib.hid hW
  clear hW
  have hXl := hX.lt
  have hRl := hR.lt
  go_enter Tryd.func36, Tryd.ntmps36
  go_upto_region 1 with fail
  rw [HW.out]
  have c_hX0 := hX.cell 0
  have c_hX1 := hX.cell 1
  have c_hX2 := hX.cell 2
  go_wp2_with fail
  refine (clockIs (.int .i64 a) (.int .i64 b) (.int .i64 c) 2 (by omega) _).mono ?_
  rintro _ w1 ⟨rfl, b1⟩
  clear c_hX0 c_hX1 c_hX2
  have b01 := btr b0 b1 b0.size
  have hX_1 := hX.below b1 hX.lt
  have hR_1 := hR.below b1 hR.lt
  have c_hX0 := hX_1.cell 0
  have c_hX1 := hX_1.cell 1
  have c_hX2 := hX_1.cell 2
  by_cases h1 : n < 0
  · have t1 : decide (n < 0) = true := decide_eq_true h1
    have HN := Lib.hid (show pos n = 0 from if_pos h1)
    clear c_hX0 c_hX1 c_hX2
    have c_hX2 := hX_1.cell 2
    have f_hX2 := hX_1.frozen 2
    go_upto_region 3 with fail
    obtain ⟨w2, hw2⟩ : ∃ Wz_, w1.setCell ⟨w.heap.size, 2, none⟩ (.int .i64 0)= Wz_ := ⟨_, rfl⟩
    have hX_2 := hX_1.set_ 2 (.int .i64 0)
    simp only [List.setIfInBounds_toArray, List.set_cons_succ, List.set_cons_zero] at hX_2
    have hR_2 := hR_1.far (p := ⟨w.heap.size, 2, none⟩) (by show _ ≠ w.heap.size; omega) (.int .i64 0)
    have b02 := b01.setCell (p := ⟨w.heap.size, 2, none⟩) (by show _ ≤ w.heap.size; omega) (.int .i64 0)
    have z_2 : w1.heap.size ≤ w2.heap.size := by rw [← hw2]; simp [World.setCell]
    rw [hw2] at hX_2 hR_2 b02
    rw [hw2]
    clear hw2
    clear c_hX2 f_hX2
    clear hX_1
    clear hR_1
    have c_hX2 := hX_2.cell 2
    have f_hX2 := hX_2.frozen 2
    clear c_hX2 f_hX2
    have c_hX0 := hX_2.cell 0
    have c_hX1 := hX_2.cell 1
    have c_hX2 := hX_2.cell 2
    have c_hR0 := hR_2.cell 0
    have f_hR0 := hR_2.frozen 0
    have c_hR1 := hR_2.cell 1
    have f_hR1 := hR_2.frozen 1
    have c_hR2 := hR_2.cell 2
    have f_hR2 := hR_2.frozen 2
    go_wp2_with fail
    obtain ⟨w3a, hw3a⟩ : ∃ Wz_, w2.setCell ⟨(w.heap.size + 1), 0, none⟩ (.int .i64 a)= Wz_ := ⟨_, rfl⟩
    have hX_3a := hX_2.far (p := ⟨(w.heap.size + 1), 0, none⟩) (by show _ ≠ (w.heap.size + 1); omega) (.int .i64 a)
    have hR_3a := hR_2.set_ 0 (.int .i64 a)
    simp only [List.setIfInBounds_toArray, List.set_cons_succ, List.set_cons_zero] at hR_3a
    have b03a := b02.setCell (p := ⟨(w.heap.size + 1), 0, none⟩) (by show _ ≤ (w.heap.size + 1); omega) (.int .i64 a)
    have z_3a : w2.heap.size ≤ w3a.heap.size := by rw [← hw3a]; simp [World.setCell]
    rw [hw3a] at hX_3a hR_3a b03a
    rw [hw3a]
    clear hw3a
    clear c_hX0 c_hX1 c_hX2 c_hR0 f_hR0 c_hR1 f_hR1 c_hR2 f_hR2
    clear hX_2
    clear hR_2
    have c_hX0 := hX_3a.cell 0
    have c_hX1 := hX_3a.cell 1
    have c_hX2 := hX_3a.cell 2
    have c_hR0 := hR_3a.cell 0
    have f_hR0 := hR_3a.frozen 0
    have c_hR1 := hR_3a.cell 1
    have f_hR1 := hR_3a.frozen 1
    have c_hR2 := hR_3a.cell 2
    have f_hR2 := hR_3a.frozen 2
    obtain ⟨w3b, hw3b⟩ : ∃ Wz_, w3a.setCell ⟨(w.heap.size + 1), 1, none⟩ (.int .i64 b)= Wz_ := ⟨_, rfl⟩
    have hX_3b := hX_3a.far (p := ⟨(w.heap.size + 1), 1, none⟩) (by show _ ≠ (w.heap.size + 1); omega) (.int .i64 b)
    have hR_3b := hR_3a.set_ 1 (.int .i64 b)
    simp only [List.setIfInBounds_toArray, List.set_cons_succ, List.set_cons_zero] at hR_3b
    have b03b := b03a.setCell (p := ⟨(w.heap.size + 1), 1, none⟩) (by show _ ≤ (w.heap.size + 1); omega) (.int .i64 b)
    have z_3b : w3a.heap.size ≤ w3b.heap.size := by rw [← hw3b]; simp [World.setCell]
    rw [hw3b] at hX_3b hR_3b b03b
    rw [hw3b]
    clear hw3b
    clear c_hX0 c_hX1 c_hX2 c_hR0 f_hR0 c_hR1 f_hR1 c_hR2 f_hR2
    clear hX_3a
    clear hR_3a
    have c_hX0 := hX_3b.cell 0
    have c_hX1 := hX_3b.cell 1
    have c_hX2 := hX_3b.cell 2
    have c_hR0 := hR_3b.cell 0
    have f_hR0 := hR_3b.frozen 0
    have c_hR1 := hR_3b.cell 1
    have f_hR1 := hR_3b.frozen 1
    have c_hR2 := hR_3b.cell 2
    have f_hR2 := hR_3b.frozen 2
    obtain ⟨w3c, hw3c⟩ : ∃ Wz_, w3b.setCell ⟨(w.heap.size + 1), 2, none⟩ (.int .i64 0)= Wz_ := ⟨_, rfl⟩
    have hX_3c := hX_3b.far (p := ⟨(w.heap.size + 1), 2, none⟩) (by show _ ≠ (w.heap.size + 1); omega) (.int .i64 0)
    have hR_3c := hR_3b.set_ 2 (.int .i64 0)
    simp only [List.setIfInBounds_toArray, List.set_cons_succ, List.set_cons_zero] at hR_3c
    have b03c := b03b.setCell (p := ⟨(w.heap.size + 1), 2, none⟩) (by show _ ≤ (w.heap.size + 1); omega) (.int .i64 0)
    have z_3c : w3b.heap.size ≤ w3c.heap.size := by rw [← hw3c]; simp [World.setCell]
    rw [hw3c] at hX_3c hR_3c b03c
    rw [hw3c]
    clear hw3c
    clear c_hX0 c_hX1 c_hX2 c_hR0 f_hR0 c_hR1 f_hR1 c_hR2 f_hR2
    clear hX_3b
    clear hR_3b
    have c_hX0 := hX_3c.cell 0
    have c_hX1 := hX_3c.cell 1
    have c_hX2 := hX_3c.cell 2
    have c_hR0 := hR_3c.cell 0
    have f_hR0 := hR_3c.frozen 0
    have c_hR1 := hR_3c.cell 1
    have f_hR1 := hR_3c.frozen 1
    have c_hR2 := hR_3c.cell 2
    have f_hR2 := hR_3c.frozen 2
    refine bodyPost_ret (clk_ret rfl _ _ (w.heap.size + 1) _ _ _ rfl hR_3c) rfl ?_
    exact ⟨by rw [HN.out]; rfl, b03c⟩
  · have t1 : decide (n < 0) = false := decide_eq_false h1
    have HN := Lib.hid (show pos n = n from if_neg h1)
    clear c_hX0 c_hX1 c_hX2
    have c_hX2 := hX_1.cell 2
    have f_hX2 := hX_1.frozen 2
    go_upto_region 3 with fail
    obtain ⟨w2, hw2⟩ : ∃ Wz_, w1.setCell ⟨w.heap.size, 2, none⟩ (.int .i64 n)= Wz_ := ⟨_, rfl⟩
    have hX_2 := hX_1.set_ 2 (.int .i64 n)
    simp only [List.setIfInBounds_toArray, List.set_cons_succ, List.set_cons_zero] at hX_2
    have hR_2 := hR_1.far (p := ⟨w.heap.size, 2, none⟩) (by show _ ≠ w.heap.size; omega) (.int .i64 n)
    have b02 := b01.setCell (p := ⟨w.heap.size, 2, none⟩) (by show _ ≤ w.heap.size; omega) (.int .i64 n)
    have z_2 : w1.heap.size ≤ w2.heap.size := by rw [← hw2]; simp [World.setCell]
    rw [hw2] at hX_2 hR_2 b02
    rw [hw2]
    clear hw2
    clear c_hX2 f_hX2
    clear hX_1
    clear hR_1
    have c_hX2 := hX_2.cell 2
    have f_hX2 := hX_2.frozen 2
    clear c_hX2 f_hX2
    have c_hX0 := hX_2.cell 0
    have c_hX1 := hX_2.cell 1
    have c_hX2 := hX_2.cell 2
    have c_hR0 := hR_2.cell 0
    have f_hR0 := hR_2.frozen 0
    have c_hR1 := hR_2.cell 1
    have f_hR1 := hR_2.frozen 1
    have c_hR2 := hR_2.cell 2
    have f_hR2 := hR_2.frozen 2
    go_wp2_with fail
    obtain ⟨w3a, hw3a⟩ : ∃ Wz_, w2.setCell ⟨(w.heap.size + 1), 0, none⟩ (.int .i64 a)= Wz_ := ⟨_, rfl⟩
    have hX_3a := hX_2.far (p := ⟨(w.heap.size + 1), 0, none⟩) (by show _ ≠ (w.heap.size + 1); omega) (.int .i64 a)
    have hR_3a := hR_2.set_ 0 (.int .i64 a)
    simp only [List.setIfInBounds_toArray, List.set_cons_succ, List.set_cons_zero] at hR_3a
    have b03a := b02.setCell (p := ⟨(w.heap.size + 1), 0, none⟩) (by show _ ≤ (w.heap.size + 1); omega) (.int .i64 a)
    have z_3a : w2.heap.size ≤ w3a.heap.size := by rw [← hw3a]; simp [World.setCell]
    rw [hw3a] at hX_3a hR_3a b03a
    rw [hw3a]
    clear hw3a
    clear c_hX0 c_hX1 c_hX2 c_hR0 f_hR0 c_hR1 f_hR1 c_hR2 f_hR2
    clear hX_2
    clear hR_2
    have c_hX0 := hX_3a.cell 0
    have c_hX1 := hX_3a.cell 1
    have c_hX2 := hX_3a.cell 2
    have c_hR0 := hR_3a.cell 0
    have f_hR0 := hR_3a.frozen 0
    have c_hR1 := hR_3a.cell 1
    have f_hR1 := hR_3a.frozen 1
    have c_hR2 := hR_3a.cell 2
    have f_hR2 := hR_3a.frozen 2
    obtain ⟨w3b, hw3b⟩ : ∃ Wz_, w3a.setCell ⟨(w.heap.size + 1), 1, none⟩ (.int .i64 b)= Wz_ := ⟨_, rfl⟩
    have hX_3b := hX_3a.far (p := ⟨(w.heap.size + 1), 1, none⟩) (by show _ ≠ (w.heap.size + 1); omega) (.int .i64 b)
    have hR_3b := hR_3a.set_ 1 (.int .i64 b)
    simp only [List.setIfInBounds_toArray, List.set_cons_succ, List.set_cons_zero] at hR_3b
    have b03b := b03a.setCell (p := ⟨(w.heap.size + 1), 1, none⟩) (by show _ ≤ (w.heap.size + 1); omega) (.int .i64 b)
    have z_3b : w3a.heap.size ≤ w3b.heap.size := by rw [← hw3b]; simp [World.setCell]
    rw [hw3b] at hX_3b hR_3b b03b
    rw [hw3b]
    clear hw3b
    clear c_hX0 c_hX1 c_hX2 c_hR0 f_hR0 c_hR1 f_hR1 c_hR2 f_hR2
    clear hX_3a
    clear hR_3a
    have c_hX0 := hX_3b.cell 0
    have c_hX1 := hX_3b.cell 1
    have c_hX2 := hX_3b.cell 2
    have c_hR0 := hR_3b.cell 0
    have f_hR0 := hR_3b.frozen 0
    have c_hR1 := hR_3b.cell 1
    have f_hR1 := hR_3b.frozen 1
    have c_hR2 := hR_3b.cell 2
    have f_hR2 := hR_3b.frozen 2
    obtain ⟨w3c, hw3c⟩ : ∃ Wz_, w3b.setCell ⟨(w.heap.size + 1), 2, none⟩ (.int .i64 n)= Wz_ := ⟨_, rfl⟩
    have hX_3c := hX_3b.far (p := ⟨(w.heap.size + 1), 2, none⟩) (by show _ ≠ (w.heap.size + 1); omega) (.int .i64 n)
    have hR_3c := hR_3b.set_ 2 (.int .i64 n)
    simp only [List.setIfInBounds_toArray, List.set_cons_succ, List.set_cons_zero] at hR_3c
    have b03c := b03b.setCell (p := ⟨(w.heap.size + 1), 2, none⟩) (by show _ ≤ (w.heap.size + 1); omega) (.int .i64 n)
    have z_3c : w3b.heap.size ≤ w3c.heap.size := by rw [← hw3c]; simp [World.setCell]
    rw [hw3c] at hX_3c hR_3c b03c
    rw [hw3c]
    clear hw3c
    clear c_hX0 c_hX1 c_hX2 c_hR0 f_hR0 c_hR1 f_hR1 c_hR2 f_hR2
    clear hX_3b
    clear hR_3b
    have c_hX0 := hX_3c.cell 0
    have c_hX1 := hX_3c.cell 1
    have c_hX2 := hX_3c.cell 2
    have c_hR0 := hR_3c.cell 0
    have f_hR0 := hR_3c.frozen 0
    have c_hR1 := hR_3c.cell 1
    have f_hR1 := hR_3c.frozen 1
    have c_hR2 := hR_3c.cell 2
    have f_hR2 := hR_3c.frozen 2
    refine bodyPost_ret (clk_ret rfl _ _ (w.heap.size + 1) _ _ _ rfl hR_3c) rfl ?_
    exact ⟨by rw [HN.out]; rfl, b03c⟩
end Go.Proofs.YthgjknmfghjioaaDoor
