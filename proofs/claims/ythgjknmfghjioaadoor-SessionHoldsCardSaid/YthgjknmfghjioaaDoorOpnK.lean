/- Walks of layer 6 (open): the OPEN of this side, and the document's. No conditions. -/
import Derived.Test.YthgjknmfghjioaaDoorProg
import Derived.WalkKit
import Derived.WalkSpells
import Derived.WalkLawsBesides
import Derived.Outline
import Derived.Deep.QuietTactic
import Derived.BigQuiet
import Derived.Handy
import Derived.Lib.Hide
import Derived.Test.YthgjknmfghjioaaDoorOpnJ
namespace Go.Proofs.YthgjknmfghjioaaDoor
open Go.RowKit
set_option linter.unusedSimpArgs false
set_option linter.unusedVariables false
theorem opn_ret {fn : Func} {p : Tmp} (h : fn.results = #[.cell p 66]) (tmps : Array Value) (w : World) (g : Nat) (a b c d e : Value)
    (hp : tmps.getD p undef = .pointer (some ⟨g, 0, none⟩)) (hB : Blk w g 66 #[a, b, c, d, e]) :
    (results fn tmps).run Tryd.prog w = .ok (.agg #[a, b, c, d, e]) w :=
  results_cell_row h tmps w g 66 #[a, b, c, d, e] (0, 0) _ hp hB Tryd.underlying66 rfl opn_info1
def mineA (a : Nat) : Int := if a ≤ 65535 then a else 23456
def mineH (h : Int) : Int := if h < 0 then 0 else if h > 65535 then 65535 else h
/-- The OPEN of this side. -/
def RetMine (w : World) (a i : Nat) (h : Int) (e : Ending) (w' : World) : Prop :=
  ∃ (A : Option Addr) (c : Nat), e = .returned (.agg #[.int .i64 4, .int .i64 (mineA a), .int .i64 (mineH h), .int .u32 i, .slice A 1 c]) ∧ DL rCap 2 w' (Lo w') A 1 [(65, b32 a)] ∧ 1 ≤ c ∧ Below w.heap.size w w'
set_option maxHeartbeats 2000000 in
set_option maxRecDepth 100000 in
theorem openMine (a i x : Nat) (ho : Int) (w : World) (ha : a < 4294967296) :
    Calls Tryd.prog 26 #[.agg #[.int .u32 a, .int .u32 i, .int .u32 x, .int .i64 ho]] w (RetMine w a i ho) := by
  obtain ⟨W, hW, hL, hR, b0⟩ := boxes2 w #[.int .u32 a, .int .u32 i, .int .u32 x, .int .i64 ho] #[.int .i64 0, .int .i64 0, .int .i64 0, .int .u32 0, .slice none 0 0] 24 66
  have HW := Lib.hid hW
  clear hW
  have hLl := hL.lt
  have hRl := hR.lt
  have wi : IntKind.i64.wrap (a : Int) = a := IntWalk.i64_in _ ⟨by omega, by omega⟩
  by_cases h1 : ho < 0
  · have t1 : decide (ho < 0) = true := decide_eq_true h1
    have HH := Lib.hid (show mineH ho = 0 by unfold mineH; rw [if_pos h1])
    by_cases h6 : a ≤ 65535
    · have t6 : decide ((a : Int) ≤ 65535) = true := decide_eq_true (by omega)
      have HA := Lib.hid (show mineA a = a from if_pos h6)
      clear h6
      obtain ⟨W2, hW2, hO, b2⟩ := box1c W #[.int .i64 4, .int .i64 23456, .int .i64 0, .int .u32 i, .slice none 0 0] 66
      have HW2 := Lib.hid hW2
      clear hW2
      have b02 := btr b0 b2 b0.size
      have hL2 := hL.below b2 hL.lt
      have hR2 := hR.below b2 hR.lt
      have hOl := hO.lt
      go_enter Tryd.func26, Tryd.ntmps26
      go_upto_region 1 with fail
      rw [HW.out]
      have c_hL0 := hL.cell 0
      have c_hL1 := hL.cell 1
      have c_hL2 := hL.cell 2
      have c_hL3 := hL.cell 3
      go_upto_region 2 with fail
      rw [HW2.out]
      clear c_hL0 c_hL1 c_hL2 c_hL3
      have c_hL0 := hL2.cell 0
      have c_hO1 := hO.cell 1
      have f_hO1 := hO.frozen 1
      have c_hO2 := hO.cell 2
      have f_hO2 := hO.frozen 2
      go_upto_region 4 with fail
      obtain ⟨w10, hw10⟩ : ∃ Wz_, W2.setCell ⟨W.heap.size, 1, none⟩ (.int .i64 a)= Wz_ := ⟨_, rfl⟩
      have hL_10 := hL2.far (p := ⟨W.heap.size, 1, none⟩) (by show _ ≠ W.heap.size; omega) (.int .i64 a)
      have hR_10 := hR2.far (p := ⟨W.heap.size, 1, none⟩) (by show _ ≠ W.heap.size; omega) (.int .i64 a)
      have hO_10 := hO.set_ 1 (.int .i64 a)
      simp only [List.setIfInBounds_toArray, List.set_cons_succ, List.set_cons_zero] at hO_10
      have b010 := b02.setCell (p := ⟨W.heap.size, 1, none⟩) (by show _ ≤ W.heap.size; omega) (.int .i64 a)
      have z_10 : W2.heap.size ≤ w10.heap.size := by rw [← hw10]; simp [World.setCell]
      rw [hw10] at hL_10 hR_10 hO_10 b010
      rw [hw10]
      clear hw10
      clear c_hL0 c_hO1 f_hO1 c_hO2 f_hO2
      have c_hL0 := hL_10.cell 0
      have c_hO1 := hO_10.cell 1
      have f_hO1 := hO_10.frozen 1
      have c_hO2 := hO_10.cell 2
      have f_hO2 := hO_10.frozen 2
      clear c_hL0
      have c_hL0 := hL_10.cell 0
      go_wp2_with fail
      refine (octetPut32 none 0 0 [] a _ BS.none_ (by simp) (by omega) (by omega)).mono ?_
      rintro _ w20 ⟨A3, n3, c3, rfl, o3, b20⟩
      clear c_hL0 c_hO1 f_hO1 c_hO2 f_hO2
      have b020 := btr b010 b20 b010.size
      have hL_20 := hL_10.below b20 hL_10.lt
      clear hL_10
      have hR_20 := hR_10.below b20 hR_10.lt
      clear hR_10
      have hO_20 := hO_10.below b20 hO_10.lt
      clear hO_10
      have c_hL0 := hL_20.cell 0
      have c_hO1 := hO_20.cell 1
      have f_hO1 := hO_20.frozen 1
      have c_hO2 := hO_20.cell 2
      have f_hO2 := hO_20.frozen 2
      rw [List.nil_append] at o3
      have hn3 : n3 = 4 := o3.1
      have hc3 := o3.cap
      subst hn3
      clear c_hL0
      have ca4 := (hO_20.alloc (.cells #[.int .i64 65, .slice A3 4 c3] 85)).cell 4
      have fa4 := (hO_20.alloc (.cells #[.int .i64 65, .slice A3 4 c3] 85)).frozen 4
      go_upto_region 5 with fail
      clear ca4 fa4
      obtain ⟨w21, hw21, hC, b21⟩ := box1c w20 #[.int .i64 65, .slice A3 4 c3] 85
      rw [hw21]
      have o4 := BF.own o3
      have hCl := hC.lt
      have hO20 := hO_20.lt
      have hR20 := hR_20.lt
      have o5 := o4.keep (S' := fun b => w10.heap.size ≤ b ∧ b < w21.heap.size) (fun b hb => ⟨⟨hb.1, Nat.lt_of_lt_of_le hb.2 (by omega)⟩, b21.block b hb.2⟩)
      have hD : DL rCap 2 w21 (fun b => w10.heap.size ≤ b ∧ b < w21.heap.size) (some ⟨w20.heap.size, 0, none⟩) 1 [(65, b32 a)] := DL.one rCap_ok hC ⟨b20.size, hCl⟩ ⟨A3, 4, c3, rfl, o5, hc3⟩
      clear hw21
      clear c_hO1 f_hO1 c_hO2 f_hO2
      have b021 := btr b020 b21 b020.size
      have hL_21 := hL_20.below b21 hL_20.lt
      clear hL_20
      have hR_21 := hR_20.below b21 hR_20.lt
      clear hR_20
      have hO_21 := hO_20.below b21 hO_20.lt
      clear hO_20
      have c_hO1 := hO_21.cell 1
      have f_hO1 := hO_21.frozen 1
      have c_hO2 := hO_21.cell 2
      have f_hO2 := hO_21.frozen 2
      obtain ⟨w22, hw22⟩ : ∃ Wz_, w21.setCell ⟨W.heap.size, 4, none⟩ (.slice (some ⟨w20.heap.size, 0, none⟩) 1 1)= Wz_ := ⟨_, rfl⟩
      have hL_22 := hL_21.far (p := ⟨W.heap.size, 4, none⟩) (by show _ ≠ W.heap.size; omega) (.slice (some ⟨w20.heap.size, 0, none⟩) 1 1)
      have hR_22 := hR_21.far (p := ⟨W.heap.size, 4, none⟩) (by show _ ≠ W.heap.size; omega) (.slice (some ⟨w20.heap.size, 0, none⟩) 1 1)
      have hO_22 := hO_21.set_ 4 (.slice (some ⟨w20.heap.size, 0, none⟩) 1 1)
      simp only [List.setIfInBounds_toArray, List.set_cons_succ, List.set_cons_zero] at hO_22
      have hD_22 := hD.keep rCap_ok (Kp.set (p := ⟨W.heap.size, 4, none⟩) (by intro b hb; have := hb.1; show b ≠ W.heap.size; omega) (.slice (some ⟨w20.heap.size, 0, none⟩) 1 1))
      have b022 := b021.setCell (p := ⟨W.heap.size, 4, none⟩) (by show _ ≤ W.heap.size; omega) (.slice (some ⟨w20.heap.size, 0, none⟩) 1 1)
      have z_22 : w21.heap.size ≤ w22.heap.size := by rw [← hw22]; simp [World.setCell]
      rw [hw22] at hL_22 hR_22 hO_22 hD_22 b022
      rw [hw22]
      clear hw22
      clear c_hO1 f_hO1 c_hO2 f_hO2
      clear hL_21
      clear hR_21
      clear hO_21
      have c_hO1 := hO_22.cell 1
      have f_hO1 := hO_22.frozen 1
      have c_hO2 := hO_22.cell 2
      have f_hO2 := hO_22.frozen 2
      clear c_hO1 c_hO2 f_hO1 f_hO2
      have c_hO0 := hO_22.cell 0
      have f_hO0 := hO_22.frozen 0
      have c_hO1 := hO_22.cell 1
      have f_hO1 := hO_22.frozen 1
      have c_hO2 := hO_22.cell 2
      have f_hO2 := hO_22.frozen 2
      have c_hO3 := hO_22.cell 3
      have f_hO3 := hO_22.frozen 3
      have c_hO4 := hO_22.cell 4
      have f_hO4 := hO_22.frozen 4
      have c_hR0 := hR_22.cell 0
      have f_hR0 := hR_22.frozen 0
      have c_hR1 := hR_22.cell 1
      have f_hR1 := hR_22.frozen 1
      have c_hR2 := hR_22.cell 2
      have f_hR2 := hR_22.frozen 2
      have c_hR3 := hR_22.cell 3
      have f_hR3 := hR_22.frozen 3
      have c_hR4 := hR_22.cell 4
      have f_hR4 := hR_22.frozen 4
      go_wp2_with fail
      obtain ⟨w23s0, hw23s0⟩ : ∃ Wz_, w22.setCell ⟨w.heap.size + 1, 0, none⟩ (.int .i64 4)= Wz_ := ⟨_, rfl⟩
      have hL_23s0 := hL_22.far (p := ⟨w.heap.size + 1, 0, none⟩) (by show _ ≠ w.heap.size + 1; omega) (.int .i64 4)
      have hR_23s0 := hR_22.set_ 0 (.int .i64 4)
      simp only [List.setIfInBounds_toArray, List.set_cons_succ, List.set_cons_zero] at hR_23s0
      have hO_23s0 := hO_22.far (p := ⟨w.heap.size + 1, 0, none⟩) (by show _ ≠ w.heap.size + 1; omega) (.int .i64 4)
      have hD_23s0 := hD_22.keep rCap_ok (Kp.set (p := ⟨w.heap.size + 1, 0, none⟩) (by intro b hb; have := hb.1; show b ≠ w.heap.size + 1; omega) (.int .i64 4))
      have b023s0 := b022.setCell (p := ⟨w.heap.size + 1, 0, none⟩) (by show _ ≤ w.heap.size + 1; omega) (.int .i64 4)
      have z_23s0 : w22.heap.size ≤ w23s0.heap.size := by rw [← hw23s0]; simp [World.setCell]
      rw [hw23s0] at hL_23s0 hR_23s0 hO_23s0 hD_23s0 b023s0
      rw [hw23s0]
      clear hw23s0
      clear c_hO0 f_hO0 c_hO1 f_hO1 c_hO2 f_hO2 c_hO3 f_hO3 c_hO4 f_hO4 c_hR0 f_hR0 c_hR1 f_hR1 c_hR2 f_hR2 c_hR3 f_hR3 c_hR4 f_hR4
      clear hL_22
      clear hR_22
      clear hO_22
      clear hD_22
      have c_hR0 := hR_23s0.cell 0
      have f_hR0 := hR_23s0.frozen 0
      have c_hR1 := hR_23s0.cell 1
      have f_hR1 := hR_23s0.frozen 1
      have c_hR2 := hR_23s0.cell 2
      have f_hR2 := hR_23s0.frozen 2
      have c_hR3 := hR_23s0.cell 3
      have f_hR3 := hR_23s0.frozen 3
      have c_hR4 := hR_23s0.cell 4
      have f_hR4 := hR_23s0.frozen 4
      have c_hO0 := hO_23s0.cell 0
      have f_hO0 := hO_23s0.frozen 0
      have c_hO1 := hO_23s0.cell 1
      have f_hO1 := hO_23s0.frozen 1
      have c_hO2 := hO_23s0.cell 2
      have f_hO2 := hO_23s0.frozen 2
      have c_hO3 := hO_23s0.cell 3
      have f_hO3 := hO_23s0.frozen 3
      have c_hO4 := hO_23s0.cell 4
      have f_hO4 := hO_23s0.frozen 4
      obtain ⟨w23s1, hw23s1⟩ : ∃ Wz_, w23s0.setCell ⟨w.heap.size + 1, 1, none⟩ (.int .i64 a)= Wz_ := ⟨_, rfl⟩
      have hL_23s1 := hL_23s0.far (p := ⟨w.heap.size + 1, 1, none⟩) (by show _ ≠ w.heap.size + 1; omega) (.int .i64 a)
      have hR_23s1 := hR_23s0.set_ 1 (.int .i64 a)
      simp only [List.setIfInBounds_toArray, List.set_cons_succ, List.set_cons_zero] at hR_23s1
      have hO_23s1 := hO_23s0.far (p := ⟨w.heap.size + 1, 1, none⟩) (by show _ ≠ w.heap.size + 1; omega) (.int .i64 a)
      have hD_23s1 := hD_23s0.keep rCap_ok (Kp.set (p := ⟨w.heap.size + 1, 1, none⟩) (by intro b hb; have := hb.1; show b ≠ w.heap.size + 1; omega) (.int .i64 a))
      have b023s1 := b023s0.setCell (p := ⟨w.heap.size + 1, 1, none⟩) (by show _ ≤ w.heap.size + 1; omega) (.int .i64 a)
      have z_23s1 : w23s0.heap.size ≤ w23s1.heap.size := by rw [← hw23s1]; simp [World.setCell]
      rw [hw23s1] at hL_23s1 hR_23s1 hO_23s1 hD_23s1 b023s1
      rw [hw23s1]
      clear hw23s1
      clear c_hO0 f_hO0 c_hO1 f_hO1 c_hO2 f_hO2 c_hO3 f_hO3 c_hO4 f_hO4 c_hR0 f_hR0 c_hR1 f_hR1 c_hR2 f_hR2 c_hR3 f_hR3 c_hR4 f_hR4
      clear hL_23s0
      clear hR_23s0
      clear hO_23s0
      clear hD_23s0
      have c_hR0 := hR_23s1.cell 0
      have f_hR0 := hR_23s1.frozen 0
      have c_hR1 := hR_23s1.cell 1
      have f_hR1 := hR_23s1.frozen 1
      have c_hR2 := hR_23s1.cell 2
      have f_hR2 := hR_23s1.frozen 2
      have c_hR3 := hR_23s1.cell 3
      have f_hR3 := hR_23s1.frozen 3
      have c_hR4 := hR_23s1.cell 4
      have f_hR4 := hR_23s1.frozen 4
      have c_hO0 := hO_23s1.cell 0
      have f_hO0 := hO_23s1.frozen 0
      have c_hO1 := hO_23s1.cell 1
      have f_hO1 := hO_23s1.frozen 1
      have c_hO2 := hO_23s1.cell 2
      have f_hO2 := hO_23s1.frozen 2
      have c_hO3 := hO_23s1.cell 3
      have f_hO3 := hO_23s1.frozen 3
      have c_hO4 := hO_23s1.cell 4
      have f_hO4 := hO_23s1.frozen 4
      obtain ⟨w23s2, hw23s2⟩ : ∃ Wz_, w23s1.setCell ⟨w.heap.size + 1, 2, none⟩ (.int .i64 0)= Wz_ := ⟨_, rfl⟩
      have hL_23s2 := hL_23s1.far (p := ⟨w.heap.size + 1, 2, none⟩) (by show _ ≠ w.heap.size + 1; omega) (.int .i64 0)
      have hR_23s2 := hR_23s1.set_ 2 (.int .i64 0)
      simp only [List.setIfInBounds_toArray, List.set_cons_succ, List.set_cons_zero] at hR_23s2
      have hO_23s2 := hO_23s1.far (p := ⟨w.heap.size + 1, 2, none⟩) (by show _ ≠ w.heap.size + 1; omega) (.int .i64 0)
      have hD_23s2 := hD_23s1.keep rCap_ok (Kp.set (p := ⟨w.heap.size + 1, 2, none⟩) (by intro b hb; have := hb.1; show b ≠ w.heap.size + 1; omega) (.int .i64 0))
      have b023s2 := b023s1.setCell (p := ⟨w.heap.size + 1, 2, none⟩) (by show _ ≤ w.heap.size + 1; omega) (.int .i64 0)
      have z_23s2 : w23s1.heap.size ≤ w23s2.heap.size := by rw [← hw23s2]; simp [World.setCell]
      rw [hw23s2] at hL_23s2 hR_23s2 hO_23s2 hD_23s2 b023s2
      rw [hw23s2]
      clear hw23s2
      clear c_hO0 f_hO0 c_hO1 f_hO1 c_hO2 f_hO2 c_hO3 f_hO3 c_hO4 f_hO4 c_hR0 f_hR0 c_hR1 f_hR1 c_hR2 f_hR2 c_hR3 f_hR3 c_hR4 f_hR4
      clear hL_23s1
      clear hR_23s1
      clear hO_23s1
      clear hD_23s1
      have c_hR0 := hR_23s2.cell 0
      have f_hR0 := hR_23s2.frozen 0
      have c_hR1 := hR_23s2.cell 1
      have f_hR1 := hR_23s2.frozen 1
      have c_hR2 := hR_23s2.cell 2
      have f_hR2 := hR_23s2.frozen 2
      have c_hR3 := hR_23s2.cell 3
      have f_hR3 := hR_23s2.frozen 3
      have c_hR4 := hR_23s2.cell 4
      have f_hR4 := hR_23s2.frozen 4
      have c_hO0 := hO_23s2.cell 0
      have f_hO0 := hO_23s2.frozen 0
      have c_hO1 := hO_23s2.cell 1
      have f_hO1 := hO_23s2.frozen 1
      have c_hO2 := hO_23s2.cell 2
      have f_hO2 := hO_23s2.frozen 2
      have c_hO3 := hO_23s2.cell 3
      have f_hO3 := hO_23s2.frozen 3
      have c_hO4 := hO_23s2.cell 4
      have f_hO4 := hO_23s2.frozen 4
      obtain ⟨w23s3, hw23s3⟩ : ∃ Wz_, w23s2.setCell ⟨w.heap.size + 1, 3, none⟩ (.int .u32 i)= Wz_ := ⟨_, rfl⟩
      have hL_23s3 := hL_23s2.far (p := ⟨w.heap.size + 1, 3, none⟩) (by show _ ≠ w.heap.size + 1; omega) (.int .u32 i)
      have hR_23s3 := hR_23s2.set_ 3 (.int .u32 i)
      simp only [List.setIfInBounds_toArray, List.set_cons_succ, List.set_cons_zero] at hR_23s3
      have hO_23s3 := hO_23s2.far (p := ⟨w.heap.size + 1, 3, none⟩) (by show _ ≠ w.heap.size + 1; omega) (.int .u32 i)
      have hD_23s3 := hD_23s2.keep rCap_ok (Kp.set (p := ⟨w.heap.size + 1, 3, none⟩) (by intro b hb; have := hb.1; show b ≠ w.heap.size + 1; omega) (.int .u32 i))
      have b023s3 := b023s2.setCell (p := ⟨w.heap.size + 1, 3, none⟩) (by show _ ≤ w.heap.size + 1; omega) (.int .u32 i)
      have z_23s3 : w23s2.heap.size ≤ w23s3.heap.size := by rw [← hw23s3]; simp [World.setCell]
      rw [hw23s3] at hL_23s3 hR_23s3 hO_23s3 hD_23s3 b023s3
      rw [hw23s3]
      clear hw23s3
      clear c_hO0 f_hO0 c_hO1 f_hO1 c_hO2 f_hO2 c_hO3 f_hO3 c_hO4 f_hO4 c_hR0 f_hR0 c_hR1 f_hR1 c_hR2 f_hR2 c_hR3 f_hR3 c_hR4 f_hR4
      clear hL_23s2
      clear hR_23s2
      clear hO_23s2
      clear hD_23s2
      have c_hR0 := hR_23s3.cell 0
      have f_hR0 := hR_23s3.frozen 0
      have c_hR1 := hR_23s3.cell 1
      have f_hR1 := hR_23s3.frozen 1
      have c_hR2 := hR_23s3.cell 2
      have f_hR2 := hR_23s3.frozen 2
      have c_hR3 := hR_23s3.cell 3
      have f_hR3 := hR_23s3.frozen 3
      have c_hR4 := hR_23s3.cell 4
      have f_hR4 := hR_23s3.frozen 4
      have c_hO0 := hO_23s3.cell 0
      have f_hO0 := hO_23s3.frozen 0
      have c_hO1 := hO_23s3.cell 1
      have f_hO1 := hO_23s3.frozen 1
      have c_hO2 := hO_23s3.cell 2
      have f_hO2 := hO_23s3.frozen 2
      have c_hO3 := hO_23s3.cell 3
      have f_hO3 := hO_23s3.frozen 3
      have c_hO4 := hO_23s3.cell 4
      have f_hO4 := hO_23s3.frozen 4
      obtain ⟨w23s4, hw23s4⟩ : ∃ Wz_, w23s3.setCell ⟨w.heap.size + 1, 4, none⟩ (.slice (some ⟨w20.heap.size, 0, none⟩) 1 1)= Wz_ := ⟨_, rfl⟩
      have hL_23s4 := hL_23s3.far (p := ⟨w.heap.size + 1, 4, none⟩) (by show _ ≠ w.heap.size + 1; omega) (.slice (some ⟨w20.heap.size, 0, none⟩) 1 1)
      have hR_23s4 := hR_23s3.set_ 4 (.slice (some ⟨w20.heap.size, 0, none⟩) 1 1)
      simp only [List.setIfInBounds_toArray, List.set_cons_succ, List.set_cons_zero] at hR_23s4
      have hO_23s4 := hO_23s3.far (p := ⟨w.heap.size + 1, 4, none⟩) (by show _ ≠ w.heap.size + 1; omega) (.slice (some ⟨w20.heap.size, 0, none⟩) 1 1)
      have hD_23s4 := hD_23s3.keep rCap_ok (Kp.set (p := ⟨w.heap.size + 1, 4, none⟩) (by intro b hb; have := hb.1; show b ≠ w.heap.size + 1; omega) (.slice (some ⟨w20.heap.size, 0, none⟩) 1 1))
      have b023s4 := b023s3.setCell (p := ⟨w.heap.size + 1, 4, none⟩) (by show _ ≤ w.heap.size + 1; omega) (.slice (some ⟨w20.heap.size, 0, none⟩) 1 1)
      have z_23s4 : w23s3.heap.size ≤ w23s4.heap.size := by rw [← hw23s4]; simp [World.setCell]
      rw [hw23s4] at hL_23s4 hR_23s4 hO_23s4 hD_23s4 b023s4
      rw [hw23s4]
      clear hw23s4
      clear c_hO0 f_hO0 c_hO1 f_hO1 c_hO2 f_hO2 c_hO3 f_hO3 c_hO4 f_hO4 c_hR0 f_hR0 c_hR1 f_hR1 c_hR2 f_hR2 c_hR3 f_hR3 c_hR4 f_hR4
      clear hL_23s3
      clear hR_23s3
      clear hO_23s3
      clear hD_23s3
      have c_hR0 := hR_23s4.cell 0
      have f_hR0 := hR_23s4.frozen 0
      have c_hR1 := hR_23s4.cell 1
      have f_hR1 := hR_23s4.frozen 1
      have c_hR2 := hR_23s4.cell 2
      have f_hR2 := hR_23s4.frozen 2
      have c_hR3 := hR_23s4.cell 3
      have f_hR3 := hR_23s4.frozen 3
      have c_hR4 := hR_23s4.cell 4
      have f_hR4 := hR_23s4.frozen 4
      have c_hO0 := hO_23s4.cell 0
      have f_hO0 := hO_23s4.frozen 0
      have c_hO1 := hO_23s4.cell 1
      have f_hO1 := hO_23s4.frozen 1
      have c_hO2 := hO_23s4.cell 2
      have f_hO2 := hO_23s4.frozen 2
      have c_hO3 := hO_23s4.cell 3
      have f_hO3 := hO_23s4.frozen 3
      have c_hO4 := hO_23s4.cell 4
      have f_hO4 := hO_23s4.frozen 4
      refine bodyPost_ret (opn_ret rfl _ _ (w.heap.size + 1) _ _ _ _ _ rfl hR_23s4) rfl ?_
      exact ⟨some ⟨w20.heap.size, 0, none⟩, 1, by rw [HA.out, HH.out], hD_23s4.keep rCap_ok (Kp.sub fun b hb => Nat.lt_of_lt_of_le hb.2 (by omega)), Nat.le_refl _, b023s4⟩
    · have t6 : decide ((a : Int) ≤ 65535) = false := decide_eq_false (by omega)
      have HA := Lib.hid (show mineA a = 23456 from if_neg h6)
      clear h6
      obtain ⟨W2, hW2, hO, b2⟩ := box1c W #[.int .i64 4, .int .i64 23456, .int .i64 0, .int .u32 i, .slice none 0 0] 66
      have HW2 := Lib.hid hW2
      clear hW2
      have b02 := btr b0 b2 b0.size
      have hL2 := hL.below b2 hL.lt
      have hR2 := hR.below b2 hR.lt
      have hOl := hO.lt
      go_enter Tryd.func26, Tryd.ntmps26
      go_upto_region 1 with fail
      rw [HW.out]
      have c_hL0 := hL.cell 0
      have c_hL1 := hL.cell 1
      have c_hL2 := hL.cell 2
      have c_hL3 := hL.cell 3
      go_upto_region 2 with fail
      rw [HW2.out]
      clear c_hL0 c_hL1 c_hL2 c_hL3
      have c_hL0 := hL2.cell 0
      go_upto_region 4 with fail
      clear c_hL0
      have c_hL0 := hL2.cell 0
      go_wp2_with fail
      refine (octetPut32 none 0 0 [] a _ BS.none_ (by simp) (by omega) (by omega)).mono ?_
      rintro _ w20 ⟨A3, n3, c3, rfl, o3, b20⟩
      clear c_hL0
      have b020 := btr b02 b20 b02.size
      have hL_20 := hL2.below b20 hL2.lt
      have hR_20 := hR2.below b20 hR2.lt
      have hO_20 := hO.below b20 hO.lt
      have c_hL0 := hL_20.cell 0
      rw [List.nil_append] at o3
      have hn3 : n3 = 4 := o3.1
      have hc3 := o3.cap
      subst hn3
      clear c_hL0
      have ca4 := (hO_20.alloc (.cells #[.int .i64 65, .slice A3 4 c3] 85)).cell 4
      have fa4 := (hO_20.alloc (.cells #[.int .i64 65, .slice A3 4 c3] 85)).frozen 4
      go_upto_region 5 with fail
      clear ca4 fa4
      obtain ⟨w21, hw21, hC, b21⟩ := box1c w20 #[.int .i64 65, .slice A3 4 c3] 85
      rw [hw21]
      have o4 := BF.own o3
      have hCl := hC.lt
      have hO20 := hO_20.lt
      have hR20 := hR_20.lt
      have o5 := o4.keep (S' := fun b => W2.heap.size ≤ b ∧ b < w21.heap.size) (fun b hb => ⟨⟨hb.1, Nat.lt_of_lt_of_le hb.2 (by omega)⟩, b21.block b hb.2⟩)
      have hD : DL rCap 2 w21 (fun b => W2.heap.size ≤ b ∧ b < w21.heap.size) (some ⟨w20.heap.size, 0, none⟩) 1 [(65, b32 a)] := DL.one rCap_ok hC ⟨b20.size, hCl⟩ ⟨A3, 4, c3, rfl, o5, hc3⟩
      clear hw21
      have b021 := btr b020 b21 b020.size
      have hL_21 := hL_20.below b21 hL_20.lt
      clear hL_20
      have hR_21 := hR_20.below b21 hR_20.lt
      clear hR_20
      have hO_21 := hO_20.below b21 hO_20.lt
      clear hO_20
      obtain ⟨w22, hw22⟩ : ∃ Wz_, w21.setCell ⟨W.heap.size, 4, none⟩ (.slice (some ⟨w20.heap.size, 0, none⟩) 1 1)= Wz_ := ⟨_, rfl⟩
      have hL_22 := hL_21.far (p := ⟨W.heap.size, 4, none⟩) (by show _ ≠ W.heap.size; omega) (.slice (some ⟨w20.heap.size, 0, none⟩) 1 1)
      have hR_22 := hR_21.far (p := ⟨W.heap.size, 4, none⟩) (by show _ ≠ W.heap.size; omega) (.slice (some ⟨w20.heap.size, 0, none⟩) 1 1)
      have hO_22 := hO_21.set_ 4 (.slice (some ⟨w20.heap.size, 0, none⟩) 1 1)
      simp only [List.setIfInBounds_toArray, List.set_cons_succ, List.set_cons_zero] at hO_22
      have hD_22 := hD.keep rCap_ok (Kp.set (p := ⟨W.heap.size, 4, none⟩) (by intro b hb; have := hb.1; show b ≠ W.heap.size; omega) (.slice (some ⟨w20.heap.size, 0, none⟩) 1 1))
      have b022 := b021.setCell (p := ⟨W.heap.size, 4, none⟩) (by show _ ≤ W.heap.size; omega) (.slice (some ⟨w20.heap.size, 0, none⟩) 1 1)
      have z_22 : w21.heap.size ≤ w22.heap.size := by rw [← hw22]; simp [World.setCell]
      rw [hw22] at hL_22 hR_22 hO_22 hD_22 b022
      rw [hw22]
      clear hw22
      clear hL_21
      clear hR_21
      clear hO_21
      have c_hO0 := hO_22.cell 0
      have f_hO0 := hO_22.frozen 0
      have c_hO1 := hO_22.cell 1
      have f_hO1 := hO_22.frozen 1
      have c_hO2 := hO_22.cell 2
      have f_hO2 := hO_22.frozen 2
      have c_hO3 := hO_22.cell 3
      have f_hO3 := hO_22.frozen 3
      have c_hO4 := hO_22.cell 4
      have f_hO4 := hO_22.frozen 4
      have c_hR0 := hR_22.cell 0
      have f_hR0 := hR_22.frozen 0
      have c_hR1 := hR_22.cell 1
      have f_hR1 := hR_22.frozen 1
      have c_hR2 := hR_22.cell 2
      have f_hR2 := hR_22.frozen 2
      have c_hR3 := hR_22.cell 3
      have f_hR3 := hR_22.frozen 3
      have c_hR4 := hR_22.cell 4
      have f_hR4 := hR_22.frozen 4
      go_wp2_with fail
      obtain ⟨w23s0, hw23s0⟩ : ∃ Wz_, w22.setCell ⟨w.heap.size + 1, 0, none⟩ (.int .i64 4)= Wz_ := ⟨_, rfl⟩
      have hL_23s0 := hL_22.far (p := ⟨w.heap.size + 1, 0, none⟩) (by show _ ≠ w.heap.size + 1; omega) (.int .i64 4)
      have hR_23s0 := hR_22.set_ 0 (.int .i64 4)
      simp only [List.setIfInBounds_toArray, List.set_cons_succ, List.set_cons_zero] at hR_23s0
      have hO_23s0 := hO_22.far (p := ⟨w.heap.size + 1, 0, none⟩) (by show _ ≠ w.heap.size + 1; omega) (.int .i64 4)
      have hD_23s0 := hD_22.keep rCap_ok (Kp.set (p := ⟨w.heap.size + 1, 0, none⟩) (by intro b hb; have := hb.1; show b ≠ w.heap.size + 1; omega) (.int .i64 4))
      have b023s0 := b022.setCell (p := ⟨w.heap.size + 1, 0, none⟩) (by show _ ≤ w.heap.size + 1; omega) (.int .i64 4)
      have z_23s0 : w22.heap.size ≤ w23s0.heap.size := by rw [← hw23s0]; simp [World.setCell]
      rw [hw23s0] at hL_23s0 hR_23s0 hO_23s0 hD_23s0 b023s0
      rw [hw23s0]
      clear hw23s0
      clear c_hO0 f_hO0 c_hO1 f_hO1 c_hO2 f_hO2 c_hO3 f_hO3 c_hO4 f_hO4 c_hR0 f_hR0 c_hR1 f_hR1 c_hR2 f_hR2 c_hR3 f_hR3 c_hR4 f_hR4
      clear hL_22
      clear hR_22
      clear hO_22
      clear hD_22
      have c_hR0 := hR_23s0.cell 0
      have f_hR0 := hR_23s0.frozen 0
      have c_hR1 := hR_23s0.cell 1
      have f_hR1 := hR_23s0.frozen 1
      have c_hR2 := hR_23s0.cell 2
      have f_hR2 := hR_23s0.frozen 2
      have c_hR3 := hR_23s0.cell 3
      have f_hR3 := hR_23s0.frozen 3
      have c_hR4 := hR_23s0.cell 4
      have f_hR4 := hR_23s0.frozen 4
      have c_hO0 := hO_23s0.cell 0
      have f_hO0 := hO_23s0.frozen 0
      have c_hO1 := hO_23s0.cell 1
      have f_hO1 := hO_23s0.frozen 1
      have c_hO2 := hO_23s0.cell 2
      have f_hO2 := hO_23s0.frozen 2
      have c_hO3 := hO_23s0.cell 3
      have f_hO3 := hO_23s0.frozen 3
      have c_hO4 := hO_23s0.cell 4
      have f_hO4 := hO_23s0.frozen 4
      obtain ⟨w23s1, hw23s1⟩ : ∃ Wz_, w23s0.setCell ⟨w.heap.size + 1, 1, none⟩ (.int .i64 23456)= Wz_ := ⟨_, rfl⟩
      have hL_23s1 := hL_23s0.far (p := ⟨w.heap.size + 1, 1, none⟩) (by show _ ≠ w.heap.size + 1; omega) (.int .i64 23456)
      have hR_23s1 := hR_23s0.set_ 1 (.int .i64 23456)
      simp only [List.setIfInBounds_toArray, List.set_cons_succ, List.set_cons_zero] at hR_23s1
      have hO_23s1 := hO_23s0.far (p := ⟨w.heap.size + 1, 1, none⟩) (by show _ ≠ w.heap.size + 1; omega) (.int .i64 23456)
      have hD_23s1 := hD_23s0.keep rCap_ok (Kp.set (p := ⟨w.heap.size + 1, 1, none⟩) (by intro b hb; have := hb.1; show b ≠ w.heap.size + 1; omega) (.int .i64 23456))
      have b023s1 := b023s0.setCell (p := ⟨w.heap.size + 1, 1, none⟩) (by show _ ≤ w.heap.size + 1; omega) (.int .i64 23456)
      have z_23s1 : w23s0.heap.size ≤ w23s1.heap.size := by rw [← hw23s1]; simp [World.setCell]
      rw [hw23s1] at hL_23s1 hR_23s1 hO_23s1 hD_23s1 b023s1
      rw [hw23s1]
      clear hw23s1
      clear c_hO0 f_hO0 c_hO1 f_hO1 c_hO2 f_hO2 c_hO3 f_hO3 c_hO4 f_hO4 c_hR0 f_hR0 c_hR1 f_hR1 c_hR2 f_hR2 c_hR3 f_hR3 c_hR4 f_hR4
      clear hL_23s0
      clear hR_23s0
      clear hO_23s0
      clear hD_23s0
      have c_hR0 := hR_23s1.cell 0
      have f_hR0 := hR_23s1.frozen 0
      have c_hR1 := hR_23s1.cell 1
      have f_hR1 := hR_23s1.frozen 1
      have c_hR2 := hR_23s1.cell 2
      have f_hR2 := hR_23s1.frozen 2
      have c_hR3 := hR_23s1.cell 3
      have f_hR3 := hR_23s1.frozen 3
      have c_hR4 := hR_23s1.cell 4
      have f_hR4 := hR_23s1.frozen 4
      have c_hO0 := hO_23s1.cell 0
      have f_hO0 := hO_23s1.frozen 0
      have c_hO1 := hO_23s1.cell 1
      have f_hO1 := hO_23s1.frozen 1
      have c_hO2 := hO_23s1.cell 2
      have f_hO2 := hO_23s1.frozen 2
      have c_hO3 := hO_23s1.cell 3
      have f_hO3 := hO_23s1.frozen 3
      have c_hO4 := hO_23s1.cell 4
      have f_hO4 := hO_23s1.frozen 4
      obtain ⟨w23s2, hw23s2⟩ : ∃ Wz_, w23s1.setCell ⟨w.heap.size + 1, 2, none⟩ (.int .i64 0)= Wz_ := ⟨_, rfl⟩
      have hL_23s2 := hL_23s1.far (p := ⟨w.heap.size + 1, 2, none⟩) (by show _ ≠ w.heap.size + 1; omega) (.int .i64 0)
      have hR_23s2 := hR_23s1.set_ 2 (.int .i64 0)
      simp only [List.setIfInBounds_toArray, List.set_cons_succ, List.set_cons_zero] at hR_23s2
      have hO_23s2 := hO_23s1.far (p := ⟨w.heap.size + 1, 2, none⟩) (by show _ ≠ w.heap.size + 1; omega) (.int .i64 0)
      have hD_23s2 := hD_23s1.keep rCap_ok (Kp.set (p := ⟨w.heap.size + 1, 2, none⟩) (by intro b hb; have := hb.1; show b ≠ w.heap.size + 1; omega) (.int .i64 0))
      have b023s2 := b023s1.setCell (p := ⟨w.heap.size + 1, 2, none⟩) (by show _ ≤ w.heap.size + 1; omega) (.int .i64 0)
      have z_23s2 : w23s1.heap.size ≤ w23s2.heap.size := by rw [← hw23s2]; simp [World.setCell]
      rw [hw23s2] at hL_23s2 hR_23s2 hO_23s2 hD_23s2 b023s2
      rw [hw23s2]
      clear hw23s2
      clear c_hO0 f_hO0 c_hO1 f_hO1 c_hO2 f_hO2 c_hO3 f_hO3 c_hO4 f_hO4 c_hR0 f_hR0 c_hR1 f_hR1 c_hR2 f_hR2 c_hR3 f_hR3 c_hR4 f_hR4
      clear hL_23s1
      clear hR_23s1
      clear hO_23s1
      clear hD_23s1
      have c_hR0 := hR_23s2.cell 0
      have f_hR0 := hR_23s2.frozen 0
      have c_hR1 := hR_23s2.cell 1
      have f_hR1 := hR_23s2.frozen 1
      have c_hR2 := hR_23s2.cell 2
      have f_hR2 := hR_23s2.frozen 2
      have c_hR3 := hR_23s2.cell 3
      have f_hR3 := hR_23s2.frozen 3
      have c_hR4 := hR_23s2.cell 4
      have f_hR4 := hR_23s2.frozen 4
      have c_hO0 := hO_23s2.cell 0
      have f_hO0 := hO_23s2.frozen 0
      have c_hO1 := hO_23s2.cell 1
      have f_hO1 := hO_23s2.frozen 1
      have c_hO2 := hO_23s2.cell 2
      have f_hO2 := hO_23s2.frozen 2
      have c_hO3 := hO_23s2.cell 3
      have f_hO3 := hO_23s2.frozen 3
      have c_hO4 := hO_23s2.cell 4
      have f_hO4 := hO_23s2.frozen 4
      obtain ⟨w23s3, hw23s3⟩ : ∃ Wz_, w23s2.setCell ⟨w.heap.size + 1, 3, none⟩ (.int .u32 i)= Wz_ := ⟨_, rfl⟩
      have hL_23s3 := hL_23s2.far (p := ⟨w.heap.size + 1, 3, none⟩) (by show _ ≠ w.heap.size + 1; omega) (.int .u32 i)
      have hR_23s3 := hR_23s2.set_ 3 (.int .u32 i)
      simp only [List.setIfInBounds_toArray, List.set_cons_succ, List.set_cons_zero] at hR_23s3
      have hO_23s3 := hO_23s2.far (p := ⟨w.heap.size + 1, 3, none⟩) (by show _ ≠ w.heap.size + 1; omega) (.int .u32 i)
      have hD_23s3 := hD_23s2.keep rCap_ok (Kp.set (p := ⟨w.heap.size + 1, 3, none⟩) (by intro b hb; have := hb.1; show b ≠ w.heap.size + 1; omega) (.int .u32 i))
      have b023s3 := b023s2.setCell (p := ⟨w.heap.size + 1, 3, none⟩) (by show _ ≤ w.heap.size + 1; omega) (.int .u32 i)
      have z_23s3 : w23s2.heap.size ≤ w23s3.heap.size := by rw [← hw23s3]; simp [World.setCell]
      rw [hw23s3] at hL_23s3 hR_23s3 hO_23s3 hD_23s3 b023s3
      rw [hw23s3]
      clear hw23s3
      clear c_hO0 f_hO0 c_hO1 f_hO1 c_hO2 f_hO2 c_hO3 f_hO3 c_hO4 f_hO4 c_hR0 f_hR0 c_hR1 f_hR1 c_hR2 f_hR2 c_hR3 f_hR3 c_hR4 f_hR4
      clear hL_23s2
      clear hR_23s2
      clear hO_23s2
      clear hD_23s2
      have c_hR0 := hR_23s3.cell 0
      have f_hR0 := hR_23s3.frozen 0
      have c_hR1 := hR_23s3.cell 1
      have f_hR1 := hR_23s3.frozen 1
      have c_hR2 := hR_23s3.cell 2
      have f_hR2 := hR_23s3.frozen 2
      have c_hR3 := hR_23s3.cell 3
      have f_hR3 := hR_23s3.frozen 3
      have c_hR4 := hR_23s3.cell 4
      have f_hR4 := hR_23s3.frozen 4
      have c_hO0 := hO_23s3.cell 0
      have f_hO0 := hO_23s3.frozen 0
      have c_hO1 := hO_23s3.cell 1
      have f_hO1 := hO_23s3.frozen 1
      have c_hO2 := hO_23s3.cell 2
      have f_hO2 := hO_23s3.frozen 2
      have c_hO3 := hO_23s3.cell 3
      have f_hO3 := hO_23s3.frozen 3
      have c_hO4 := hO_23s3.cell 4
      have f_hO4 := hO_23s3.frozen 4
      obtain ⟨w23s4, hw23s4⟩ : ∃ Wz_, w23s3.setCell ⟨w.heap.size + 1, 4, none⟩ (.slice (some ⟨w20.heap.size, 0, none⟩) 1 1)= Wz_ := ⟨_, rfl⟩
      have hL_23s4 := hL_23s3.far (p := ⟨w.heap.size + 1, 4, none⟩) (by show _ ≠ w.heap.size + 1; omega) (.slice (some ⟨w20.heap.size, 0, none⟩) 1 1)
      have hR_23s4 := hR_23s3.set_ 4 (.slice (some ⟨w20.heap.size, 0, none⟩) 1 1)
      simp only [List.setIfInBounds_toArray, List.set_cons_succ, List.set_cons_zero] at hR_23s4
      have hO_23s4 := hO_23s3.far (p := ⟨w.heap.size + 1, 4, none⟩) (by show _ ≠ w.heap.size + 1; omega) (.slice (some ⟨w20.heap.size, 0, none⟩) 1 1)
      have hD_23s4 := hD_23s3.keep rCap_ok (Kp.set (p := ⟨w.heap.size + 1, 4, none⟩) (by intro b hb; have := hb.1; show b ≠ w.heap.size + 1; omega) (.slice (some ⟨w20.heap.size, 0, none⟩) 1 1))
      have b023s4 := b023s3.setCell (p := ⟨w.heap.size + 1, 4, none⟩) (by show _ ≤ w.heap.size + 1; omega) (.slice (some ⟨w20.heap.size, 0, none⟩) 1 1)
      have z_23s4 : w23s3.heap.size ≤ w23s4.heap.size := by rw [← hw23s4]; simp [World.setCell]
      rw [hw23s4] at hL_23s4 hR_23s4 hO_23s4 hD_23s4 b023s4
      rw [hw23s4]
      clear hw23s4
      clear c_hO0 f_hO0 c_hO1 f_hO1 c_hO2 f_hO2 c_hO3 f_hO3 c_hO4 f_hO4 c_hR0 f_hR0 c_hR1 f_hR1 c_hR2 f_hR2 c_hR3 f_hR3 c_hR4 f_hR4
      clear hL_23s3
      clear hR_23s3
      clear hO_23s3
      clear hD_23s3
      have c_hR0 := hR_23s4.cell 0
      have f_hR0 := hR_23s4.frozen 0
      have c_hR1 := hR_23s4.cell 1
      have f_hR1 := hR_23s4.frozen 1
      have c_hR2 := hR_23s4.cell 2
      have f_hR2 := hR_23s4.frozen 2
      have c_hR3 := hR_23s4.cell 3
      have f_hR3 := hR_23s4.frozen 3
      have c_hR4 := hR_23s4.cell 4
      have f_hR4 := hR_23s4.frozen 4
      have c_hO0 := hO_23s4.cell 0
      have f_hO0 := hO_23s4.frozen 0
      have c_hO1 := hO_23s4.cell 1
      have f_hO1 := hO_23s4.frozen 1
      have c_hO2 := hO_23s4.cell 2
      have f_hO2 := hO_23s4.frozen 2
      have c_hO3 := hO_23s4.cell 3
      have f_hO3 := hO_23s4.frozen 3
      have c_hO4 := hO_23s4.cell 4
      have f_hO4 := hO_23s4.frozen 4
      refine bodyPost_ret (opn_ret rfl _ _ (w.heap.size + 1) _ _ _ _ _ rfl hR_23s4) rfl ?_
      exact ⟨some ⟨w20.heap.size, 0, none⟩, 1, by rw [HA.out, HH.out], hD_23s4.keep rCap_ok (Kp.sub fun b hb => Nat.lt_of_lt_of_le hb.2 (by omega)), Nat.le_refl _, b023s4⟩
  have t1 : decide (ho < 0) = false := decide_eq_false h1
  have h1' : 0 ≤ ho := by omega
  by_cases h2 : 65535 < ho
  · have t2 : decide (65535 < ho) = true := decide_eq_true h2
    have HH := Lib.hid (show mineH ho = 65535 by unfold mineH; rw [if_neg h1, if_pos h2])
    clear h1
    by_cases h6 : a ≤ 65535
    · have t6 : decide ((a : Int) ≤ 65535) = true := decide_eq_true (by omega)
      have HA := Lib.hid (show mineA a = a from if_pos h6)
      clear h6
      obtain ⟨W2, hW2, hO, b2⟩ := box1c W #[.int .i64 4, .int .i64 23456, .int .i64 65535, .int .u32 i, .slice none 0 0] 66
      have HW2 := Lib.hid hW2
      clear hW2
      have b02 := btr b0 b2 b0.size
      have hL2 := hL.below b2 hL.lt
      have hR2 := hR.below b2 hR.lt
      have hOl := hO.lt
      go_enter Tryd.func26, Tryd.ntmps26
      go_upto_region 1 with fail
      rw [HW.out]
      have c_hL0 := hL.cell 0
      have c_hL1 := hL.cell 1
      have c_hL2 := hL.cell 2
      have c_hL3 := hL.cell 3
      go_upto_region 2 with fail
      rw [HW2.out]
      clear c_hL0 c_hL1 c_hL2 c_hL3
      have c_hL0 := hL2.cell 0
      have c_hO1 := hO.cell 1
      have f_hO1 := hO.frozen 1
      have c_hO2 := hO.cell 2
      have f_hO2 := hO.frozen 2
      go_upto_region 4 with fail
      obtain ⟨w10, hw10⟩ : ∃ Wz_, W2.setCell ⟨W.heap.size, 1, none⟩ (.int .i64 a)= Wz_ := ⟨_, rfl⟩
      have hL_10 := hL2.far (p := ⟨W.heap.size, 1, none⟩) (by show _ ≠ W.heap.size; omega) (.int .i64 a)
      have hR_10 := hR2.far (p := ⟨W.heap.size, 1, none⟩) (by show _ ≠ W.heap.size; omega) (.int .i64 a)
      have hO_10 := hO.set_ 1 (.int .i64 a)
      simp only [List.setIfInBounds_toArray, List.set_cons_succ, List.set_cons_zero] at hO_10
      have b010 := b02.setCell (p := ⟨W.heap.size, 1, none⟩) (by show _ ≤ W.heap.size; omega) (.int .i64 a)
      have z_10 : W2.heap.size ≤ w10.heap.size := by rw [← hw10]; simp [World.setCell]
      rw [hw10] at hL_10 hR_10 hO_10 b010
      rw [hw10]
      clear hw10
      clear c_hL0 c_hO1 f_hO1 c_hO2 f_hO2
      have c_hL0 := hL_10.cell 0
      have c_hO1 := hO_10.cell 1
      have f_hO1 := hO_10.frozen 1
      have c_hO2 := hO_10.cell 2
      have f_hO2 := hO_10.frozen 2
      clear c_hL0
      have c_hL0 := hL_10.cell 0
      go_wp2_with fail
      refine (octetPut32 none 0 0 [] a _ BS.none_ (by simp) (by omega) (by omega)).mono ?_
      rintro _ w20 ⟨A3, n3, c3, rfl, o3, b20⟩
      clear c_hL0 c_hO1 f_hO1 c_hO2 f_hO2
      have b020 := btr b010 b20 b010.size
      have hL_20 := hL_10.below b20 hL_10.lt
      clear hL_10
      have hR_20 := hR_10.below b20 hR_10.lt
      clear hR_10
      have hO_20 := hO_10.below b20 hO_10.lt
      clear hO_10
      have c_hL0 := hL_20.cell 0
      have c_hO1 := hO_20.cell 1
      have f_hO1 := hO_20.frozen 1
      have c_hO2 := hO_20.cell 2
      have f_hO2 := hO_20.frozen 2
      rw [List.nil_append] at o3
      have hn3 : n3 = 4 := o3.1
      have hc3 := o3.cap
      subst hn3
      clear c_hL0
      have ca4 := (hO_20.alloc (.cells #[.int .i64 65, .slice A3 4 c3] 85)).cell 4
      have fa4 := (hO_20.alloc (.cells #[.int .i64 65, .slice A3 4 c3] 85)).frozen 4
      go_upto_region 5 with fail
      clear ca4 fa4
      obtain ⟨w21, hw21, hC, b21⟩ := box1c w20 #[.int .i64 65, .slice A3 4 c3] 85
      rw [hw21]
      have o4 := BF.own o3
      have hCl := hC.lt
      have hO20 := hO_20.lt
      have hR20 := hR_20.lt
      have o5 := o4.keep (S' := fun b => w10.heap.size ≤ b ∧ b < w21.heap.size) (fun b hb => ⟨⟨hb.1, Nat.lt_of_lt_of_le hb.2 (by omega)⟩, b21.block b hb.2⟩)
      have hD : DL rCap 2 w21 (fun b => w10.heap.size ≤ b ∧ b < w21.heap.size) (some ⟨w20.heap.size, 0, none⟩) 1 [(65, b32 a)] := DL.one rCap_ok hC ⟨b20.size, hCl⟩ ⟨A3, 4, c3, rfl, o5, hc3⟩
      clear hw21
      clear c_hO1 f_hO1 c_hO2 f_hO2
      have b021 := btr b020 b21 b020.size
      have hL_21 := hL_20.below b21 hL_20.lt
      clear hL_20
      have hR_21 := hR_20.below b21 hR_20.lt
      clear hR_20
      have hO_21 := hO_20.below b21 hO_20.lt
      clear hO_20
      have c_hO1 := hO_21.cell 1
      have f_hO1 := hO_21.frozen 1
      have c_hO2 := hO_21.cell 2
      have f_hO2 := hO_21.frozen 2
      obtain ⟨w22, hw22⟩ : ∃ Wz_, w21.setCell ⟨W.heap.size, 4, none⟩ (.slice (some ⟨w20.heap.size, 0, none⟩) 1 1)= Wz_ := ⟨_, rfl⟩
      have hL_22 := hL_21.far (p := ⟨W.heap.size, 4, none⟩) (by show _ ≠ W.heap.size; omega) (.slice (some ⟨w20.heap.size, 0, none⟩) 1 1)
      have hR_22 := hR_21.far (p := ⟨W.heap.size, 4, none⟩) (by show _ ≠ W.heap.size; omega) (.slice (some ⟨w20.heap.size, 0, none⟩) 1 1)
      have hO_22 := hO_21.set_ 4 (.slice (some ⟨w20.heap.size, 0, none⟩) 1 1)
      simp only [List.setIfInBounds_toArray, List.set_cons_succ, List.set_cons_zero] at hO_22
      have hD_22 := hD.keep rCap_ok (Kp.set (p := ⟨W.heap.size, 4, none⟩) (by intro b hb; have := hb.1; show b ≠ W.heap.size; omega) (.slice (some ⟨w20.heap.size, 0, none⟩) 1 1))
      have b022 := b021.setCell (p := ⟨W.heap.size, 4, none⟩) (by show _ ≤ W.heap.size; omega) (.slice (some ⟨w20.heap.size, 0, none⟩) 1 1)
      have z_22 : w21.heap.size ≤ w22.heap.size := by rw [← hw22]; simp [World.setCell]
      rw [hw22] at hL_22 hR_22 hO_22 hD_22 b022
      rw [hw22]
      clear hw22
      clear c_hO1 f_hO1 c_hO2 f_hO2
      clear hL_21
      clear hR_21
      clear hO_21
      have c_hO1 := hO_22.cell 1
      have f_hO1 := hO_22.frozen 1
      have c_hO2 := hO_22.cell 2
      have f_hO2 := hO_22.frozen 2
      clear c_hO1 c_hO2 f_hO1 f_hO2
      have c_hO0 := hO_22.cell 0
      have f_hO0 := hO_22.frozen 0
      have c_hO1 := hO_22.cell 1
      have f_hO1 := hO_22.frozen 1
      have c_hO2 := hO_22.cell 2
      have f_hO2 := hO_22.frozen 2
      have c_hO3 := hO_22.cell 3
      have f_hO3 := hO_22.frozen 3
      have c_hO4 := hO_22.cell 4
      have f_hO4 := hO_22.frozen 4
      have c_hR0 := hR_22.cell 0
      have f_hR0 := hR_22.frozen 0
      have c_hR1 := hR_22.cell 1
      have f_hR1 := hR_22.frozen 1
      have c_hR2 := hR_22.cell 2
      have f_hR2 := hR_22.frozen 2
      have c_hR3 := hR_22.cell 3
      have f_hR3 := hR_22.frozen 3
      have c_hR4 := hR_22.cell 4
      have f_hR4 := hR_22.frozen 4
      go_wp2_with fail
      obtain ⟨w23s0, hw23s0⟩ : ∃ Wz_, w22.setCell ⟨w.heap.size + 1, 0, none⟩ (.int .i64 4)= Wz_ := ⟨_, rfl⟩
      have hL_23s0 := hL_22.far (p := ⟨w.heap.size + 1, 0, none⟩) (by show _ ≠ w.heap.size + 1; omega) (.int .i64 4)
      have hR_23s0 := hR_22.set_ 0 (.int .i64 4)
      simp only [List.setIfInBounds_toArray, List.set_cons_succ, List.set_cons_zero] at hR_23s0
      have hO_23s0 := hO_22.far (p := ⟨w.heap.size + 1, 0, none⟩) (by show _ ≠ w.heap.size + 1; omega) (.int .i64 4)
      have hD_23s0 := hD_22.keep rCap_ok (Kp.set (p := ⟨w.heap.size + 1, 0, none⟩) (by intro b hb; have := hb.1; show b ≠ w.heap.size + 1; omega) (.int .i64 4))
      have b023s0 := b022.setCell (p := ⟨w.heap.size + 1, 0, none⟩) (by show _ ≤ w.heap.size + 1; omega) (.int .i64 4)
      have z_23s0 : w22.heap.size ≤ w23s0.heap.size := by rw [← hw23s0]; simp [World.setCell]
      rw [hw23s0] at hL_23s0 hR_23s0 hO_23s0 hD_23s0 b023s0
      rw [hw23s0]
      clear hw23s0
      clear c_hO0 f_hO0 c_hO1 f_hO1 c_hO2 f_hO2 c_hO3 f_hO3 c_hO4 f_hO4 c_hR0 f_hR0 c_hR1 f_hR1 c_hR2 f_hR2 c_hR3 f_hR3 c_hR4 f_hR4
      clear hL_22
      clear hR_22
      clear hO_22
      clear hD_22
      have c_hR0 := hR_23s0.cell 0
      have f_hR0 := hR_23s0.frozen 0
      have c_hR1 := hR_23s0.cell 1
      have f_hR1 := hR_23s0.frozen 1
      have c_hR2 := hR_23s0.cell 2
      have f_hR2 := hR_23s0.frozen 2
      have c_hR3 := hR_23s0.cell 3
      have f_hR3 := hR_23s0.frozen 3
      have c_hR4 := hR_23s0.cell 4
      have f_hR4 := hR_23s0.frozen 4
      have c_hO0 := hO_23s0.cell 0
      have f_hO0 := hO_23s0.frozen 0
      have c_hO1 := hO_23s0.cell 1
      have f_hO1 := hO_23s0.frozen 1
      have c_hO2 := hO_23s0.cell 2
      have f_hO2 := hO_23s0.frozen 2
      have c_hO3 := hO_23s0.cell 3
      have f_hO3 := hO_23s0.frozen 3
      have c_hO4 := hO_23s0.cell 4
      have f_hO4 := hO_23s0.frozen 4
      obtain ⟨w23s1, hw23s1⟩ : ∃ Wz_, w23s0.setCell ⟨w.heap.size + 1, 1, none⟩ (.int .i64 a)= Wz_ := ⟨_, rfl⟩
      have hL_23s1 := hL_23s0.far (p := ⟨w.heap.size + 1, 1, none⟩) (by show _ ≠ w.heap.size + 1; omega) (.int .i64 a)
      have hR_23s1 := hR_23s0.set_ 1 (.int .i64 a)
      simp only [List.setIfInBounds_toArray, List.set_cons_succ, List.set_cons_zero] at hR_23s1
      have hO_23s1 := hO_23s0.far (p := ⟨w.heap.size + 1, 1, none⟩) (by show _ ≠ w.heap.size + 1; omega) (.int .i64 a)
      have hD_23s1 := hD_23s0.keep rCap_ok (Kp.set (p := ⟨w.heap.size + 1, 1, none⟩) (by intro b hb; have := hb.1; show b ≠ w.heap.size + 1; omega) (.int .i64 a))
      have b023s1 := b023s0.setCell (p := ⟨w.heap.size + 1, 1, none⟩) (by show _ ≤ w.heap.size + 1; omega) (.int .i64 a)
      have z_23s1 : w23s0.heap.size ≤ w23s1.heap.size := by rw [← hw23s1]; simp [World.setCell]
      rw [hw23s1] at hL_23s1 hR_23s1 hO_23s1 hD_23s1 b023s1
      rw [hw23s1]
      clear hw23s1
      clear c_hO0 f_hO0 c_hO1 f_hO1 c_hO2 f_hO2 c_hO3 f_hO3 c_hO4 f_hO4 c_hR0 f_hR0 c_hR1 f_hR1 c_hR2 f_hR2 c_hR3 f_hR3 c_hR4 f_hR4
      clear hL_23s0
      clear hR_23s0
      clear hO_23s0
      clear hD_23s0
      have c_hR0 := hR_23s1.cell 0
      have f_hR0 := hR_23s1.frozen 0
      have c_hR1 := hR_23s1.cell 1
      have f_hR1 := hR_23s1.frozen 1
      have c_hR2 := hR_23s1.cell 2
      have f_hR2 := hR_23s1.frozen 2
      have c_hR3 := hR_23s1.cell 3
      have f_hR3 := hR_23s1.frozen 3
      have c_hR4 := hR_23s1.cell 4
      have f_hR4 := hR_23s1.frozen 4
      have c_hO0 := hO_23s1.cell 0
      have f_hO0 := hO_23s1.frozen 0
      have c_hO1 := hO_23s1.cell 1
      have f_hO1 := hO_23s1.frozen 1
      have c_hO2 := hO_23s1.cell 2
      have f_hO2 := hO_23s1.frozen 2
      have c_hO3 := hO_23s1.cell 3
      have f_hO3 := hO_23s1.frozen 3
      have c_hO4 := hO_23s1.cell 4
      have f_hO4 := hO_23s1.frozen 4
      obtain ⟨w23s2, hw23s2⟩ : ∃ Wz_, w23s1.setCell ⟨w.heap.size + 1, 2, none⟩ (.int .i64 65535)= Wz_ := ⟨_, rfl⟩
      have hL_23s2 := hL_23s1.far (p := ⟨w.heap.size + 1, 2, none⟩) (by show _ ≠ w.heap.size + 1; omega) (.int .i64 65535)
      have hR_23s2 := hR_23s1.set_ 2 (.int .i64 65535)
      simp only [List.setIfInBounds_toArray, List.set_cons_succ, List.set_cons_zero] at hR_23s2
      have hO_23s2 := hO_23s1.far (p := ⟨w.heap.size + 1, 2, none⟩) (by show _ ≠ w.heap.size + 1; omega) (.int .i64 65535)
      have hD_23s2 := hD_23s1.keep rCap_ok (Kp.set (p := ⟨w.heap.size + 1, 2, none⟩) (by intro b hb; have := hb.1; show b ≠ w.heap.size + 1; omega) (.int .i64 65535))
      have b023s2 := b023s1.setCell (p := ⟨w.heap.size + 1, 2, none⟩) (by show _ ≤ w.heap.size + 1; omega) (.int .i64 65535)
      have z_23s2 : w23s1.heap.size ≤ w23s2.heap.size := by rw [← hw23s2]; simp [World.setCell]
      rw [hw23s2] at hL_23s2 hR_23s2 hO_23s2 hD_23s2 b023s2
      rw [hw23s2]
      clear hw23s2
      clear c_hO0 f_hO0 c_hO1 f_hO1 c_hO2 f_hO2 c_hO3 f_hO3 c_hO4 f_hO4 c_hR0 f_hR0 c_hR1 f_hR1 c_hR2 f_hR2 c_hR3 f_hR3 c_hR4 f_hR4
      clear hL_23s1
      clear hR_23s1
      clear hO_23s1
      clear hD_23s1
      have c_hR0 := hR_23s2.cell 0
      have f_hR0 := hR_23s2.frozen 0
      have c_hR1 := hR_23s2.cell 1
      have f_hR1 := hR_23s2.frozen 1
      have c_hR2 := hR_23s2.cell 2
      have f_hR2 := hR_23s2.frozen 2
      have c_hR3 := hR_23s2.cell 3
      have f_hR3 := hR_23s2.frozen 3
      have c_hR4 := hR_23s2.cell 4
      have f_hR4 := hR_23s2.frozen 4
      have c_hO0 := hO_23s2.cell 0
      have f_hO0 := hO_23s2.frozen 0
      have c_hO1 := hO_23s2.cell 1
      have f_hO1 := hO_23s2.frozen 1
      have c_hO2 := hO_23s2.cell 2
      have f_hO2 := hO_23s2.frozen 2
      have c_hO3 := hO_23s2.cell 3
      have f_hO3 := hO_23s2.frozen 3
      have c_hO4 := hO_23s2.cell 4
      have f_hO4 := hO_23s2.frozen 4
      obtain ⟨w23s3, hw23s3⟩ : ∃ Wz_, w23s2.setCell ⟨w.heap.size + 1, 3, none⟩ (.int .u32 i)= Wz_ := ⟨_, rfl⟩
      have hL_23s3 := hL_23s2.far (p := ⟨w.heap.size + 1, 3, none⟩) (by show _ ≠ w.heap.size + 1; omega) (.int .u32 i)
      have hR_23s3 := hR_23s2.set_ 3 (.int .u32 i)
      simp only [List.setIfInBounds_toArray, List.set_cons_succ, List.set_cons_zero] at hR_23s3
      have hO_23s3 := hO_23s2.far (p := ⟨w.heap.size + 1, 3, none⟩) (by show _ ≠ w.heap.size + 1; omega) (.int .u32 i)
      have hD_23s3 := hD_23s2.keep rCap_ok (Kp.set (p := ⟨w.heap.size + 1, 3, none⟩) (by intro b hb; have := hb.1; show b ≠ w.heap.size + 1; omega) (.int .u32 i))
      have b023s3 := b023s2.setCell (p := ⟨w.heap.size + 1, 3, none⟩) (by show _ ≤ w.heap.size + 1; omega) (.int .u32 i)
      have z_23s3 : w23s2.heap.size ≤ w23s3.heap.size := by rw [← hw23s3]; simp [World.setCell]
      rw [hw23s3] at hL_23s3 hR_23s3 hO_23s3 hD_23s3 b023s3
      rw [hw23s3]
      clear hw23s3
      clear c_hO0 f_hO0 c_hO1 f_hO1 c_hO2 f_hO2 c_hO3 f_hO3 c_hO4 f_hO4 c_hR0 f_hR0 c_hR1 f_hR1 c_hR2 f_hR2 c_hR3 f_hR3 c_hR4 f_hR4
      clear hL_23s2
      clear hR_23s2
      clear hO_23s2
      clear hD_23s2
      have c_hR0 := hR_23s3.cell 0
      have f_hR0 := hR_23s3.frozen 0
      have c_hR1 := hR_23s3.cell 1
      have f_hR1 := hR_23s3.frozen 1
      have c_hR2 := hR_23s3.cell 2
      have f_hR2 := hR_23s3.frozen 2
      have c_hR3 := hR_23s3.cell 3
      have f_hR3 := hR_23s3.frozen 3
      have c_hR4 := hR_23s3.cell 4
      have f_hR4 := hR_23s3.frozen 4
      have c_hO0 := hO_23s3.cell 0
      have f_hO0 := hO_23s3.frozen 0
      have c_hO1 := hO_23s3.cell 1
      have f_hO1 := hO_23s3.frozen 1
      have c_hO2 := hO_23s3.cell 2
      have f_hO2 := hO_23s3.frozen 2
      have c_hO3 := hO_23s3.cell 3
      have f_hO3 := hO_23s3.frozen 3
      have c_hO4 := hO_23s3.cell 4
      have f_hO4 := hO_23s3.frozen 4
      obtain ⟨w23s4, hw23s4⟩ : ∃ Wz_, w23s3.setCell ⟨w.heap.size + 1, 4, none⟩ (.slice (some ⟨w20.heap.size, 0, none⟩) 1 1)= Wz_ := ⟨_, rfl⟩
      have hL_23s4 := hL_23s3.far (p := ⟨w.heap.size + 1, 4, none⟩) (by show _ ≠ w.heap.size + 1; omega) (.slice (some ⟨w20.heap.size, 0, none⟩) 1 1)
      have hR_23s4 := hR_23s3.set_ 4 (.slice (some ⟨w20.heap.size, 0, none⟩) 1 1)
      simp only [List.setIfInBounds_toArray, List.set_cons_succ, List.set_cons_zero] at hR_23s4
      have hO_23s4 := hO_23s3.far (p := ⟨w.heap.size + 1, 4, none⟩) (by show _ ≠ w.heap.size + 1; omega) (.slice (some ⟨w20.heap.size, 0, none⟩) 1 1)
      have hD_23s4 := hD_23s3.keep rCap_ok (Kp.set (p := ⟨w.heap.size + 1, 4, none⟩) (by intro b hb; have := hb.1; show b ≠ w.heap.size + 1; omega) (.slice (some ⟨w20.heap.size, 0, none⟩) 1 1))
      have b023s4 := b023s3.setCell (p := ⟨w.heap.size + 1, 4, none⟩) (by show _ ≤ w.heap.size + 1; omega) (.slice (some ⟨w20.heap.size, 0, none⟩) 1 1)
      have z_23s4 : w23s3.heap.size ≤ w23s4.heap.size := by rw [← hw23s4]; simp [World.setCell]
      rw [hw23s4] at hL_23s4 hR_23s4 hO_23s4 hD_23s4 b023s4
      rw [hw23s4]
      clear hw23s4
      clear c_hO0 f_hO0 c_hO1 f_hO1 c_hO2 f_hO2 c_hO3 f_hO3 c_hO4 f_hO4 c_hR0 f_hR0 c_hR1 f_hR1 c_hR2 f_hR2 c_hR3 f_hR3 c_hR4 f_hR4
      clear hL_23s3
      clear hR_23s3
      clear hO_23s3
      clear hD_23s3
      have c_hR0 := hR_23s4.cell 0
      have f_hR0 := hR_23s4.frozen 0
      have c_hR1 := hR_23s4.cell 1
      have f_hR1 := hR_23s4.frozen 1
      have c_hR2 := hR_23s4.cell 2
      have f_hR2 := hR_23s4.frozen 2
      have c_hR3 := hR_23s4.cell 3
      have f_hR3 := hR_23s4.frozen 3
      have c_hR4 := hR_23s4.cell 4
      have f_hR4 := hR_23s4.frozen 4
      have c_hO0 := hO_23s4.cell 0
      have f_hO0 := hO_23s4.frozen 0
      have c_hO1 := hO_23s4.cell 1
      have f_hO1 := hO_23s4.frozen 1
      have c_hO2 := hO_23s4.cell 2
      have f_hO2 := hO_23s4.frozen 2
      have c_hO3 := hO_23s4.cell 3
      have f_hO3 := hO_23s4.frozen 3
      have c_hO4 := hO_23s4.cell 4
      have f_hO4 := hO_23s4.frozen 4
      refine bodyPost_ret (opn_ret rfl _ _ (w.heap.size + 1) _ _ _ _ _ rfl hR_23s4) rfl ?_
      exact ⟨some ⟨w20.heap.size, 0, none⟩, 1, by rw [HA.out, HH.out], hD_23s4.keep rCap_ok (Kp.sub fun b hb => Nat.lt_of_lt_of_le hb.2 (by omega)), Nat.le_refl _, b023s4⟩
    · have t6 : decide ((a : Int) ≤ 65535) = false := decide_eq_false (by omega)
      have HA := Lib.hid (show mineA a = 23456 from if_neg h6)
      clear h6
      obtain ⟨W2, hW2, hO, b2⟩ := box1c W #[.int .i64 4, .int .i64 23456, .int .i64 65535, .int .u32 i, .slice none 0 0] 66
      have HW2 := Lib.hid hW2
      clear hW2
      have b02 := btr b0 b2 b0.size
      have hL2 := hL.below b2 hL.lt
      have hR2 := hR.below b2 hR.lt
      have hOl := hO.lt
      go_enter Tryd.func26, Tryd.ntmps26
      go_upto_region 1 with fail
      rw [HW.out]
      have c_hL0 := hL.cell 0
      have c_hL1 := hL.cell 1
      have c_hL2 := hL.cell 2
      have c_hL3 := hL.cell 3
      go_upto_region 2 with fail
      rw [HW2.out]
      clear c_hL0 c_hL1 c_hL2 c_hL3
      have c_hL0 := hL2.cell 0
      go_upto_region 4 with fail
      clear c_hL0
      have c_hL0 := hL2.cell 0
      go_wp2_with fail
      refine (octetPut32 none 0 0 [] a _ BS.none_ (by simp) (by omega) (by omega)).mono ?_
      rintro _ w20 ⟨A3, n3, c3, rfl, o3, b20⟩
      clear c_hL0
      have b020 := btr b02 b20 b02.size
      have hL_20 := hL2.below b20 hL2.lt
      have hR_20 := hR2.below b20 hR2.lt
      have hO_20 := hO.below b20 hO.lt
      have c_hL0 := hL_20.cell 0
      rw [List.nil_append] at o3
      have hn3 : n3 = 4 := o3.1
      have hc3 := o3.cap
      subst hn3
      clear c_hL0
      have ca4 := (hO_20.alloc (.cells #[.int .i64 65, .slice A3 4 c3] 85)).cell 4
      have fa4 := (hO_20.alloc (.cells #[.int .i64 65, .slice A3 4 c3] 85)).frozen 4
      go_upto_region 5 with fail
      clear ca4 fa4
      obtain ⟨w21, hw21, hC, b21⟩ := box1c w20 #[.int .i64 65, .slice A3 4 c3] 85
      rw [hw21]
      have o4 := BF.own o3
      have hCl := hC.lt
      have hO20 := hO_20.lt
      have hR20 := hR_20.lt
      have o5 := o4.keep (S' := fun b => W2.heap.size ≤ b ∧ b < w21.heap.size) (fun b hb => ⟨⟨hb.1, Nat.lt_of_lt_of_le hb.2 (by omega)⟩, b21.block b hb.2⟩)
      have hD : DL rCap 2 w21 (fun b => W2.heap.size ≤ b ∧ b < w21.heap.size) (some ⟨w20.heap.size, 0, none⟩) 1 [(65, b32 a)] := DL.one rCap_ok hC ⟨b20.size, hCl⟩ ⟨A3, 4, c3, rfl, o5, hc3⟩
      clear hw21
      have b021 := btr b020 b21 b020.size
      have hL_21 := hL_20.below b21 hL_20.lt
      clear hL_20
      have hR_21 := hR_20.below b21 hR_20.lt
      clear hR_20
      have hO_21 := hO_20.below b21 hO_20.lt
      clear hO_20
      obtain ⟨w22, hw22⟩ : ∃ Wz_, w21.setCell ⟨W.heap.size, 4, none⟩ (.slice (some ⟨w20.heap.size, 0, none⟩) 1 1)= Wz_ := ⟨_, rfl⟩
      have hL_22 := hL_21.far (p := ⟨W.heap.size, 4, none⟩) (by show _ ≠ W.heap.size; omega) (.slice (some ⟨w20.heap.size, 0, none⟩) 1 1)
      have hR_22 := hR_21.far (p := ⟨W.heap.size, 4, none⟩) (by show _ ≠ W.heap.size; omega) (.slice (some ⟨w20.heap.size, 0, none⟩) 1 1)
      have hO_22 := hO_21.set_ 4 (.slice (some ⟨w20.heap.size, 0, none⟩) 1 1)
      simp only [List.setIfInBounds_toArray, List.set_cons_succ, List.set_cons_zero] at hO_22
      have hD_22 := hD.keep rCap_ok (Kp.set (p := ⟨W.heap.size, 4, none⟩) (by intro b hb; have := hb.1; show b ≠ W.heap.size; omega) (.slice (some ⟨w20.heap.size, 0, none⟩) 1 1))
      have b022 := b021.setCell (p := ⟨W.heap.size, 4, none⟩) (by show _ ≤ W.heap.size; omega) (.slice (some ⟨w20.heap.size, 0, none⟩) 1 1)
      have z_22 : w21.heap.size ≤ w22.heap.size := by rw [← hw22]; simp [World.setCell]
      rw [hw22] at hL_22 hR_22 hO_22 hD_22 b022
      rw [hw22]
      clear hw22
      clear hL_21
      clear hR_21
      clear hO_21
      have c_hO0 := hO_22.cell 0
      have f_hO0 := hO_22.frozen 0
      have c_hO1 := hO_22.cell 1
      have f_hO1 := hO_22.frozen 1
      have c_hO2 := hO_22.cell 2
      have f_hO2 := hO_22.frozen 2
      have c_hO3 := hO_22.cell 3
      have f_hO3 := hO_22.frozen 3
      have c_hO4 := hO_22.cell 4
      have f_hO4 := hO_22.frozen 4
      have c_hR0 := hR_22.cell 0
      have f_hR0 := hR_22.frozen 0
      have c_hR1 := hR_22.cell 1
      have f_hR1 := hR_22.frozen 1
      have c_hR2 := hR_22.cell 2
      have f_hR2 := hR_22.frozen 2
      have c_hR3 := hR_22.cell 3
      have f_hR3 := hR_22.frozen 3
      have c_hR4 := hR_22.cell 4
      have f_hR4 := hR_22.frozen 4
      go_wp2_with fail
      obtain ⟨w23s0, hw23s0⟩ : ∃ Wz_, w22.setCell ⟨w.heap.size + 1, 0, none⟩ (.int .i64 4)= Wz_ := ⟨_, rfl⟩
      have hL_23s0 := hL_22.far (p := ⟨w.heap.size + 1, 0, none⟩) (by show _ ≠ w.heap.size + 1; omega) (.int .i64 4)
      have hR_23s0 := hR_22.set_ 0 (.int .i64 4)
      simp only [List.setIfInBounds_toArray, List.set_cons_succ, List.set_cons_zero] at hR_23s0
      have hO_23s0 := hO_22.far (p := ⟨w.heap.size + 1, 0, none⟩) (by show _ ≠ w.heap.size + 1; omega) (.int .i64 4)
      have hD_23s0 := hD_22.keep rCap_ok (Kp.set (p := ⟨w.heap.size + 1, 0, none⟩) (by intro b hb; have := hb.1; show b ≠ w.heap.size + 1; omega) (.int .i64 4))
      have b023s0 := b022.setCell (p := ⟨w.heap.size + 1, 0, none⟩) (by show _ ≤ w.heap.size + 1; omega) (.int .i64 4)
      have z_23s0 : w22.heap.size ≤ w23s0.heap.size := by rw [← hw23s0]; simp [World.setCell]
      rw [hw23s0] at hL_23s0 hR_23s0 hO_23s0 hD_23s0 b023s0
      rw [hw23s0]
      clear hw23s0
      clear c_hO0 f_hO0 c_hO1 f_hO1 c_hO2 f_hO2 c_hO3 f_hO3 c_hO4 f_hO4 c_hR0 f_hR0 c_hR1 f_hR1 c_hR2 f_hR2 c_hR3 f_hR3 c_hR4 f_hR4
      clear hL_22
      clear hR_22
      clear hO_22
      clear hD_22
      have c_hR0 := hR_23s0.cell 0
      have f_hR0 := hR_23s0.frozen 0
      have c_hR1 := hR_23s0.cell 1
      have f_hR1 := hR_23s0.frozen 1
      have c_hR2 := hR_23s0.cell 2
      have f_hR2 := hR_23s0.frozen 2
      have c_hR3 := hR_23s0.cell 3
      have f_hR3 := hR_23s0.frozen 3
      have c_hR4 := hR_23s0.cell 4
      have f_hR4 := hR_23s0.frozen 4
      have c_hO0 := hO_23s0.cell 0
      have f_hO0 := hO_23s0.frozen 0
      have c_hO1 := hO_23s0.cell 1
      have f_hO1 := hO_23s0.frozen 1
      have c_hO2 := hO_23s0.cell 2
      have f_hO2 := hO_23s0.frozen 2
      have c_hO3 := hO_23s0.cell 3
      have f_hO3 := hO_23s0.frozen 3
      have c_hO4 := hO_23s0.cell 4
      have f_hO4 := hO_23s0.frozen 4
      obtain ⟨w23s1, hw23s1⟩ : ∃ Wz_, w23s0.setCell ⟨w.heap.size + 1, 1, none⟩ (.int .i64 23456)= Wz_ := ⟨_, rfl⟩
      have hL_23s1 := hL_23s0.far (p := ⟨w.heap.size + 1, 1, none⟩) (by show _ ≠ w.heap.size + 1; omega) (.int .i64 23456)
      have hR_23s1 := hR_23s0.set_ 1 (.int .i64 23456)
      simp only [List.setIfInBounds_toArray, List.set_cons_succ, List.set_cons_zero] at hR_23s1
      have hO_23s1 := hO_23s0.far (p := ⟨w.heap.size + 1, 1, none⟩) (by show _ ≠ w.heap.size + 1; omega) (.int .i64 23456)
      have hD_23s1 := hD_23s0.keep rCap_ok (Kp.set (p := ⟨w.heap.size + 1, 1, none⟩) (by intro b hb; have := hb.1; show b ≠ w.heap.size + 1; omega) (.int .i64 23456))
      have b023s1 := b023s0.setCell (p := ⟨w.heap.size + 1, 1, none⟩) (by show _ ≤ w.heap.size + 1; omega) (.int .i64 23456)
      have z_23s1 : w23s0.heap.size ≤ w23s1.heap.size := by rw [← hw23s1]; simp [World.setCell]
      rw [hw23s1] at hL_23s1 hR_23s1 hO_23s1 hD_23s1 b023s1
      rw [hw23s1]
      clear hw23s1
      clear c_hO0 f_hO0 c_hO1 f_hO1 c_hO2 f_hO2 c_hO3 f_hO3 c_hO4 f_hO4 c_hR0 f_hR0 c_hR1 f_hR1 c_hR2 f_hR2 c_hR3 f_hR3 c_hR4 f_hR4
      clear hL_23s0
      clear hR_23s0
      clear hO_23s0
      clear hD_23s0
      have c_hR0 := hR_23s1.cell 0
      have f_hR0 := hR_23s1.frozen 0
      have c_hR1 := hR_23s1.cell 1
      have f_hR1 := hR_23s1.frozen 1
      have c_hR2 := hR_23s1.cell 2
      have f_hR2 := hR_23s1.frozen 2
      have c_hR3 := hR_23s1.cell 3
      have f_hR3 := hR_23s1.frozen 3
      have c_hR4 := hR_23s1.cell 4
      have f_hR4 := hR_23s1.frozen 4
      have c_hO0 := hO_23s1.cell 0
      have f_hO0 := hO_23s1.frozen 0
      have c_hO1 := hO_23s1.cell 1
      have f_hO1 := hO_23s1.frozen 1
      have c_hO2 := hO_23s1.cell 2
      have f_hO2 := hO_23s1.frozen 2
      have c_hO3 := hO_23s1.cell 3
      have f_hO3 := hO_23s1.frozen 3
      have c_hO4 := hO_23s1.cell 4
      have f_hO4 := hO_23s1.frozen 4
      obtain ⟨w23s2, hw23s2⟩ : ∃ Wz_, w23s1.setCell ⟨w.heap.size + 1, 2, none⟩ (.int .i64 65535)= Wz_ := ⟨_, rfl⟩
      have hL_23s2 := hL_23s1.far (p := ⟨w.heap.size + 1, 2, none⟩) (by show _ ≠ w.heap.size + 1; omega) (.int .i64 65535)
      have hR_23s2 := hR_23s1.set_ 2 (.int .i64 65535)
      simp only [List.setIfInBounds_toArray, List.set_cons_succ, List.set_cons_zero] at hR_23s2
      have hO_23s2 := hO_23s1.far (p := ⟨w.heap.size + 1, 2, none⟩) (by show _ ≠ w.heap.size + 1; omega) (.int .i64 65535)
      have hD_23s2 := hD_23s1.keep rCap_ok (Kp.set (p := ⟨w.heap.size + 1, 2, none⟩) (by intro b hb; have := hb.1; show b ≠ w.heap.size + 1; omega) (.int .i64 65535))
      have b023s2 := b023s1.setCell (p := ⟨w.heap.size + 1, 2, none⟩) (by show _ ≤ w.heap.size + 1; omega) (.int .i64 65535)
      have z_23s2 : w23s1.heap.size ≤ w23s2.heap.size := by rw [← hw23s2]; simp [World.setCell]
      rw [hw23s2] at hL_23s2 hR_23s2 hO_23s2 hD_23s2 b023s2
      rw [hw23s2]
      clear hw23s2
      clear c_hO0 f_hO0 c_hO1 f_hO1 c_hO2 f_hO2 c_hO3 f_hO3 c_hO4 f_hO4 c_hR0 f_hR0 c_hR1 f_hR1 c_hR2 f_hR2 c_hR3 f_hR3 c_hR4 f_hR4
      clear hL_23s1
      clear hR_23s1
      clear hO_23s1
      clear hD_23s1
      have c_hR0 := hR_23s2.cell 0
      have f_hR0 := hR_23s2.frozen 0
      have c_hR1 := hR_23s2.cell 1
      have f_hR1 := hR_23s2.frozen 1
      have c_hR2 := hR_23s2.cell 2
      have f_hR2 := hR_23s2.frozen 2
      have c_hR3 := hR_23s2.cell 3
      have f_hR3 := hR_23s2.frozen 3
      have c_hR4 := hR_23s2.cell 4
      have f_hR4 := hR_23s2.frozen 4
      have c_hO0 := hO_23s2.cell 0
      have f_hO0 := hO_23s2.frozen 0
      have c_hO1 := hO_23s2.cell 1
      have f_hO1 := hO_23s2.frozen 1
      have c_hO2 := hO_23s2.cell 2
      have f_hO2 := hO_23s2.frozen 2
      have c_hO3 := hO_23s2.cell 3
      have f_hO3 := hO_23s2.frozen 3
      have c_hO4 := hO_23s2.cell 4
      have f_hO4 := hO_23s2.frozen 4
      obtain ⟨w23s3, hw23s3⟩ : ∃ Wz_, w23s2.setCell ⟨w.heap.size + 1, 3, none⟩ (.int .u32 i)= Wz_ := ⟨_, rfl⟩
      have hL_23s3 := hL_23s2.far (p := ⟨w.heap.size + 1, 3, none⟩) (by show _ ≠ w.heap.size + 1; omega) (.int .u32 i)
      have hR_23s3 := hR_23s2.set_ 3 (.int .u32 i)
      simp only [List.setIfInBounds_toArray, List.set_cons_succ, List.set_cons_zero] at hR_23s3
      have hO_23s3 := hO_23s2.far (p := ⟨w.heap.size + 1, 3, none⟩) (by show _ ≠ w.heap.size + 1; omega) (.int .u32 i)
      have hD_23s3 := hD_23s2.keep rCap_ok (Kp.set (p := ⟨w.heap.size + 1, 3, none⟩) (by intro b hb; have := hb.1; show b ≠ w.heap.size + 1; omega) (.int .u32 i))
      have b023s3 := b023s2.setCell (p := ⟨w.heap.size + 1, 3, none⟩) (by show _ ≤ w.heap.size + 1; omega) (.int .u32 i)
      have z_23s3 : w23s2.heap.size ≤ w23s3.heap.size := by rw [← hw23s3]; simp [World.setCell]
      rw [hw23s3] at hL_23s3 hR_23s3 hO_23s3 hD_23s3 b023s3
      rw [hw23s3]
      clear hw23s3
      clear c_hO0 f_hO0 c_hO1 f_hO1 c_hO2 f_hO2 c_hO3 f_hO3 c_hO4 f_hO4 c_hR0 f_hR0 c_hR1 f_hR1 c_hR2 f_hR2 c_hR3 f_hR3 c_hR4 f_hR4
      clear hL_23s2
      clear hR_23s2
      clear hO_23s2
      clear hD_23s2
      have c_hR0 := hR_23s3.cell 0
      have f_hR0 := hR_23s3.frozen 0
      have c_hR1 := hR_23s3.cell 1
      have f_hR1 := hR_23s3.frozen 1
      have c_hR2 := hR_23s3.cell 2
      have f_hR2 := hR_23s3.frozen 2
      have c_hR3 := hR_23s3.cell 3
      have f_hR3 := hR_23s3.frozen 3
      have c_hR4 := hR_23s3.cell 4
      have f_hR4 := hR_23s3.frozen 4
      have c_hO0 := hO_23s3.cell 0
      have f_hO0 := hO_23s3.frozen 0
      have c_hO1 := hO_23s3.cell 1
      have f_hO1 := hO_23s3.frozen 1
      have c_hO2 := hO_23s3.cell 2
      have f_hO2 := hO_23s3.frozen 2
      have c_hO3 := hO_23s3.cell 3
      have f_hO3 := hO_23s3.frozen 3
      have c_hO4 := hO_23s3.cell 4
      have f_hO4 := hO_23s3.frozen 4
      obtain ⟨w23s4, hw23s4⟩ : ∃ Wz_, w23s3.setCell ⟨w.heap.size + 1, 4, none⟩ (.slice (some ⟨w20.heap.size, 0, none⟩) 1 1)= Wz_ := ⟨_, rfl⟩
      have hL_23s4 := hL_23s3.far (p := ⟨w.heap.size + 1, 4, none⟩) (by show _ ≠ w.heap.size + 1; omega) (.slice (some ⟨w20.heap.size, 0, none⟩) 1 1)
      have hR_23s4 := hR_23s3.set_ 4 (.slice (some ⟨w20.heap.size, 0, none⟩) 1 1)
      simp only [List.setIfInBounds_toArray, List.set_cons_succ, List.set_cons_zero] at hR_23s4
      have hO_23s4 := hO_23s3.far (p := ⟨w.heap.size + 1, 4, none⟩) (by show _ ≠ w.heap.size + 1; omega) (.slice (some ⟨w20.heap.size, 0, none⟩) 1 1)
      have hD_23s4 := hD_23s3.keep rCap_ok (Kp.set (p := ⟨w.heap.size + 1, 4, none⟩) (by intro b hb; have := hb.1; show b ≠ w.heap.size + 1; omega) (.slice (some ⟨w20.heap.size, 0, none⟩) 1 1))
      have b023s4 := b023s3.setCell (p := ⟨w.heap.size + 1, 4, none⟩) (by show _ ≤ w.heap.size + 1; omega) (.slice (some ⟨w20.heap.size, 0, none⟩) 1 1)
      have z_23s4 : w23s3.heap.size ≤ w23s4.heap.size := by rw [← hw23s4]; simp [World.setCell]
      rw [hw23s4] at hL_23s4 hR_23s4 hO_23s4 hD_23s4 b023s4
      rw [hw23s4]
      clear hw23s4
      clear c_hO0 f_hO0 c_hO1 f_hO1 c_hO2 f_hO2 c_hO3 f_hO3 c_hO4 f_hO4 c_hR0 f_hR0 c_hR1 f_hR1 c_hR2 f_hR2 c_hR3 f_hR3 c_hR4 f_hR4
      clear hL_23s3
      clear hR_23s3
      clear hO_23s3
      clear hD_23s3
      have c_hR0 := hR_23s4.cell 0
      have f_hR0 := hR_23s4.frozen 0
      have c_hR1 := hR_23s4.cell 1
      have f_hR1 := hR_23s4.frozen 1
      have c_hR2 := hR_23s4.cell 2
      have f_hR2 := hR_23s4.frozen 2
      have c_hR3 := hR_23s4.cell 3
      have f_hR3 := hR_23s4.frozen 3
      have c_hR4 := hR_23s4.cell 4
      have f_hR4 := hR_23s4.frozen 4
      have c_hO0 := hO_23s4.cell 0
      have f_hO0 := hO_23s4.frozen 0
      have c_hO1 := hO_23s4.cell 1
      have f_hO1 := hO_23s4.frozen 1
      have c_hO2 := hO_23s4.cell 2
      have f_hO2 := hO_23s4.frozen 2
      have c_hO3 := hO_23s4.cell 3
      have f_hO3 := hO_23s4.frozen 3
      have c_hO4 := hO_23s4.cell 4
      have f_hO4 := hO_23s4.frozen 4
      refine bodyPost_ret (opn_ret rfl _ _ (w.heap.size + 1) _ _ _ _ _ rfl hR_23s4) rfl ?_
      exact ⟨some ⟨w20.heap.size, 0, none⟩, 1, by rw [HA.out, HH.out], hD_23s4.keep rCap_ok (Kp.sub fun b hb => Nat.lt_of_lt_of_le hb.2 (by omega)), Nat.le_refl _, b023s4⟩
  · have t2 : decide (65535 < ho) = false := decide_eq_false h2
    have HH := Lib.hid (show mineH ho = ho by unfold mineH; rw [if_neg h1, if_neg h2])
    have h2' : ho ≤ 65535 := by omega
    clear h1 h2
    by_cases h6 : a ≤ 65535
    · have t6 : decide ((a : Int) ≤ 65535) = true := decide_eq_true (by omega)
      have HA := Lib.hid (show mineA a = a from if_pos h6)
      clear h6
      obtain ⟨W2, hW2, hO, b2⟩ := box1c W #[.int .i64 4, .int .i64 23456, .int .i64 ho, .int .u32 i, .slice none 0 0] 66
      have HW2 := Lib.hid hW2
      clear hW2
      have b02 := btr b0 b2 b0.size
      have hL2 := hL.below b2 hL.lt
      have hR2 := hR.below b2 hR.lt
      have hOl := hO.lt
      go_enter Tryd.func26, Tryd.ntmps26
      go_upto_region 1 with fail
      rw [HW.out]
      have c_hL0 := hL.cell 0
      have c_hL1 := hL.cell 1
      have c_hL2 := hL.cell 2
      have c_hL3 := hL.cell 3
      go_upto_region 2 with fail
      rw [HW2.out]
      clear c_hL0 c_hL1 c_hL2 c_hL3
      have c_hL0 := hL2.cell 0
      have c_hO1 := hO.cell 1
      have f_hO1 := hO.frozen 1
      have c_hO2 := hO.cell 2
      have f_hO2 := hO.frozen 2
      go_upto_region 4 with fail
      obtain ⟨w10, hw10⟩ : ∃ Wz_, W2.setCell ⟨W.heap.size, 1, none⟩ (.int .i64 a)= Wz_ := ⟨_, rfl⟩
      have hL_10 := hL2.far (p := ⟨W.heap.size, 1, none⟩) (by show _ ≠ W.heap.size; omega) (.int .i64 a)
      have hR_10 := hR2.far (p := ⟨W.heap.size, 1, none⟩) (by show _ ≠ W.heap.size; omega) (.int .i64 a)
      have hO_10 := hO.set_ 1 (.int .i64 a)
      simp only [List.setIfInBounds_toArray, List.set_cons_succ, List.set_cons_zero] at hO_10
      have b010 := b02.setCell (p := ⟨W.heap.size, 1, none⟩) (by show _ ≤ W.heap.size; omega) (.int .i64 a)
      have z_10 : W2.heap.size ≤ w10.heap.size := by rw [← hw10]; simp [World.setCell]
      rw [hw10] at hL_10 hR_10 hO_10 b010
      rw [hw10]
      clear hw10
      clear c_hL0 c_hO1 f_hO1 c_hO2 f_hO2
      have c_hL0 := hL_10.cell 0
      have c_hO1 := hO_10.cell 1
      have f_hO1 := hO_10.frozen 1
      have c_hO2 := hO_10.cell 2
      have f_hO2 := hO_10.frozen 2
      clear c_hL0
      have c_hL0 := hL_10.cell 0
      go_wp2_with fail
      refine (octetPut32 none 0 0 [] a _ BS.none_ (by simp) (by omega) (by omega)).mono ?_
      rintro _ w20 ⟨A3, n3, c3, rfl, o3, b20⟩
      clear c_hL0 c_hO1 f_hO1 c_hO2 f_hO2
      have b020 := btr b010 b20 b010.size
      have hL_20 := hL_10.below b20 hL_10.lt
      clear hL_10
      have hR_20 := hR_10.below b20 hR_10.lt
      clear hR_10
      have hO_20 := hO_10.below b20 hO_10.lt
      clear hO_10
      have c_hL0 := hL_20.cell 0
      have c_hO1 := hO_20.cell 1
      have f_hO1 := hO_20.frozen 1
      have c_hO2 := hO_20.cell 2
      have f_hO2 := hO_20.frozen 2
      rw [List.nil_append] at o3
      have hn3 : n3 = 4 := o3.1
      have hc3 := o3.cap
      subst hn3
      clear c_hL0
      have ca4 := (hO_20.alloc (.cells #[.int .i64 65, .slice A3 4 c3] 85)).cell 4
      have fa4 := (hO_20.alloc (.cells #[.int .i64 65, .slice A3 4 c3] 85)).frozen 4
      go_upto_region 5 with fail
      clear ca4 fa4
      obtain ⟨w21, hw21, hC, b21⟩ := box1c w20 #[.int .i64 65, .slice A3 4 c3] 85
      rw [hw21]
      have o4 := BF.own o3
      have hCl := hC.lt
      have hO20 := hO_20.lt
      have hR20 := hR_20.lt
      have o5 := o4.keep (S' := fun b => w10.heap.size ≤ b ∧ b < w21.heap.size) (fun b hb => ⟨⟨hb.1, Nat.lt_of_lt_of_le hb.2 (by omega)⟩, b21.block b hb.2⟩)
      have hD : DL rCap 2 w21 (fun b => w10.heap.size ≤ b ∧ b < w21.heap.size) (some ⟨w20.heap.size, 0, none⟩) 1 [(65, b32 a)] := DL.one rCap_ok hC ⟨b20.size, hCl⟩ ⟨A3, 4, c3, rfl, o5, hc3⟩
      clear hw21
      clear c_hO1 f_hO1 c_hO2 f_hO2
      have b021 := btr b020 b21 b020.size
      have hL_21 := hL_20.below b21 hL_20.lt
      clear hL_20
      have hR_21 := hR_20.below b21 hR_20.lt
      clear hR_20
      have hO_21 := hO_20.below b21 hO_20.lt
      clear hO_20
      have c_hO1 := hO_21.cell 1
      have f_hO1 := hO_21.frozen 1
      have c_hO2 := hO_21.cell 2
      have f_hO2 := hO_21.frozen 2
      obtain ⟨w22, hw22⟩ : ∃ Wz_, w21.setCell ⟨W.heap.size, 4, none⟩ (.slice (some ⟨w20.heap.size, 0, none⟩) 1 1)= Wz_ := ⟨_, rfl⟩
      have hL_22 := hL_21.far (p := ⟨W.heap.size, 4, none⟩) (by show _ ≠ W.heap.size; omega) (.slice (some ⟨w20.heap.size, 0, none⟩) 1 1)
      have hR_22 := hR_21.far (p := ⟨W.heap.size, 4, none⟩) (by show _ ≠ W.heap.size; omega) (.slice (some ⟨w20.heap.size, 0, none⟩) 1 1)
      have hO_22 := hO_21.set_ 4 (.slice (some ⟨w20.heap.size, 0, none⟩) 1 1)
      simp only [List.setIfInBounds_toArray, List.set_cons_succ, List.set_cons_zero] at hO_22
      have hD_22 := hD.keep rCap_ok (Kp.set (p := ⟨W.heap.size, 4, none⟩) (by intro b hb; have := hb.1; show b ≠ W.heap.size; omega) (.slice (some ⟨w20.heap.size, 0, none⟩) 1 1))
      have b022 := b021.setCell (p := ⟨W.heap.size, 4, none⟩) (by show _ ≤ W.heap.size; omega) (.slice (some ⟨w20.heap.size, 0, none⟩) 1 1)
      have z_22 : w21.heap.size ≤ w22.heap.size := by rw [← hw22]; simp [World.setCell]
      rw [hw22] at hL_22 hR_22 hO_22 hD_22 b022
      rw [hw22]
      clear hw22
      clear c_hO1 f_hO1 c_hO2 f_hO2
      clear hL_21
      clear hR_21
      clear hO_21
      have c_hO1 := hO_22.cell 1
      have f_hO1 := hO_22.frozen 1
      have c_hO2 := hO_22.cell 2
      have f_hO2 := hO_22.frozen 2
      clear c_hO1 c_hO2 f_hO1 f_hO2
      have c_hO0 := hO_22.cell 0
      have f_hO0 := hO_22.frozen 0
      have c_hO1 := hO_22.cell 1
      have f_hO1 := hO_22.frozen 1
      have c_hO2 := hO_22.cell 2
      have f_hO2 := hO_22.frozen 2
      have c_hO3 := hO_22.cell 3
      have f_hO3 := hO_22.frozen 3
      have c_hO4 := hO_22.cell 4
      have f_hO4 := hO_22.frozen 4
      have c_hR0 := hR_22.cell 0
      have f_hR0 := hR_22.frozen 0
      have c_hR1 := hR_22.cell 1
      have f_hR1 := hR_22.frozen 1
      have c_hR2 := hR_22.cell 2
      have f_hR2 := hR_22.frozen 2
      have c_hR3 := hR_22.cell 3
      have f_hR3 := hR_22.frozen 3
      have c_hR4 := hR_22.cell 4
      have f_hR4 := hR_22.frozen 4
      go_wp2_with fail
      obtain ⟨w23s0, hw23s0⟩ : ∃ Wz_, w22.setCell ⟨w.heap.size + 1, 0, none⟩ (.int .i64 4)= Wz_ := ⟨_, rfl⟩
      have hL_23s0 := hL_22.far (p := ⟨w.heap.size + 1, 0, none⟩) (by show _ ≠ w.heap.size + 1; omega) (.int .i64 4)
      have hR_23s0 := hR_22.set_ 0 (.int .i64 4)
      simp only [List.setIfInBounds_toArray, List.set_cons_succ, List.set_cons_zero] at hR_23s0
      have hO_23s0 := hO_22.far (p := ⟨w.heap.size + 1, 0, none⟩) (by show _ ≠ w.heap.size + 1; omega) (.int .i64 4)
      have hD_23s0 := hD_22.keep rCap_ok (Kp.set (p := ⟨w.heap.size + 1, 0, none⟩) (by intro b hb; have := hb.1; show b ≠ w.heap.size + 1; omega) (.int .i64 4))
      have b023s0 := b022.setCell (p := ⟨w.heap.size + 1, 0, none⟩) (by show _ ≤ w.heap.size + 1; omega) (.int .i64 4)
      have z_23s0 : w22.heap.size ≤ w23s0.heap.size := by rw [← hw23s0]; simp [World.setCell]
      rw [hw23s0] at hL_23s0 hR_23s0 hO_23s0 hD_23s0 b023s0
      rw [hw23s0]
      clear hw23s0
      clear c_hO0 f_hO0 c_hO1 f_hO1 c_hO2 f_hO2 c_hO3 f_hO3 c_hO4 f_hO4 c_hR0 f_hR0 c_hR1 f_hR1 c_hR2 f_hR2 c_hR3 f_hR3 c_hR4 f_hR4
      clear hL_22
      clear hR_22
      clear hO_22
      clear hD_22
      have c_hR0 := hR_23s0.cell 0
      have f_hR0 := hR_23s0.frozen 0
      have c_hR1 := hR_23s0.cell 1
      have f_hR1 := hR_23s0.frozen 1
      have c_hR2 := hR_23s0.cell 2
      have f_hR2 := hR_23s0.frozen 2
      have c_hR3 := hR_23s0.cell 3
      have f_hR3 := hR_23s0.frozen 3
      have c_hR4 := hR_23s0.cell 4
      have f_hR4 := hR_23s0.frozen 4
      have c_hO0 := hO_23s0.cell 0
      have f_hO0 := hO_23s0.frozen 0
      have c_hO1 := hO_23s0.cell 1
      have f_hO1 := hO_23s0.frozen 1
      have c_hO2 := hO_23s0.cell 2
      have f_hO2 := hO_23s0.frozen 2
      have c_hO3 := hO_23s0.cell 3
      have f_hO3 := hO_23s0.frozen 3
      have c_hO4 := hO_23s0.cell 4
      have f_hO4 := hO_23s0.frozen 4
      obtain ⟨w23s1, hw23s1⟩ : ∃ Wz_, w23s0.setCell ⟨w.heap.size + 1, 1, none⟩ (.int .i64 a)= Wz_ := ⟨_, rfl⟩
      have hL_23s1 := hL_23s0.far (p := ⟨w.heap.size + 1, 1, none⟩) (by show _ ≠ w.heap.size + 1; omega) (.int .i64 a)
      have hR_23s1 := hR_23s0.set_ 1 (.int .i64 a)
      simp only [List.setIfInBounds_toArray, List.set_cons_succ, List.set_cons_zero] at hR_23s1
      have hO_23s1 := hO_23s0.far (p := ⟨w.heap.size + 1, 1, none⟩) (by show _ ≠ w.heap.size + 1; omega) (.int .i64 a)
      have hD_23s1 := hD_23s0.keep rCap_ok (Kp.set (p := ⟨w.heap.size + 1, 1, none⟩) (by intro b hb; have := hb.1; show b ≠ w.heap.size + 1; omega) (.int .i64 a))
      have b023s1 := b023s0.setCell (p := ⟨w.heap.size + 1, 1, none⟩) (by show _ ≤ w.heap.size + 1; omega) (.int .i64 a)
      have z_23s1 : w23s0.heap.size ≤ w23s1.heap.size := by rw [← hw23s1]; simp [World.setCell]
      rw [hw23s1] at hL_23s1 hR_23s1 hO_23s1 hD_23s1 b023s1
      rw [hw23s1]
      clear hw23s1
      clear c_hO0 f_hO0 c_hO1 f_hO1 c_hO2 f_hO2 c_hO3 f_hO3 c_hO4 f_hO4 c_hR0 f_hR0 c_hR1 f_hR1 c_hR2 f_hR2 c_hR3 f_hR3 c_hR4 f_hR4
      clear hL_23s0
      clear hR_23s0
      clear hO_23s0
      clear hD_23s0
      have c_hR0 := hR_23s1.cell 0
      have f_hR0 := hR_23s1.frozen 0
      have c_hR1 := hR_23s1.cell 1
      have f_hR1 := hR_23s1.frozen 1
      have c_hR2 := hR_23s1.cell 2
      have f_hR2 := hR_23s1.frozen 2
      have c_hR3 := hR_23s1.cell 3
      have f_hR3 := hR_23s1.frozen 3
      have c_hR4 := hR_23s1.cell 4
      have f_hR4 := hR_23s1.frozen 4
      have c_hO0 := hO_23s1.cell 0
      have f_hO0 := hO_23s1.frozen 0
      have c_hO1 := hO_23s1.cell 1
      have f_hO1 := hO_23s1.frozen 1
      have c_hO2 := hO_23s1.cell 2
      have f_hO2 := hO_23s1.frozen 2
      have c_hO3 := hO_23s1.cell 3
      have f_hO3 := hO_23s1.frozen 3
      have c_hO4 := hO_23s1.cell 4
      have f_hO4 := hO_23s1.frozen 4
      obtain ⟨w23s2, hw23s2⟩ : ∃ Wz_, w23s1.setCell ⟨w.heap.size + 1, 2, none⟩ (.int .i64 ho)= Wz_ := ⟨_, rfl⟩
      have hL_23s2 := hL_23s1.far (p := ⟨w.heap.size + 1, 2, none⟩) (by show _ ≠ w.heap.size + 1; omega) (.int .i64 ho)
      have hR_23s2 := hR_23s1.set_ 2 (.int .i64 ho)
      simp only [List.setIfInBounds_toArray, List.set_cons_succ, List.set_cons_zero] at hR_23s2
      have hO_23s2 := hO_23s1.far (p := ⟨w.heap.size + 1, 2, none⟩) (by show _ ≠ w.heap.size + 1; omega) (.int .i64 ho)
      have hD_23s2 := hD_23s1.keep rCap_ok (Kp.set (p := ⟨w.heap.size + 1, 2, none⟩) (by intro b hb; have := hb.1; show b ≠ w.heap.size + 1; omega) (.int .i64 ho))
      have b023s2 := b023s1.setCell (p := ⟨w.heap.size + 1, 2, none⟩) (by show _ ≤ w.heap.size + 1; omega) (.int .i64 ho)
      have z_23s2 : w23s1.heap.size ≤ w23s2.heap.size := by rw [← hw23s2]; simp [World.setCell]
      rw [hw23s2] at hL_23s2 hR_23s2 hO_23s2 hD_23s2 b023s2
      rw [hw23s2]
      clear hw23s2
      clear c_hO0 f_hO0 c_hO1 f_hO1 c_hO2 f_hO2 c_hO3 f_hO3 c_hO4 f_hO4 c_hR0 f_hR0 c_hR1 f_hR1 c_hR2 f_hR2 c_hR3 f_hR3 c_hR4 f_hR4
      clear hL_23s1
      clear hR_23s1
      clear hO_23s1
      clear hD_23s1
      have c_hR0 := hR_23s2.cell 0
      have f_hR0 := hR_23s2.frozen 0
      have c_hR1 := hR_23s2.cell 1
      have f_hR1 := hR_23s2.frozen 1
      have c_hR2 := hR_23s2.cell 2
      have f_hR2 := hR_23s2.frozen 2
      have c_hR3 := hR_23s2.cell 3
      have f_hR3 := hR_23s2.frozen 3
      have c_hR4 := hR_23s2.cell 4
      have f_hR4 := hR_23s2.frozen 4
      have c_hO0 := hO_23s2.cell 0
      have f_hO0 := hO_23s2.frozen 0
      have c_hO1 := hO_23s2.cell 1
      have f_hO1 := hO_23s2.frozen 1
      have c_hO2 := hO_23s2.cell 2
      have f_hO2 := hO_23s2.frozen 2
      have c_hO3 := hO_23s2.cell 3
      have f_hO3 := hO_23s2.frozen 3
      have c_hO4 := hO_23s2.cell 4
      have f_hO4 := hO_23s2.frozen 4
      obtain ⟨w23s3, hw23s3⟩ : ∃ Wz_, w23s2.setCell ⟨w.heap.size + 1, 3, none⟩ (.int .u32 i)= Wz_ := ⟨_, rfl⟩
      have hL_23s3 := hL_23s2.far (p := ⟨w.heap.size + 1, 3, none⟩) (by show _ ≠ w.heap.size + 1; omega) (.int .u32 i)
      have hR_23s3 := hR_23s2.set_ 3 (.int .u32 i)
      simp only [List.setIfInBounds_toArray, List.set_cons_succ, List.set_cons_zero] at hR_23s3
      have hO_23s3 := hO_23s2.far (p := ⟨w.heap.size + 1, 3, none⟩) (by show _ ≠ w.heap.size + 1; omega) (.int .u32 i)
      have hD_23s3 := hD_23s2.keep rCap_ok (Kp.set (p := ⟨w.heap.size + 1, 3, none⟩) (by intro b hb; have := hb.1; show b ≠ w.heap.size + 1; omega) (.int .u32 i))
      have b023s3 := b023s2.setCell (p := ⟨w.heap.size + 1, 3, none⟩) (by show _ ≤ w.heap.size + 1; omega) (.int .u32 i)
      have z_23s3 : w23s2.heap.size ≤ w23s3.heap.size := by rw [← hw23s3]; simp [World.setCell]
      rw [hw23s3] at hL_23s3 hR_23s3 hO_23s3 hD_23s3 b023s3
      rw [hw23s3]
      clear hw23s3
      clear c_hO0 f_hO0 c_hO1 f_hO1 c_hO2 f_hO2 c_hO3 f_hO3 c_hO4 f_hO4 c_hR0 f_hR0 c_hR1 f_hR1 c_hR2 f_hR2 c_hR3 f_hR3 c_hR4 f_hR4
      clear hL_23s2
      clear hR_23s2
      clear hO_23s2
      clear hD_23s2
      have c_hR0 := hR_23s3.cell 0
      have f_hR0 := hR_23s3.frozen 0
      have c_hR1 := hR_23s3.cell 1
      have f_hR1 := hR_23s3.frozen 1
      have c_hR2 := hR_23s3.cell 2
      have f_hR2 := hR_23s3.frozen 2
      have c_hR3 := hR_23s3.cell 3
      have f_hR3 := hR_23s3.frozen 3
      have c_hR4 := hR_23s3.cell 4
      have f_hR4 := hR_23s3.frozen 4
      have c_hO0 := hO_23s3.cell 0
      have f_hO0 := hO_23s3.frozen 0
      have c_hO1 := hO_23s3.cell 1
      have f_hO1 := hO_23s3.frozen 1
      have c_hO2 := hO_23s3.cell 2
      have f_hO2 := hO_23s3.frozen 2
      have c_hO3 := hO_23s3.cell 3
      have f_hO3 := hO_23s3.frozen 3
      have c_hO4 := hO_23s3.cell 4
      have f_hO4 := hO_23s3.frozen 4
      obtain ⟨w23s4, hw23s4⟩ : ∃ Wz_, w23s3.setCell ⟨w.heap.size + 1, 4, none⟩ (.slice (some ⟨w20.heap.size, 0, none⟩) 1 1)= Wz_ := ⟨_, rfl⟩
      have hL_23s4 := hL_23s3.far (p := ⟨w.heap.size + 1, 4, none⟩) (by show _ ≠ w.heap.size + 1; omega) (.slice (some ⟨w20.heap.size, 0, none⟩) 1 1)
      have hR_23s4 := hR_23s3.set_ 4 (.slice (some ⟨w20.heap.size, 0, none⟩) 1 1)
      simp only [List.setIfInBounds_toArray, List.set_cons_succ, List.set_cons_zero] at hR_23s4
      have hO_23s4 := hO_23s3.far (p := ⟨w.heap.size + 1, 4, none⟩) (by show _ ≠ w.heap.size + 1; omega) (.slice (some ⟨w20.heap.size, 0, none⟩) 1 1)
      have hD_23s4 := hD_23s3.keep rCap_ok (Kp.set (p := ⟨w.heap.size + 1, 4, none⟩) (by intro b hb; have := hb.1; show b ≠ w.heap.size + 1; omega) (.slice (some ⟨w20.heap.size, 0, none⟩) 1 1))
      have b023s4 := b023s3.setCell (p := ⟨w.heap.size + 1, 4, none⟩) (by show _ ≤ w.heap.size + 1; omega) (.slice (some ⟨w20.heap.size, 0, none⟩) 1 1)
      have z_23s4 : w23s3.heap.size ≤ w23s4.heap.size := by rw [← hw23s4]; simp [World.setCell]
      rw [hw23s4] at hL_23s4 hR_23s4 hO_23s4 hD_23s4 b023s4
      rw [hw23s4]
      clear hw23s4
      clear c_hO0 f_hO0 c_hO1 f_hO1 c_hO2 f_hO2 c_hO3 f_hO3 c_hO4 f_hO4 c_hR0 f_hR0 c_hR1 f_hR1 c_hR2 f_hR2 c_hR3 f_hR3 c_hR4 f_hR4
      clear hL_23s3
      clear hR_23s3
      clear hO_23s3
      clear hD_23s3
      have c_hR0 := hR_23s4.cell 0
      have f_hR0 := hR_23s4.frozen 0
      have c_hR1 := hR_23s4.cell 1
      have f_hR1 := hR_23s4.frozen 1
      have c_hR2 := hR_23s4.cell 2
      have f_hR2 := hR_23s4.frozen 2
      have c_hR3 := hR_23s4.cell 3
      have f_hR3 := hR_23s4.frozen 3
      have c_hR4 := hR_23s4.cell 4
      have f_hR4 := hR_23s4.frozen 4
      have c_hO0 := hO_23s4.cell 0
      have f_hO0 := hO_23s4.frozen 0
      have c_hO1 := hO_23s4.cell 1
      have f_hO1 := hO_23s4.frozen 1
      have c_hO2 := hO_23s4.cell 2
      have f_hO2 := hO_23s4.frozen 2
      have c_hO3 := hO_23s4.cell 3
      have f_hO3 := hO_23s4.frozen 3
      have c_hO4 := hO_23s4.cell 4
      have f_hO4 := hO_23s4.frozen 4
      refine bodyPost_ret (opn_ret rfl _ _ (w.heap.size + 1) _ _ _ _ _ rfl hR_23s4) rfl ?_
      exact ⟨some ⟨w20.heap.size, 0, none⟩, 1, by rw [HA.out, HH.out], hD_23s4.keep rCap_ok (Kp.sub fun b hb => Nat.lt_of_lt_of_le hb.2 (by omega)), Nat.le_refl _, b023s4⟩
    · have t6 : decide ((a : Int) ≤ 65535) = false := decide_eq_false (by omega)
      have HA := Lib.hid (show mineA a = 23456 from if_neg h6)
      clear h6
      obtain ⟨W2, hW2, hO, b2⟩ := box1c W #[.int .i64 4, .int .i64 23456, .int .i64 ho, .int .u32 i, .slice none 0 0] 66
      have HW2 := Lib.hid hW2
      clear hW2
      have b02 := btr b0 b2 b0.size
      have hL2 := hL.below b2 hL.lt
      have hR2 := hR.below b2 hR.lt
      have hOl := hO.lt
      go_enter Tryd.func26, Tryd.ntmps26
      go_upto_region 1 with fail
      rw [HW.out]
      have c_hL0 := hL.cell 0
      have c_hL1 := hL.cell 1
      have c_hL2 := hL.cell 2
      have c_hL3 := hL.cell 3
      go_upto_region 2 with fail
      rw [HW2.out]
      clear c_hL0 c_hL1 c_hL2 c_hL3
      have c_hL0 := hL2.cell 0
      go_upto_region 4 with fail
      clear c_hL0
      have c_hL0 := hL2.cell 0
      go_wp2_with fail
      refine (octetPut32 none 0 0 [] a _ BS.none_ (by simp) (by omega) (by omega)).mono ?_
      rintro _ w20 ⟨A3, n3, c3, rfl, o3, b20⟩
      clear c_hL0
      have b020 := btr b02 b20 b02.size
      have hL_20 := hL2.below b20 hL2.lt
      have hR_20 := hR2.below b20 hR2.lt
      have hO_20 := hO.below b20 hO.lt
      have c_hL0 := hL_20.cell 0
      rw [List.nil_append] at o3
      have hn3 : n3 = 4 := o3.1
      have hc3 := o3.cap
      subst hn3
      clear c_hL0
      have ca4 := (hO_20.alloc (.cells #[.int .i64 65, .slice A3 4 c3] 85)).cell 4
      have fa4 := (hO_20.alloc (.cells #[.int .i64 65, .slice A3 4 c3] 85)).frozen 4
      go_upto_region 5 with fail
      clear ca4 fa4
      obtain ⟨w21, hw21, hC, b21⟩ := box1c w20 #[.int .i64 65, .slice A3 4 c3] 85
      rw [hw21]
      have o4 := BF.own o3
      have hCl := hC.lt
      have hO20 := hO_20.lt
      have hR20 := hR_20.lt
      have o5 := o4.keep (S' := fun b => W2.heap.size ≤ b ∧ b < w21.heap.size) (fun b hb => ⟨⟨hb.1, Nat.lt_of_lt_of_le hb.2 (by omega)⟩, b21.block b hb.2⟩)
      have hD : DL rCap 2 w21 (fun b => W2.heap.size ≤ b ∧ b < w21.heap.size) (some ⟨w20.heap.size, 0, none⟩) 1 [(65, b32 a)] := DL.one rCap_ok hC ⟨b20.size, hCl⟩ ⟨A3, 4, c3, rfl, o5, hc3⟩
      clear hw21
      have b021 := btr b020 b21 b020.size
      have hL_21 := hL_20.below b21 hL_20.lt
      clear hL_20
      have hR_21 := hR_20.below b21 hR_20.lt
      clear hR_20
      have hO_21 := hO_20.below b21 hO_20.lt
      clear hO_20
      obtain ⟨w22, hw22⟩ : ∃ Wz_, w21.setCell ⟨W.heap.size, 4, none⟩ (.slice (some ⟨w20.heap.size, 0, none⟩) 1 1)= Wz_ := ⟨_, rfl⟩
      have hL_22 := hL_21.far (p := ⟨W.heap.size, 4, none⟩) (by show _ ≠ W.heap.size; omega) (.slice (some ⟨w20.heap.size, 0, none⟩) 1 1)
      have hR_22 := hR_21.far (p := ⟨W.heap.size, 4, none⟩) (by show _ ≠ W.heap.size; omega) (.slice (some ⟨w20.heap.size, 0, none⟩) 1 1)
      have hO_22 := hO_21.set_ 4 (.slice (some ⟨w20.heap.size, 0, none⟩) 1 1)
      simp only [List.setIfInBounds_toArray, List.set_cons_succ, List.set_cons_zero] at hO_22
      have hD_22 := hD.keep rCap_ok (Kp.set (p := ⟨W.heap.size, 4, none⟩) (by intro b hb; have := hb.1; show b ≠ W.heap.size; omega) (.slice (some ⟨w20.heap.size, 0, none⟩) 1 1))
      have b022 := b021.setCell (p := ⟨W.heap.size, 4, none⟩) (by show _ ≤ W.heap.size; omega) (.slice (some ⟨w20.heap.size, 0, none⟩) 1 1)
      have z_22 : w21.heap.size ≤ w22.heap.size := by rw [← hw22]; simp [World.setCell]
      rw [hw22] at hL_22 hR_22 hO_22 hD_22 b022
      rw [hw22]
      clear hw22
      clear hL_21
      clear hR_21
      clear hO_21
      have c_hO0 := hO_22.cell 0
      have f_hO0 := hO_22.frozen 0
      have c_hO1 := hO_22.cell 1
      have f_hO1 := hO_22.frozen 1
      have c_hO2 := hO_22.cell 2
      have f_hO2 := hO_22.frozen 2
      have c_hO3 := hO_22.cell 3
      have f_hO3 := hO_22.frozen 3
      have c_hO4 := hO_22.cell 4
      have f_hO4 := hO_22.frozen 4
      have c_hR0 := hR_22.cell 0
      have f_hR0 := hR_22.frozen 0
      have c_hR1 := hR_22.cell 1
      have f_hR1 := hR_22.frozen 1
      have c_hR2 := hR_22.cell 2
      have f_hR2 := hR_22.frozen 2
      have c_hR3 := hR_22.cell 3
      have f_hR3 := hR_22.frozen 3
      have c_hR4 := hR_22.cell 4
      have f_hR4 := hR_22.frozen 4
      go_wp2_with fail
      obtain ⟨w23s0, hw23s0⟩ : ∃ Wz_, w22.setCell ⟨w.heap.size + 1, 0, none⟩ (.int .i64 4)= Wz_ := ⟨_, rfl⟩
      have hL_23s0 := hL_22.far (p := ⟨w.heap.size + 1, 0, none⟩) (by show _ ≠ w.heap.size + 1; omega) (.int .i64 4)
      have hR_23s0 := hR_22.set_ 0 (.int .i64 4)
      simp only [List.setIfInBounds_toArray, List.set_cons_succ, List.set_cons_zero] at hR_23s0
      have hO_23s0 := hO_22.far (p := ⟨w.heap.size + 1, 0, none⟩) (by show _ ≠ w.heap.size + 1; omega) (.int .i64 4)
      have hD_23s0 := hD_22.keep rCap_ok (Kp.set (p := ⟨w.heap.size + 1, 0, none⟩) (by intro b hb; have := hb.1; show b ≠ w.heap.size + 1; omega) (.int .i64 4))
      have b023s0 := b022.setCell (p := ⟨w.heap.size + 1, 0, none⟩) (by show _ ≤ w.heap.size + 1; omega) (.int .i64 4)
      have z_23s0 : w22.heap.size ≤ w23s0.heap.size := by rw [← hw23s0]; simp [World.setCell]
      rw [hw23s0] at hL_23s0 hR_23s0 hO_23s0 hD_23s0 b023s0
      rw [hw23s0]
      clear hw23s0
      clear c_hO0 f_hO0 c_hO1 f_hO1 c_hO2 f_hO2 c_hO3 f_hO3 c_hO4 f_hO4 c_hR0 f_hR0 c_hR1 f_hR1 c_hR2 f_hR2 c_hR3 f_hR3 c_hR4 f_hR4
      clear hL_22
      clear hR_22
      clear hO_22
      clear hD_22
      have c_hR0 := hR_23s0.cell 0
      have f_hR0 := hR_23s0.frozen 0
      have c_hR1 := hR_23s0.cell 1
      have f_hR1 := hR_23s0.frozen 1
      have c_hR2 := hR_23s0.cell 2
      have f_hR2 := hR_23s0.frozen 2
      have c_hR3 := hR_23s0.cell 3
      have f_hR3 := hR_23s0.frozen 3
      have c_hR4 := hR_23s0.cell 4
      have f_hR4 := hR_23s0.frozen 4
      have c_hO0 := hO_23s0.cell 0
      have f_hO0 := hO_23s0.frozen 0
      have c_hO1 := hO_23s0.cell 1
      have f_hO1 := hO_23s0.frozen 1
      have c_hO2 := hO_23s0.cell 2
      have f_hO2 := hO_23s0.frozen 2
      have c_hO3 := hO_23s0.cell 3
      have f_hO3 := hO_23s0.frozen 3
      have c_hO4 := hO_23s0.cell 4
      have f_hO4 := hO_23s0.frozen 4
      obtain ⟨w23s1, hw23s1⟩ : ∃ Wz_, w23s0.setCell ⟨w.heap.size + 1, 1, none⟩ (.int .i64 23456)= Wz_ := ⟨_, rfl⟩
      have hL_23s1 := hL_23s0.far (p := ⟨w.heap.size + 1, 1, none⟩) (by show _ ≠ w.heap.size + 1; omega) (.int .i64 23456)
      have hR_23s1 := hR_23s0.set_ 1 (.int .i64 23456)
      simp only [List.setIfInBounds_toArray, List.set_cons_succ, List.set_cons_zero] at hR_23s1
      have hO_23s1 := hO_23s0.far (p := ⟨w.heap.size + 1, 1, none⟩) (by show _ ≠ w.heap.size + 1; omega) (.int .i64 23456)
      have hD_23s1 := hD_23s0.keep rCap_ok (Kp.set (p := ⟨w.heap.size + 1, 1, none⟩) (by intro b hb; have := hb.1; show b ≠ w.heap.size + 1; omega) (.int .i64 23456))
      have b023s1 := b023s0.setCell (p := ⟨w.heap.size + 1, 1, none⟩) (by show _ ≤ w.heap.size + 1; omega) (.int .i64 23456)
      have z_23s1 : w23s0.heap.size ≤ w23s1.heap.size := by rw [← hw23s1]; simp [World.setCell]
      rw [hw23s1] at hL_23s1 hR_23s1 hO_23s1 hD_23s1 b023s1
      rw [hw23s1]
      clear hw23s1
      clear c_hO0 f_hO0 c_hO1 f_hO1 c_hO2 f_hO2 c_hO3 f_hO3 c_hO4 f_hO4 c_hR0 f_hR0 c_hR1 f_hR1 c_hR2 f_hR2 c_hR3 f_hR3 c_hR4 f_hR4
      clear hL_23s0
      clear hR_23s0
      clear hO_23s0
      clear hD_23s0
      have c_hR0 := hR_23s1.cell 0
      have f_hR0 := hR_23s1.frozen 0
      have c_hR1 := hR_23s1.cell 1
      have f_hR1 := hR_23s1.frozen 1
      have c_hR2 := hR_23s1.cell 2
      have f_hR2 := hR_23s1.frozen 2
      have c_hR3 := hR_23s1.cell 3
      have f_hR3 := hR_23s1.frozen 3
      have c_hR4 := hR_23s1.cell 4
      have f_hR4 := hR_23s1.frozen 4
      have c_hO0 := hO_23s1.cell 0
      have f_hO0 := hO_23s1.frozen 0
      have c_hO1 := hO_23s1.cell 1
      have f_hO1 := hO_23s1.frozen 1
      have c_hO2 := hO_23s1.cell 2
      have f_hO2 := hO_23s1.frozen 2
      have c_hO3 := hO_23s1.cell 3
      have f_hO3 := hO_23s1.frozen 3
      have c_hO4 := hO_23s1.cell 4
      have f_hO4 := hO_23s1.frozen 4
      obtain ⟨w23s2, hw23s2⟩ : ∃ Wz_, w23s1.setCell ⟨w.heap.size + 1, 2, none⟩ (.int .i64 ho)= Wz_ := ⟨_, rfl⟩
      have hL_23s2 := hL_23s1.far (p := ⟨w.heap.size + 1, 2, none⟩) (by show _ ≠ w.heap.size + 1; omega) (.int .i64 ho)
      have hR_23s2 := hR_23s1.set_ 2 (.int .i64 ho)
      simp only [List.setIfInBounds_toArray, List.set_cons_succ, List.set_cons_zero] at hR_23s2
      have hO_23s2 := hO_23s1.far (p := ⟨w.heap.size + 1, 2, none⟩) (by show _ ≠ w.heap.size + 1; omega) (.int .i64 ho)
      have hD_23s2 := hD_23s1.keep rCap_ok (Kp.set (p := ⟨w.heap.size + 1, 2, none⟩) (by intro b hb; have := hb.1; show b ≠ w.heap.size + 1; omega) (.int .i64 ho))
      have b023s2 := b023s1.setCell (p := ⟨w.heap.size + 1, 2, none⟩) (by show _ ≤ w.heap.size + 1; omega) (.int .i64 ho)
      have z_23s2 : w23s1.heap.size ≤ w23s2.heap.size := by rw [← hw23s2]; simp [World.setCell]
      rw [hw23s2] at hL_23s2 hR_23s2 hO_23s2 hD_23s2 b023s2
      rw [hw23s2]
      clear hw23s2
      clear c_hO0 f_hO0 c_hO1 f_hO1 c_hO2 f_hO2 c_hO3 f_hO3 c_hO4 f_hO4 c_hR0 f_hR0 c_hR1 f_hR1 c_hR2 f_hR2 c_hR3 f_hR3 c_hR4 f_hR4
      clear hL_23s1
      clear hR_23s1
      clear hO_23s1
      clear hD_23s1
      have c_hR0 := hR_23s2.cell 0
      have f_hR0 := hR_23s2.frozen 0
      have c_hR1 := hR_23s2.cell 1
      have f_hR1 := hR_23s2.frozen 1
      have c_hR2 := hR_23s2.cell 2
      have f_hR2 := hR_23s2.frozen 2
      have c_hR3 := hR_23s2.cell 3
      have f_hR3 := hR_23s2.frozen 3
      have c_hR4 := hR_23s2.cell 4
      have f_hR4 := hR_23s2.frozen 4
      have c_hO0 := hO_23s2.cell 0
      have f_hO0 := hO_23s2.frozen 0
      have c_hO1 := hO_23s2.cell 1
      have f_hO1 := hO_23s2.frozen 1
      have c_hO2 := hO_23s2.cell 2
      have f_hO2 := hO_23s2.frozen 2
      have c_hO3 := hO_23s2.cell 3
      have f_hO3 := hO_23s2.frozen 3
      have c_hO4 := hO_23s2.cell 4
      have f_hO4 := hO_23s2.frozen 4
      obtain ⟨w23s3, hw23s3⟩ : ∃ Wz_, w23s2.setCell ⟨w.heap.size + 1, 3, none⟩ (.int .u32 i)= Wz_ := ⟨_, rfl⟩
      have hL_23s3 := hL_23s2.far (p := ⟨w.heap.size + 1, 3, none⟩) (by show _ ≠ w.heap.size + 1; omega) (.int .u32 i)
      have hR_23s3 := hR_23s2.set_ 3 (.int .u32 i)
      simp only [List.setIfInBounds_toArray, List.set_cons_succ, List.set_cons_zero] at hR_23s3
      have hO_23s3 := hO_23s2.far (p := ⟨w.heap.size + 1, 3, none⟩) (by show _ ≠ w.heap.size + 1; omega) (.int .u32 i)
      have hD_23s3 := hD_23s2.keep rCap_ok (Kp.set (p := ⟨w.heap.size + 1, 3, none⟩) (by intro b hb; have := hb.1; show b ≠ w.heap.size + 1; omega) (.int .u32 i))
      have b023s3 := b023s2.setCell (p := ⟨w.heap.size + 1, 3, none⟩) (by show _ ≤ w.heap.size + 1; omega) (.int .u32 i)
      have z_23s3 : w23s2.heap.size ≤ w23s3.heap.size := by rw [← hw23s3]; simp [World.setCell]
      rw [hw23s3] at hL_23s3 hR_23s3 hO_23s3 hD_23s3 b023s3
      rw [hw23s3]
      clear hw23s3
      clear c_hO0 f_hO0 c_hO1 f_hO1 c_hO2 f_hO2 c_hO3 f_hO3 c_hO4 f_hO4 c_hR0 f_hR0 c_hR1 f_hR1 c_hR2 f_hR2 c_hR3 f_hR3 c_hR4 f_hR4
      clear hL_23s2
      clear hR_23s2
      clear hO_23s2
      clear hD_23s2
      have c_hR0 := hR_23s3.cell 0
      have f_hR0 := hR_23s3.frozen 0
      have c_hR1 := hR_23s3.cell 1
      have f_hR1 := hR_23s3.frozen 1
      have c_hR2 := hR_23s3.cell 2
      have f_hR2 := hR_23s3.frozen 2
      have c_hR3 := hR_23s3.cell 3
      have f_hR3 := hR_23s3.frozen 3
      have c_hR4 := hR_23s3.cell 4
      have f_hR4 := hR_23s3.frozen 4
      have c_hO0 := hO_23s3.cell 0
      have f_hO0 := hO_23s3.frozen 0
      have c_hO1 := hO_23s3.cell 1
      have f_hO1 := hO_23s3.frozen 1
      have c_hO2 := hO_23s3.cell 2
      have f_hO2 := hO_23s3.frozen 2
      have c_hO3 := hO_23s3.cell 3
      have f_hO3 := hO_23s3.frozen 3
      have c_hO4 := hO_23s3.cell 4
      have f_hO4 := hO_23s3.frozen 4
      obtain ⟨w23s4, hw23s4⟩ : ∃ Wz_, w23s3.setCell ⟨w.heap.size + 1, 4, none⟩ (.slice (some ⟨w20.heap.size, 0, none⟩) 1 1)= Wz_ := ⟨_, rfl⟩
      have hL_23s4 := hL_23s3.far (p := ⟨w.heap.size + 1, 4, none⟩) (by show _ ≠ w.heap.size + 1; omega) (.slice (some ⟨w20.heap.size, 0, none⟩) 1 1)
      have hR_23s4 := hR_23s3.set_ 4 (.slice (some ⟨w20.heap.size, 0, none⟩) 1 1)
      simp only [List.setIfInBounds_toArray, List.set_cons_succ, List.set_cons_zero] at hR_23s4
      have hO_23s4 := hO_23s3.far (p := ⟨w.heap.size + 1, 4, none⟩) (by show _ ≠ w.heap.size + 1; omega) (.slice (some ⟨w20.heap.size, 0, none⟩) 1 1)
      have hD_23s4 := hD_23s3.keep rCap_ok (Kp.set (p := ⟨w.heap.size + 1, 4, none⟩) (by intro b hb; have := hb.1; show b ≠ w.heap.size + 1; omega) (.slice (some ⟨w20.heap.size, 0, none⟩) 1 1))
      have b023s4 := b023s3.setCell (p := ⟨w.heap.size + 1, 4, none⟩) (by show _ ≤ w.heap.size + 1; omega) (.slice (some ⟨w20.heap.size, 0, none⟩) 1 1)
      have z_23s4 : w23s3.heap.size ≤ w23s4.heap.size := by rw [← hw23s4]; simp [World.setCell]
      rw [hw23s4] at hL_23s4 hR_23s4 hO_23s4 hD_23s4 b023s4
      rw [hw23s4]
      clear hw23s4
      clear c_hO0 f_hO0 c_hO1 f_hO1 c_hO2 f_hO2 c_hO3 f_hO3 c_hO4 f_hO4 c_hR0 f_hR0 c_hR1 f_hR1 c_hR2 f_hR2 c_hR3 f_hR3 c_hR4 f_hR4
      clear hL_23s3
      clear hR_23s3
      clear hO_23s3
      clear hD_23s3
      have c_hR0 := hR_23s4.cell 0
      have f_hR0 := hR_23s4.frozen 0
      have c_hR1 := hR_23s4.cell 1
      have f_hR1 := hR_23s4.frozen 1
      have c_hR2 := hR_23s4.cell 2
      have f_hR2 := hR_23s4.frozen 2
      have c_hR3 := hR_23s4.cell 3
      have f_hR3 := hR_23s4.frozen 3
      have c_hR4 := hR_23s4.cell 4
      have f_hR4 := hR_23s4.frozen 4
      have c_hO0 := hO_23s4.cell 0
      have f_hO0 := hO_23s4.frozen 0
      have c_hO1 := hO_23s4.cell 1
      have f_hO1 := hO_23s4.frozen 1
      have c_hO2 := hO_23s4.cell 2
      have f_hO2 := hO_23s4.frozen 2
      have c_hO3 := hO_23s4.cell 3
      have f_hO3 := hO_23s4.frozen 3
      have c_hO4 := hO_23s4.cell 4
      have f_hO4 := hO_23s4.frozen 4
      refine bodyPost_ret (opn_ret rfl _ _ (w.heap.size + 1) _ _ _ _ _ rfl hR_23s4) rfl ?_
      exact ⟨some ⟨w20.heap.size, 0, none⟩, 1, by rw [HA.out, HH.out], hD_23s4.keep rCap_ok (Kp.sub fun b hb => Nat.lt_of_lt_of_le hb.2 (by omega)), Nat.le_refl _, b023s4⟩
set_option maxHeartbeats 2000000 in
set_option maxRecDepth 100000 in
theorem refMine06 (a i x : Nat) (ho : Int) (w : World) (ha : a < 4294967296) :
    Calls Tryd.prog 19 #[.agg #[.int .u32 a, .int .u32 i, .int .u32 x, .int .i64 ho]] w (RetMine w a i ho) := by
  obtain ⟨W, hW, hL, hR, b0⟩ := boxes2 w #[.int .u32 a, .int .u32 i, .int .u32 x, .int .i64 ho] #[.int .i64 0, .int .i64 0, .int .i64 0, .int .u32 0, .slice none 0 0] 24 66
  have HW := Lib.hid hW
  clear hW
  have hLl := hL.lt
  have hRl := hR.lt
  have wi : IntKind.i64.wrap (a : Int) = a := IntWalk.i64_in _ ⟨by omega, by omega⟩
  by_cases h1 : ho < 0
  · have t1 : decide (ho < 0) = true := decide_eq_true h1
    have HH := Lib.hid (show mineH ho = 0 by unfold mineH; rw [if_pos h1])
    clear h1
    by_cases h6 : a ≤ 65535
    · have t6 : decide ((a : Int) ≤ 65535) = true := decide_eq_true (by omega)
      have HA := Lib.hid (show mineA a = a from if_pos h6)
      clear h6
      obtain ⟨W2, hW2, hO, b2⟩ := box1c W #[.int .i64 4, .int .i64 23456, .int .i64 ho, .int .u32 i, .slice none 0 0] 66
      have HW2 := Lib.hid hW2
      clear hW2
      have b02 := btr b0 b2 b0.size
      have hL2 := hL.below b2 hL.lt
      have hR2 := hR.below b2 hR.lt
      have hOl := hO.lt
      go_enter Tryd.func19, Tryd.ntmps19
      go_upto_region 1 with fail
      rw [HW.out]
      have c_hL0 := hL.cell 0
      have c_hL1 := hL.cell 1
      have c_hL2 := hL.cell 2
      have c_hL3 := hL.cell 3
      go_upto_region 2 with fail
      rw [HW2.out]
      clear c_hL0 c_hL1 c_hL2 c_hL3
      have c_hO2 := hO.cell 2
      have f_hO2 := hO.frozen 2
      go_upto_region 4 with fail
      obtain ⟨w9, hw9⟩ : ∃ Wz_, W2.setCell ⟨W.heap.size, 2, none⟩ (.int .i64 0)= Wz_ := ⟨_, rfl⟩
      have hL_9 := hL2.far (p := ⟨W.heap.size, 2, none⟩) (by show _ ≠ W.heap.size; omega) (.int .i64 0)
      have hR_9 := hR2.far (p := ⟨W.heap.size, 2, none⟩) (by show _ ≠ W.heap.size; omega) (.int .i64 0)
      have hO_9 := hO.set_ 2 (.int .i64 0)
      simp only [List.setIfInBounds_toArray, List.set_cons_succ, List.set_cons_zero] at hO_9
      have b09 := b02.setCell (p := ⟨W.heap.size, 2, none⟩) (by show _ ≤ W.heap.size; omega) (.int .i64 0)
      have z_9 : W2.heap.size ≤ w9.heap.size := by rw [← hw9]; simp [World.setCell]
      rw [hw9] at hL_9 hR_9 hO_9 b09
      rw [hw9]
      clear hw9
      clear c_hO2 f_hO2
      have c_hO2 := hO_9.cell 2
      have f_hO2 := hO_9.frozen 2
      clear c_hO2 f_hO2
      have c_hO2 := hO_9.cell 2
      have f_hO2 := hO_9.frozen 2
      have c_hL0 := hL_9.cell 0
      clear c_hO2 f_hO2
      have c_hO1 := hO_9.cell 1
      have f_hO1 := hO_9.frozen 1
      have c_hO2 := hO_9.cell 2
      have f_hO2 := hO_9.frozen 2
      go_upto_region 8 with fail
      obtain ⟨w10, hw10⟩ : ∃ Wz_, w9.setCell ⟨W.heap.size, 1, none⟩ (.int .i64 a)= Wz_ := ⟨_, rfl⟩
      have hL_10 := hL_9.far (p := ⟨W.heap.size, 1, none⟩) (by show _ ≠ W.heap.size; omega) (.int .i64 a)
      have hR_10 := hR_9.far (p := ⟨W.heap.size, 1, none⟩) (by show _ ≠ W.heap.size; omega) (.int .i64 a)
      have hO_10 := hO_9.set_ 1 (.int .i64 a)
      simp only [List.setIfInBounds_toArray, List.set_cons_succ, List.set_cons_zero] at hO_10
      have b010 := b09.setCell (p := ⟨W.heap.size, 1, none⟩) (by show _ ≤ W.heap.size; omega) (.int .i64 a)
      have z_10 : w9.heap.size ≤ w10.heap.size := by rw [← hw10]; simp [World.setCell]
      rw [hw10] at hL_10 hR_10 hO_10 b010
      rw [hw10]
      clear hw10
      clear c_hL0 c_hO1 f_hO1 c_hO2 f_hO2
      clear hL_9
      clear hR_9
      clear hO_9
      have c_hL0 := hL_10.cell 0
      have c_hO1 := hO_10.cell 1
      have f_hO1 := hO_10.frozen 1
      have c_hO2 := hO_10.cell 2
      have f_hO2 := hO_10.frozen 2
      clear c_hL0
      have c_hL0 := hL_10.cell 0
      go_wp2_with fail
      refine (ref01Put32 none 0 0 [] a _ BS.none_ (by simp) (by omega) (by omega)).mono ?_
      rintro _ w20 ⟨A3, n3, c3, rfl, o3, b20⟩
      clear c_hL0 c_hO1 f_hO1 c_hO2 f_hO2
      have b020 := btr b010 b20 b010.size
      have hL_20 := hL_10.below b20 hL_10.lt
      clear hL_10
      have hR_20 := hR_10.below b20 hR_10.lt
      clear hR_10
      have hO_20 := hO_10.below b20 hO_10.lt
      clear hO_10
      have c_hL0 := hL_20.cell 0
      have c_hO1 := hO_20.cell 1
      have f_hO1 := hO_20.frozen 1
      have c_hO2 := hO_20.cell 2
      have f_hO2 := hO_20.frozen 2
      rw [List.nil_append] at o3
      have hn3 : n3 = 4 := o3.1
      have hc3 := o3.cap
      subst hn3
      clear c_hL0
      have ca4 := (hO_20.alloc (.cells #[.int .i64 65, .slice A3 4 c3] 85)).cell 4
      have fa4 := (hO_20.alloc (.cells #[.int .i64 65, .slice A3 4 c3] 85)).frozen 4
      go_upto_region 9 with fail
      clear ca4 fa4
      obtain ⟨w21, hw21, hC, b21⟩ := box1c w20 #[.int .i64 65, .slice A3 4 c3] 85
      rw [hw21]
      have o4 := BF.own o3
      have hCl := hC.lt
      have hO20 := hO_20.lt
      have hR20 := hR_20.lt
      have o5 := o4.keep (S' := fun b => w10.heap.size ≤ b ∧ b < w21.heap.size) (fun b hb => ⟨⟨hb.1, Nat.lt_of_lt_of_le hb.2 (by omega)⟩, b21.block b hb.2⟩)
      have hD : DL rCap 2 w21 (fun b => w10.heap.size ≤ b ∧ b < w21.heap.size) (some ⟨w20.heap.size, 0, none⟩) 1 [(65, b32 a)] := DL.one rCap_ok hC ⟨b20.size, hCl⟩ ⟨A3, 4, c3, rfl, o5, hc3⟩
      clear hw21
      clear c_hO1 f_hO1 c_hO2 f_hO2
      have b021 := btr b020 b21 b020.size
      have hL_21 := hL_20.below b21 hL_20.lt
      clear hL_20
      have hR_21 := hR_20.below b21 hR_20.lt
      clear hR_20
      have hO_21 := hO_20.below b21 hO_20.lt
      clear hO_20
      have c_hO1 := hO_21.cell 1
      have f_hO1 := hO_21.frozen 1
      have c_hO2 := hO_21.cell 2
      have f_hO2 := hO_21.frozen 2
      obtain ⟨w22, hw22⟩ : ∃ Wz_, w21.setCell ⟨W.heap.size, 4, none⟩ (.slice (some ⟨w20.heap.size, 0, none⟩) 1 1)= Wz_ := ⟨_, rfl⟩
      have hL_22 := hL_21.far (p := ⟨W.heap.size, 4, none⟩) (by show _ ≠ W.heap.size; omega) (.slice (some ⟨w20.heap.size, 0, none⟩) 1 1)
      have hR_22 := hR_21.far (p := ⟨W.heap.size, 4, none⟩) (by show _ ≠ W.heap.size; omega) (.slice (some ⟨w20.heap.size, 0, none⟩) 1 1)
      have hO_22 := hO_21.set_ 4 (.slice (some ⟨w20.heap.size, 0, none⟩) 1 1)
      simp only [List.setIfInBounds_toArray, List.set_cons_succ, List.set_cons_zero] at hO_22
      have hD_22 := hD.keep rCap_ok (Kp.set (p := ⟨W.heap.size, 4, none⟩) (by intro b hb; have := hb.1; show b ≠ W.heap.size; omega) (.slice (some ⟨w20.heap.size, 0, none⟩) 1 1))
      have b022 := b021.setCell (p := ⟨W.heap.size, 4, none⟩) (by show _ ≤ W.heap.size; omega) (.slice (some ⟨w20.heap.size, 0, none⟩) 1 1)
      have z_22 : w21.heap.size ≤ w22.heap.size := by rw [← hw22]; simp [World.setCell]
      rw [hw22] at hL_22 hR_22 hO_22 hD_22 b022
      rw [hw22]
      clear hw22
      clear c_hO1 f_hO1 c_hO2 f_hO2
      clear hL_21
      clear hR_21
      clear hO_21
      have c_hO1 := hO_22.cell 1
      have f_hO1 := hO_22.frozen 1
      have c_hO2 := hO_22.cell 2
      have f_hO2 := hO_22.frozen 2
      clear c_hO1 c_hO2 f_hO1 f_hO2
      have c_hO0 := hO_22.cell 0
      have f_hO0 := hO_22.frozen 0
      have c_hO1 := hO_22.cell 1
      have f_hO1 := hO_22.frozen 1
      have c_hO2 := hO_22.cell 2
      have f_hO2 := hO_22.frozen 2
      have c_hO3 := hO_22.cell 3
      have f_hO3 := hO_22.frozen 3
      have c_hO4 := hO_22.cell 4
      have f_hO4 := hO_22.frozen 4
      have c_hR0 := hR_22.cell 0
      have f_hR0 := hR_22.frozen 0
      have c_hR1 := hR_22.cell 1
      have f_hR1 := hR_22.frozen 1
      have c_hR2 := hR_22.cell 2
      have f_hR2 := hR_22.frozen 2
      have c_hR3 := hR_22.cell 3
      have f_hR3 := hR_22.frozen 3
      have c_hR4 := hR_22.cell 4
      have f_hR4 := hR_22.frozen 4
      go_wp2_with fail
      obtain ⟨w23s0, hw23s0⟩ : ∃ Wz_, w22.setCell ⟨w.heap.size + 1, 0, none⟩ (.int .i64 4)= Wz_ := ⟨_, rfl⟩
      have hL_23s0 := hL_22.far (p := ⟨w.heap.size + 1, 0, none⟩) (by show _ ≠ w.heap.size + 1; omega) (.int .i64 4)
      have hR_23s0 := hR_22.set_ 0 (.int .i64 4)
      simp only [List.setIfInBounds_toArray, List.set_cons_succ, List.set_cons_zero] at hR_23s0
      have hO_23s0 := hO_22.far (p := ⟨w.heap.size + 1, 0, none⟩) (by show _ ≠ w.heap.size + 1; omega) (.int .i64 4)
      have hD_23s0 := hD_22.keep rCap_ok (Kp.set (p := ⟨w.heap.size + 1, 0, none⟩) (by intro b hb; have := hb.1; show b ≠ w.heap.size + 1; omega) (.int .i64 4))
      have b023s0 := b022.setCell (p := ⟨w.heap.size + 1, 0, none⟩) (by show _ ≤ w.heap.size + 1; omega) (.int .i64 4)
      have z_23s0 : w22.heap.size ≤ w23s0.heap.size := by rw [← hw23s0]; simp [World.setCell]
      rw [hw23s0] at hL_23s0 hR_23s0 hO_23s0 hD_23s0 b023s0
      rw [hw23s0]
      clear hw23s0
      clear c_hO0 f_hO0 c_hO1 f_hO1 c_hO2 f_hO2 c_hO3 f_hO3 c_hO4 f_hO4 c_hR0 f_hR0 c_hR1 f_hR1 c_hR2 f_hR2 c_hR3 f_hR3 c_hR4 f_hR4
      clear hL_22
      clear hR_22
      clear hO_22
      clear hD_22
      have c_hR0 := hR_23s0.cell 0
      have f_hR0 := hR_23s0.frozen 0
      have c_hR1 := hR_23s0.cell 1
      have f_hR1 := hR_23s0.frozen 1
      have c_hR2 := hR_23s0.cell 2
      have f_hR2 := hR_23s0.frozen 2
      have c_hR3 := hR_23s0.cell 3
      have f_hR3 := hR_23s0.frozen 3
      have c_hR4 := hR_23s0.cell 4
      have f_hR4 := hR_23s0.frozen 4
      have c_hO0 := hO_23s0.cell 0
      have f_hO0 := hO_23s0.frozen 0
      have c_hO1 := hO_23s0.cell 1
      have f_hO1 := hO_23s0.frozen 1
      have c_hO2 := hO_23s0.cell 2
      have f_hO2 := hO_23s0.frozen 2
      have c_hO3 := hO_23s0.cell 3
      have f_hO3 := hO_23s0.frozen 3
      have c_hO4 := hO_23s0.cell 4
      have f_hO4 := hO_23s0.frozen 4
      obtain ⟨w23s1, hw23s1⟩ : ∃ Wz_, w23s0.setCell ⟨w.heap.size + 1, 1, none⟩ (.int .i64 a)= Wz_ := ⟨_, rfl⟩
      have hL_23s1 := hL_23s0.far (p := ⟨w.heap.size + 1, 1, none⟩) (by show _ ≠ w.heap.size + 1; omega) (.int .i64 a)
      have hR_23s1 := hR_23s0.set_ 1 (.int .i64 a)
      simp only [List.setIfInBounds_toArray, List.set_cons_succ, List.set_cons_zero] at hR_23s1
      have hO_23s1 := hO_23s0.far (p := ⟨w.heap.size + 1, 1, none⟩) (by show _ ≠ w.heap.size + 1; omega) (.int .i64 a)
      have hD_23s1 := hD_23s0.keep rCap_ok (Kp.set (p := ⟨w.heap.size + 1, 1, none⟩) (by intro b hb; have := hb.1; show b ≠ w.heap.size + 1; omega) (.int .i64 a))
      have b023s1 := b023s0.setCell (p := ⟨w.heap.size + 1, 1, none⟩) (by show _ ≤ w.heap.size + 1; omega) (.int .i64 a)
      have z_23s1 : w23s0.heap.size ≤ w23s1.heap.size := by rw [← hw23s1]; simp [World.setCell]
      rw [hw23s1] at hL_23s1 hR_23s1 hO_23s1 hD_23s1 b023s1
      rw [hw23s1]
      clear hw23s1
      clear c_hO0 f_hO0 c_hO1 f_hO1 c_hO2 f_hO2 c_hO3 f_hO3 c_hO4 f_hO4 c_hR0 f_hR0 c_hR1 f_hR1 c_hR2 f_hR2 c_hR3 f_hR3 c_hR4 f_hR4
      clear hL_23s0
      clear hR_23s0
      clear hO_23s0
      clear hD_23s0
      have c_hR0 := hR_23s1.cell 0
      have f_hR0 := hR_23s1.frozen 0
      have c_hR1 := hR_23s1.cell 1
      have f_hR1 := hR_23s1.frozen 1
      have c_hR2 := hR_23s1.cell 2
      have f_hR2 := hR_23s1.frozen 2
      have c_hR3 := hR_23s1.cell 3
      have f_hR3 := hR_23s1.frozen 3
      have c_hR4 := hR_23s1.cell 4
      have f_hR4 := hR_23s1.frozen 4
      have c_hO0 := hO_23s1.cell 0
      have f_hO0 := hO_23s1.frozen 0
      have c_hO1 := hO_23s1.cell 1
      have f_hO1 := hO_23s1.frozen 1
      have c_hO2 := hO_23s1.cell 2
      have f_hO2 := hO_23s1.frozen 2
      have c_hO3 := hO_23s1.cell 3
      have f_hO3 := hO_23s1.frozen 3
      have c_hO4 := hO_23s1.cell 4
      have f_hO4 := hO_23s1.frozen 4
      obtain ⟨w23s2, hw23s2⟩ : ∃ Wz_, w23s1.setCell ⟨w.heap.size + 1, 2, none⟩ (.int .i64 0)= Wz_ := ⟨_, rfl⟩
      have hL_23s2 := hL_23s1.far (p := ⟨w.heap.size + 1, 2, none⟩) (by show _ ≠ w.heap.size + 1; omega) (.int .i64 0)
      have hR_23s2 := hR_23s1.set_ 2 (.int .i64 0)
      simp only [List.setIfInBounds_toArray, List.set_cons_succ, List.set_cons_zero] at hR_23s2
      have hO_23s2 := hO_23s1.far (p := ⟨w.heap.size + 1, 2, none⟩) (by show _ ≠ w.heap.size + 1; omega) (.int .i64 0)
      have hD_23s2 := hD_23s1.keep rCap_ok (Kp.set (p := ⟨w.heap.size + 1, 2, none⟩) (by intro b hb; have := hb.1; show b ≠ w.heap.size + 1; omega) (.int .i64 0))
      have b023s2 := b023s1.setCell (p := ⟨w.heap.size + 1, 2, none⟩) (by show _ ≤ w.heap.size + 1; omega) (.int .i64 0)
      have z_23s2 : w23s1.heap.size ≤ w23s2.heap.size := by rw [← hw23s2]; simp [World.setCell]
      rw [hw23s2] at hL_23s2 hR_23s2 hO_23s2 hD_23s2 b023s2
      rw [hw23s2]
      clear hw23s2
      clear c_hO0 f_hO0 c_hO1 f_hO1 c_hO2 f_hO2 c_hO3 f_hO3 c_hO4 f_hO4 c_hR0 f_hR0 c_hR1 f_hR1 c_hR2 f_hR2 c_hR3 f_hR3 c_hR4 f_hR4
      clear hL_23s1
      clear hR_23s1
      clear hO_23s1
      clear hD_23s1
      have c_hR0 := hR_23s2.cell 0
      have f_hR0 := hR_23s2.frozen 0
      have c_hR1 := hR_23s2.cell 1
      have f_hR1 := hR_23s2.frozen 1
      have c_hR2 := hR_23s2.cell 2
      have f_hR2 := hR_23s2.frozen 2
      have c_hR3 := hR_23s2.cell 3
      have f_hR3 := hR_23s2.frozen 3
      have c_hR4 := hR_23s2.cell 4
      have f_hR4 := hR_23s2.frozen 4
      have c_hO0 := hO_23s2.cell 0
      have f_hO0 := hO_23s2.frozen 0
      have c_hO1 := hO_23s2.cell 1
      have f_hO1 := hO_23s2.frozen 1
      have c_hO2 := hO_23s2.cell 2
      have f_hO2 := hO_23s2.frozen 2
      have c_hO3 := hO_23s2.cell 3
      have f_hO3 := hO_23s2.frozen 3
      have c_hO4 := hO_23s2.cell 4
      have f_hO4 := hO_23s2.frozen 4
      obtain ⟨w23s3, hw23s3⟩ : ∃ Wz_, w23s2.setCell ⟨w.heap.size + 1, 3, none⟩ (.int .u32 i)= Wz_ := ⟨_, rfl⟩
      have hL_23s3 := hL_23s2.far (p := ⟨w.heap.size + 1, 3, none⟩) (by show _ ≠ w.heap.size + 1; omega) (.int .u32 i)
      have hR_23s3 := hR_23s2.set_ 3 (.int .u32 i)
      simp only [List.setIfInBounds_toArray, List.set_cons_succ, List.set_cons_zero] at hR_23s3
      have hO_23s3 := hO_23s2.far (p := ⟨w.heap.size + 1, 3, none⟩) (by show _ ≠ w.heap.size + 1; omega) (.int .u32 i)
      have hD_23s3 := hD_23s2.keep rCap_ok (Kp.set (p := ⟨w.heap.size + 1, 3, none⟩) (by intro b hb; have := hb.1; show b ≠ w.heap.size + 1; omega) (.int .u32 i))
      have b023s3 := b023s2.setCell (p := ⟨w.heap.size + 1, 3, none⟩) (by show _ ≤ w.heap.size + 1; omega) (.int .u32 i)
      have z_23s3 : w23s2.heap.size ≤ w23s3.heap.size := by rw [← hw23s3]; simp [World.setCell]
      rw [hw23s3] at hL_23s3 hR_23s3 hO_23s3 hD_23s3 b023s3
      rw [hw23s3]
      clear hw23s3
      clear c_hO0 f_hO0 c_hO1 f_hO1 c_hO2 f_hO2 c_hO3 f_hO3 c_hO4 f_hO4 c_hR0 f_hR0 c_hR1 f_hR1 c_hR2 f_hR2 c_hR3 f_hR3 c_hR4 f_hR4
      clear hL_23s2
      clear hR_23s2
      clear hO_23s2
      clear hD_23s2
      have c_hR0 := hR_23s3.cell 0
      have f_hR0 := hR_23s3.frozen 0
      have c_hR1 := hR_23s3.cell 1
      have f_hR1 := hR_23s3.frozen 1
      have c_hR2 := hR_23s3.cell 2
      have f_hR2 := hR_23s3.frozen 2
      have c_hR3 := hR_23s3.cell 3
      have f_hR3 := hR_23s3.frozen 3
      have c_hR4 := hR_23s3.cell 4
      have f_hR4 := hR_23s3.frozen 4
      have c_hO0 := hO_23s3.cell 0
      have f_hO0 := hO_23s3.frozen 0
      have c_hO1 := hO_23s3.cell 1
      have f_hO1 := hO_23s3.frozen 1
      have c_hO2 := hO_23s3.cell 2
      have f_hO2 := hO_23s3.frozen 2
      have c_hO3 := hO_23s3.cell 3
      have f_hO3 := hO_23s3.frozen 3
      have c_hO4 := hO_23s3.cell 4
      have f_hO4 := hO_23s3.frozen 4
      obtain ⟨w23s4, hw23s4⟩ : ∃ Wz_, w23s3.setCell ⟨w.heap.size + 1, 4, none⟩ (.slice (some ⟨w20.heap.size, 0, none⟩) 1 1)= Wz_ := ⟨_, rfl⟩
      have hL_23s4 := hL_23s3.far (p := ⟨w.heap.size + 1, 4, none⟩) (by show _ ≠ w.heap.size + 1; omega) (.slice (some ⟨w20.heap.size, 0, none⟩) 1 1)
      have hR_23s4 := hR_23s3.set_ 4 (.slice (some ⟨w20.heap.size, 0, none⟩) 1 1)
      simp only [List.setIfInBounds_toArray, List.set_cons_succ, List.set_cons_zero] at hR_23s4
      have hO_23s4 := hO_23s3.far (p := ⟨w.heap.size + 1, 4, none⟩) (by show _ ≠ w.heap.size + 1; omega) (.slice (some ⟨w20.heap.size, 0, none⟩) 1 1)
      have hD_23s4 := hD_23s3.keep rCap_ok (Kp.set (p := ⟨w.heap.size + 1, 4, none⟩) (by intro b hb; have := hb.1; show b ≠ w.heap.size + 1; omega) (.slice (some ⟨w20.heap.size, 0, none⟩) 1 1))
      have b023s4 := b023s3.setCell (p := ⟨w.heap.size + 1, 4, none⟩) (by show _ ≤ w.heap.size + 1; omega) (.slice (some ⟨w20.heap.size, 0, none⟩) 1 1)
      have z_23s4 : w23s3.heap.size ≤ w23s4.heap.size := by rw [← hw23s4]; simp [World.setCell]
      rw [hw23s4] at hL_23s4 hR_23s4 hO_23s4 hD_23s4 b023s4
      rw [hw23s4]
      clear hw23s4
      clear c_hO0 f_hO0 c_hO1 f_hO1 c_hO2 f_hO2 c_hO3 f_hO3 c_hO4 f_hO4 c_hR0 f_hR0 c_hR1 f_hR1 c_hR2 f_hR2 c_hR3 f_hR3 c_hR4 f_hR4
      clear hL_23s3
      clear hR_23s3
      clear hO_23s3
      clear hD_23s3
      have c_hR0 := hR_23s4.cell 0
      have f_hR0 := hR_23s4.frozen 0
      have c_hR1 := hR_23s4.cell 1
      have f_hR1 := hR_23s4.frozen 1
      have c_hR2 := hR_23s4.cell 2
      have f_hR2 := hR_23s4.frozen 2
      have c_hR3 := hR_23s4.cell 3
      have f_hR3 := hR_23s4.frozen 3
      have c_hR4 := hR_23s4.cell 4
      have f_hR4 := hR_23s4.frozen 4
      have c_hO0 := hO_23s4.cell 0
      have f_hO0 := hO_23s4.frozen 0
      have c_hO1 := hO_23s4.cell 1
      have f_hO1 := hO_23s4.frozen 1
      have c_hO2 := hO_23s4.cell 2
      have f_hO2 := hO_23s4.frozen 2
      have c_hO3 := hO_23s4.cell 3
      have f_hO3 := hO_23s4.frozen 3
      have c_hO4 := hO_23s4.cell 4
      have f_hO4 := hO_23s4.frozen 4
      refine bodyPost_ret (opn_ret rfl _ _ (w.heap.size + 1) _ _ _ _ _ rfl hR_23s4) rfl ?_
      exact ⟨some ⟨w20.heap.size, 0, none⟩, 1, by rw [HA.out, HH.out], hD_23s4.keep rCap_ok (Kp.sub fun b hb => Nat.lt_of_lt_of_le hb.2 (by omega)), Nat.le_refl _, b023s4⟩
    · have t6 : decide ((a : Int) ≤ 65535) = false := decide_eq_false (by omega)
      have HA := Lib.hid (show mineA a = 23456 from if_neg h6)
      clear h6
      obtain ⟨W2, hW2, hO, b2⟩ := box1c W #[.int .i64 4, .int .i64 23456, .int .i64 ho, .int .u32 i, .slice none 0 0] 66
      have HW2 := Lib.hid hW2
      clear hW2
      have b02 := btr b0 b2 b0.size
      have hL2 := hL.below b2 hL.lt
      have hR2 := hR.below b2 hR.lt
      have hOl := hO.lt
      go_enter Tryd.func19, Tryd.ntmps19
      go_upto_region 1 with fail
      rw [HW.out]
      have c_hL0 := hL.cell 0
      have c_hL1 := hL.cell 1
      have c_hL2 := hL.cell 2
      have c_hL3 := hL.cell 3
      go_upto_region 2 with fail
      rw [HW2.out]
      clear c_hL0 c_hL1 c_hL2 c_hL3
      have c_hO2 := hO.cell 2
      have f_hO2 := hO.frozen 2
      go_upto_region 4 with fail
      obtain ⟨w9, hw9⟩ : ∃ Wz_, W2.setCell ⟨W.heap.size, 2, none⟩ (.int .i64 0)= Wz_ := ⟨_, rfl⟩
      have hL_9 := hL2.far (p := ⟨W.heap.size, 2, none⟩) (by show _ ≠ W.heap.size; omega) (.int .i64 0)
      have hR_9 := hR2.far (p := ⟨W.heap.size, 2, none⟩) (by show _ ≠ W.heap.size; omega) (.int .i64 0)
      have hO_9 := hO.set_ 2 (.int .i64 0)
      simp only [List.setIfInBounds_toArray, List.set_cons_succ, List.set_cons_zero] at hO_9
      have b09 := b02.setCell (p := ⟨W.heap.size, 2, none⟩) (by show _ ≤ W.heap.size; omega) (.int .i64 0)
      have z_9 : W2.heap.size ≤ w9.heap.size := by rw [← hw9]; simp [World.setCell]
      rw [hw9] at hL_9 hR_9 hO_9 b09
      rw [hw9]
      clear hw9
      clear c_hO2 f_hO2
      have c_hO2 := hO_9.cell 2
      have f_hO2 := hO_9.frozen 2
      clear c_hO2 f_hO2
      have c_hO2 := hO_9.cell 2
      have f_hO2 := hO_9.frozen 2
      have c_hL0 := hL_9.cell 0
      go_upto_region 8 with fail
      clear c_hL0
      have c_hL0 := hL_9.cell 0
      go_wp2_with fail
      refine (ref01Put32 none 0 0 [] a _ BS.none_ (by simp) (by omega) (by omega)).mono ?_
      rintro _ w20 ⟨A3, n3, c3, rfl, o3, b20⟩
      clear c_hL0 c_hO2 f_hO2
      have b020 := btr b09 b20 b09.size
      have hL_20 := hL_9.below b20 hL_9.lt
      clear hL_9
      have hR_20 := hR_9.below b20 hR_9.lt
      clear hR_9
      have hO_20 := hO_9.below b20 hO_9.lt
      clear hO_9
      have c_hL0 := hL_20.cell 0
      have c_hO2 := hO_20.cell 2
      have f_hO2 := hO_20.frozen 2
      rw [List.nil_append] at o3
      have hn3 : n3 = 4 := o3.1
      have hc3 := o3.cap
      subst hn3
      clear c_hL0
      have ca4 := (hO_20.alloc (.cells #[.int .i64 65, .slice A3 4 c3] 85)).cell 4
      have fa4 := (hO_20.alloc (.cells #[.int .i64 65, .slice A3 4 c3] 85)).frozen 4
      go_upto_region 9 with fail
      clear ca4 fa4
      obtain ⟨w21, hw21, hC, b21⟩ := box1c w20 #[.int .i64 65, .slice A3 4 c3] 85
      rw [hw21]
      have o4 := BF.own o3
      have hCl := hC.lt
      have hO20 := hO_20.lt
      have hR20 := hR_20.lt
      have o5 := o4.keep (S' := fun b => w9.heap.size ≤ b ∧ b < w21.heap.size) (fun b hb => ⟨⟨hb.1, Nat.lt_of_lt_of_le hb.2 (by omega)⟩, b21.block b hb.2⟩)
      have hD : DL rCap 2 w21 (fun b => w9.heap.size ≤ b ∧ b < w21.heap.size) (some ⟨w20.heap.size, 0, none⟩) 1 [(65, b32 a)] := DL.one rCap_ok hC ⟨b20.size, hCl⟩ ⟨A3, 4, c3, rfl, o5, hc3⟩
      clear hw21
      clear c_hO2 f_hO2
      have b021 := btr b020 b21 b020.size
      have hL_21 := hL_20.below b21 hL_20.lt
      clear hL_20
      have hR_21 := hR_20.below b21 hR_20.lt
      clear hR_20
      have hO_21 := hO_20.below b21 hO_20.lt
      clear hO_20
      have c_hO2 := hO_21.cell 2
      have f_hO2 := hO_21.frozen 2
      obtain ⟨w22, hw22⟩ : ∃ Wz_, w21.setCell ⟨W.heap.size, 4, none⟩ (.slice (some ⟨w20.heap.size, 0, none⟩) 1 1)= Wz_ := ⟨_, rfl⟩
      have hL_22 := hL_21.far (p := ⟨W.heap.size, 4, none⟩) (by show _ ≠ W.heap.size; omega) (.slice (some ⟨w20.heap.size, 0, none⟩) 1 1)
      have hR_22 := hR_21.far (p := ⟨W.heap.size, 4, none⟩) (by show _ ≠ W.heap.size; omega) (.slice (some ⟨w20.heap.size, 0, none⟩) 1 1)
      have hO_22 := hO_21.set_ 4 (.slice (some ⟨w20.heap.size, 0, none⟩) 1 1)
      simp only [List.setIfInBounds_toArray, List.set_cons_succ, List.set_cons_zero] at hO_22
      have hD_22 := hD.keep rCap_ok (Kp.set (p := ⟨W.heap.size, 4, none⟩) (by intro b hb; have := hb.1; show b ≠ W.heap.size; omega) (.slice (some ⟨w20.heap.size, 0, none⟩) 1 1))
      have b022 := b021.setCell (p := ⟨W.heap.size, 4, none⟩) (by show _ ≤ W.heap.size; omega) (.slice (some ⟨w20.heap.size, 0, none⟩) 1 1)
      have z_22 : w21.heap.size ≤ w22.heap.size := by rw [← hw22]; simp [World.setCell]
      rw [hw22] at hL_22 hR_22 hO_22 hD_22 b022
      rw [hw22]
      clear hw22
      clear c_hO2 f_hO2
      clear hL_21
      clear hR_21
      clear hO_21
      have c_hO2 := hO_22.cell 2
      have f_hO2 := hO_22.frozen 2
      clear c_hO2 f_hO2
      have c_hO0 := hO_22.cell 0
      have f_hO0 := hO_22.frozen 0
      have c_hO1 := hO_22.cell 1
      have f_hO1 := hO_22.frozen 1
      have c_hO2 := hO_22.cell 2
      have f_hO2 := hO_22.frozen 2
      have c_hO3 := hO_22.cell 3
      have f_hO3 := hO_22.frozen 3
      have c_hO4 := hO_22.cell 4
      have f_hO4 := hO_22.frozen 4
      have c_hR0 := hR_22.cell 0
      have f_hR0 := hR_22.frozen 0
      have c_hR1 := hR_22.cell 1
      have f_hR1 := hR_22.frozen 1
      have c_hR2 := hR_22.cell 2
      have f_hR2 := hR_22.frozen 2
      have c_hR3 := hR_22.cell 3
      have f_hR3 := hR_22.frozen 3
      have c_hR4 := hR_22.cell 4
      have f_hR4 := hR_22.frozen 4
      go_wp2_with fail
      obtain ⟨w23s0, hw23s0⟩ : ∃ Wz_, w22.setCell ⟨w.heap.size + 1, 0, none⟩ (.int .i64 4)= Wz_ := ⟨_, rfl⟩
      have hL_23s0 := hL_22.far (p := ⟨w.heap.size + 1, 0, none⟩) (by show _ ≠ w.heap.size + 1; omega) (.int .i64 4)
      have hR_23s0 := hR_22.set_ 0 (.int .i64 4)
      simp only [List.setIfInBounds_toArray, List.set_cons_succ, List.set_cons_zero] at hR_23s0
      have hO_23s0 := hO_22.far (p := ⟨w.heap.size + 1, 0, none⟩) (by show _ ≠ w.heap.size + 1; omega) (.int .i64 4)
      have hD_23s0 := hD_22.keep rCap_ok (Kp.set (p := ⟨w.heap.size + 1, 0, none⟩) (by intro b hb; have := hb.1; show b ≠ w.heap.size + 1; omega) (.int .i64 4))
      have b023s0 := b022.setCell (p := ⟨w.heap.size + 1, 0, none⟩) (by show _ ≤ w.heap.size + 1; omega) (.int .i64 4)
      have z_23s0 : w22.heap.size ≤ w23s0.heap.size := by rw [← hw23s0]; simp [World.setCell]
      rw [hw23s0] at hL_23s0 hR_23s0 hO_23s0 hD_23s0 b023s0
      rw [hw23s0]
      clear hw23s0
      clear c_hO0 f_hO0 c_hO1 f_hO1 c_hO2 f_hO2 c_hO3 f_hO3 c_hO4 f_hO4 c_hR0 f_hR0 c_hR1 f_hR1 c_hR2 f_hR2 c_hR3 f_hR3 c_hR4 f_hR4
      clear hL_22
      clear hR_22
      clear hO_22
      clear hD_22
      have c_hR0 := hR_23s0.cell 0
      have f_hR0 := hR_23s0.frozen 0
      have c_hR1 := hR_23s0.cell 1
      have f_hR1 := hR_23s0.frozen 1
      have c_hR2 := hR_23s0.cell 2
      have f_hR2 := hR_23s0.frozen 2
      have c_hR3 := hR_23s0.cell 3
      have f_hR3 := hR_23s0.frozen 3
      have c_hR4 := hR_23s0.cell 4
      have f_hR4 := hR_23s0.frozen 4
      have c_hO0 := hO_23s0.cell 0
      have f_hO0 := hO_23s0.frozen 0
      have c_hO1 := hO_23s0.cell 1
      have f_hO1 := hO_23s0.frozen 1
      have c_hO2 := hO_23s0.cell 2
      have f_hO2 := hO_23s0.frozen 2
      have c_hO3 := hO_23s0.cell 3
      have f_hO3 := hO_23s0.frozen 3
      have c_hO4 := hO_23s0.cell 4
      have f_hO4 := hO_23s0.frozen 4
      obtain ⟨w23s1, hw23s1⟩ : ∃ Wz_, w23s0.setCell ⟨w.heap.size + 1, 1, none⟩ (.int .i64 23456)= Wz_ := ⟨_, rfl⟩
      have hL_23s1 := hL_23s0.far (p := ⟨w.heap.size + 1, 1, none⟩) (by show _ ≠ w.heap.size + 1; omega) (.int .i64 23456)
      have hR_23s1 := hR_23s0.set_ 1 (.int .i64 23456)
      simp only [List.setIfInBounds_toArray, List.set_cons_succ, List.set_cons_zero] at hR_23s1
      have hO_23s1 := hO_23s0.far (p := ⟨w.heap.size + 1, 1, none⟩) (by show _ ≠ w.heap.size + 1; omega) (.int .i64 23456)
      have hD_23s1 := hD_23s0.keep rCap_ok (Kp.set (p := ⟨w.heap.size + 1, 1, none⟩) (by intro b hb; have := hb.1; show b ≠ w.heap.size + 1; omega) (.int .i64 23456))
      have b023s1 := b023s0.setCell (p := ⟨w.heap.size + 1, 1, none⟩) (by show _ ≤ w.heap.size + 1; omega) (.int .i64 23456)
      have z_23s1 : w23s0.heap.size ≤ w23s1.heap.size := by rw [← hw23s1]; simp [World.setCell]
      rw [hw23s1] at hL_23s1 hR_23s1 hO_23s1 hD_23s1 b023s1
      rw [hw23s1]
      clear hw23s1
      clear c_hO0 f_hO0 c_hO1 f_hO1 c_hO2 f_hO2 c_hO3 f_hO3 c_hO4 f_hO4 c_hR0 f_hR0 c_hR1 f_hR1 c_hR2 f_hR2 c_hR3 f_hR3 c_hR4 f_hR4
      clear hL_23s0
      clear hR_23s0
      clear hO_23s0
      clear hD_23s0
      have c_hR0 := hR_23s1.cell 0
      have f_hR0 := hR_23s1.frozen 0
      have c_hR1 := hR_23s1.cell 1
      have f_hR1 := hR_23s1.frozen 1
      have c_hR2 := hR_23s1.cell 2
      have f_hR2 := hR_23s1.frozen 2
      have c_hR3 := hR_23s1.cell 3
      have f_hR3 := hR_23s1.frozen 3
      have c_hR4 := hR_23s1.cell 4
      have f_hR4 := hR_23s1.frozen 4
      have c_hO0 := hO_23s1.cell 0
      have f_hO0 := hO_23s1.frozen 0
      have c_hO1 := hO_23s1.cell 1
      have f_hO1 := hO_23s1.frozen 1
      have c_hO2 := hO_23s1.cell 2
      have f_hO2 := hO_23s1.frozen 2
      have c_hO3 := hO_23s1.cell 3
      have f_hO3 := hO_23s1.frozen 3
      have c_hO4 := hO_23s1.cell 4
      have f_hO4 := hO_23s1.frozen 4
      obtain ⟨w23s2, hw23s2⟩ : ∃ Wz_, w23s1.setCell ⟨w.heap.size + 1, 2, none⟩ (.int .i64 0)= Wz_ := ⟨_, rfl⟩
      have hL_23s2 := hL_23s1.far (p := ⟨w.heap.size + 1, 2, none⟩) (by show _ ≠ w.heap.size + 1; omega) (.int .i64 0)
      have hR_23s2 := hR_23s1.set_ 2 (.int .i64 0)
      simp only [List.setIfInBounds_toArray, List.set_cons_succ, List.set_cons_zero] at hR_23s2
      have hO_23s2 := hO_23s1.far (p := ⟨w.heap.size + 1, 2, none⟩) (by show _ ≠ w.heap.size + 1; omega) (.int .i64 0)
      have hD_23s2 := hD_23s1.keep rCap_ok (Kp.set (p := ⟨w.heap.size + 1, 2, none⟩) (by intro b hb; have := hb.1; show b ≠ w.heap.size + 1; omega) (.int .i64 0))
      have b023s2 := b023s1.setCell (p := ⟨w.heap.size + 1, 2, none⟩) (by show _ ≤ w.heap.size + 1; omega) (.int .i64 0)
      have z_23s2 : w23s1.heap.size ≤ w23s2.heap.size := by rw [← hw23s2]; simp [World.setCell]
      rw [hw23s2] at hL_23s2 hR_23s2 hO_23s2 hD_23s2 b023s2
      rw [hw23s2]
      clear hw23s2
      clear c_hO0 f_hO0 c_hO1 f_hO1 c_hO2 f_hO2 c_hO3 f_hO3 c_hO4 f_hO4 c_hR0 f_hR0 c_hR1 f_hR1 c_hR2 f_hR2 c_hR3 f_hR3 c_hR4 f_hR4
      clear hL_23s1
      clear hR_23s1
      clear hO_23s1
      clear hD_23s1
      have c_hR0 := hR_23s2.cell 0
      have f_hR0 := hR_23s2.frozen 0
      have c_hR1 := hR_23s2.cell 1
      have f_hR1 := hR_23s2.frozen 1
      have c_hR2 := hR_23s2.cell 2
      have f_hR2 := hR_23s2.frozen 2
      have c_hR3 := hR_23s2.cell 3
      have f_hR3 := hR_23s2.frozen 3
      have c_hR4 := hR_23s2.cell 4
      have f_hR4 := hR_23s2.frozen 4
      have c_hO0 := hO_23s2.cell 0
      have f_hO0 := hO_23s2.frozen 0
      have c_hO1 := hO_23s2.cell 1
      have f_hO1 := hO_23s2.frozen 1
      have c_hO2 := hO_23s2.cell 2
      have f_hO2 := hO_23s2.frozen 2
      have c_hO3 := hO_23s2.cell 3
      have f_hO3 := hO_23s2.frozen 3
      have c_hO4 := hO_23s2.cell 4
      have f_hO4 := hO_23s2.frozen 4
      obtain ⟨w23s3, hw23s3⟩ : ∃ Wz_, w23s2.setCell ⟨w.heap.size + 1, 3, none⟩ (.int .u32 i)= Wz_ := ⟨_, rfl⟩
      have hL_23s3 := hL_23s2.far (p := ⟨w.heap.size + 1, 3, none⟩) (by show _ ≠ w.heap.size + 1; omega) (.int .u32 i)
      have hR_23s3 := hR_23s2.set_ 3 (.int .u32 i)
      simp only [List.setIfInBounds_toArray, List.set_cons_succ, List.set_cons_zero] at hR_23s3
      have hO_23s3 := hO_23s2.far (p := ⟨w.heap.size + 1, 3, none⟩) (by show _ ≠ w.heap.size + 1; omega) (.int .u32 i)
      have hD_23s3 := hD_23s2.keep rCap_ok (Kp.set (p := ⟨w.heap.size + 1, 3, none⟩) (by intro b hb; have := hb.1; show b ≠ w.heap.size + 1; omega) (.int .u32 i))
      have b023s3 := b023s2.setCell (p := ⟨w.heap.size + 1, 3, none⟩) (by show _ ≤ w.heap.size + 1; omega) (.int .u32 i)
      have z_23s3 : w23s2.heap.size ≤ w23s3.heap.size := by rw [← hw23s3]; simp [World.setCell]
      rw [hw23s3] at hL_23s3 hR_23s3 hO_23s3 hD_23s3 b023s3
      rw [hw23s3]
      clear hw23s3
      clear c_hO0 f_hO0 c_hO1 f_hO1 c_hO2 f_hO2 c_hO3 f_hO3 c_hO4 f_hO4 c_hR0 f_hR0 c_hR1 f_hR1 c_hR2 f_hR2 c_hR3 f_hR3 c_hR4 f_hR4
      clear hL_23s2
      clear hR_23s2
      clear hO_23s2
      clear hD_23s2
      have c_hR0 := hR_23s3.cell 0
      have f_hR0 := hR_23s3.frozen 0
      have c_hR1 := hR_23s3.cell 1
      have f_hR1 := hR_23s3.frozen 1
      have c_hR2 := hR_23s3.cell 2
      have f_hR2 := hR_23s3.frozen 2
      have c_hR3 := hR_23s3.cell 3
      have f_hR3 := hR_23s3.frozen 3
      have c_hR4 := hR_23s3.cell 4
      have f_hR4 := hR_23s3.frozen 4
      have c_hO0 := hO_23s3.cell 0
      have f_hO0 := hO_23s3.frozen 0
      have c_hO1 := hO_23s3.cell 1
      have f_hO1 := hO_23s3.frozen 1
      have c_hO2 := hO_23s3.cell 2
      have f_hO2 := hO_23s3.frozen 2
      have c_hO3 := hO_23s3.cell 3
      have f_hO3 := hO_23s3.frozen 3
      have c_hO4 := hO_23s3.cell 4
      have f_hO4 := hO_23s3.frozen 4
      obtain ⟨w23s4, hw23s4⟩ : ∃ Wz_, w23s3.setCell ⟨w.heap.size + 1, 4, none⟩ (.slice (some ⟨w20.heap.size, 0, none⟩) 1 1)= Wz_ := ⟨_, rfl⟩
      have hL_23s4 := hL_23s3.far (p := ⟨w.heap.size + 1, 4, none⟩) (by show _ ≠ w.heap.size + 1; omega) (.slice (some ⟨w20.heap.size, 0, none⟩) 1 1)
      have hR_23s4 := hR_23s3.set_ 4 (.slice (some ⟨w20.heap.size, 0, none⟩) 1 1)
      simp only [List.setIfInBounds_toArray, List.set_cons_succ, List.set_cons_zero] at hR_23s4
      have hO_23s4 := hO_23s3.far (p := ⟨w.heap.size + 1, 4, none⟩) (by show _ ≠ w.heap.size + 1; omega) (.slice (some ⟨w20.heap.size, 0, none⟩) 1 1)
      have hD_23s4 := hD_23s3.keep rCap_ok (Kp.set (p := ⟨w.heap.size + 1, 4, none⟩) (by intro b hb; have := hb.1; show b ≠ w.heap.size + 1; omega) (.slice (some ⟨w20.heap.size, 0, none⟩) 1 1))
      have b023s4 := b023s3.setCell (p := ⟨w.heap.size + 1, 4, none⟩) (by show _ ≤ w.heap.size + 1; omega) (.slice (some ⟨w20.heap.size, 0, none⟩) 1 1)
      have z_23s4 : w23s3.heap.size ≤ w23s4.heap.size := by rw [← hw23s4]; simp [World.setCell]
      rw [hw23s4] at hL_23s4 hR_23s4 hO_23s4 hD_23s4 b023s4
      rw [hw23s4]
      clear hw23s4
      clear c_hO0 f_hO0 c_hO1 f_hO1 c_hO2 f_hO2 c_hO3 f_hO3 c_hO4 f_hO4 c_hR0 f_hR0 c_hR1 f_hR1 c_hR2 f_hR2 c_hR3 f_hR3 c_hR4 f_hR4
      clear hL_23s3
      clear hR_23s3
      clear hO_23s3
      clear hD_23s3
      have c_hR0 := hR_23s4.cell 0
      have f_hR0 := hR_23s4.frozen 0
      have c_hR1 := hR_23s4.cell 1
      have f_hR1 := hR_23s4.frozen 1
      have c_hR2 := hR_23s4.cell 2
      have f_hR2 := hR_23s4.frozen 2
      have c_hR3 := hR_23s4.cell 3
      have f_hR3 := hR_23s4.frozen 3
      have c_hR4 := hR_23s4.cell 4
      have f_hR4 := hR_23s4.frozen 4
      have c_hO0 := hO_23s4.cell 0
      have f_hO0 := hO_23s4.frozen 0
      have c_hO1 := hO_23s4.cell 1
      have f_hO1 := hO_23s4.frozen 1
      have c_hO2 := hO_23s4.cell 2
      have f_hO2 := hO_23s4.frozen 2
      have c_hO3 := hO_23s4.cell 3
      have f_hO3 := hO_23s4.frozen 3
      have c_hO4 := hO_23s4.cell 4
      have f_hO4 := hO_23s4.frozen 4
      refine bodyPost_ret (opn_ret rfl _ _ (w.heap.size + 1) _ _ _ _ _ rfl hR_23s4) rfl ?_
      exact ⟨some ⟨w20.heap.size, 0, none⟩, 1, by rw [HA.out, HH.out], hD_23s4.keep rCap_ok (Kp.sub fun b hb => Nat.lt_of_lt_of_le hb.2 (by omega)), Nat.le_refl _, b023s4⟩
  have t1 : decide (ho < 0) = false := decide_eq_false h1
  by_cases h2 : ho > 65535
  · have t2 : decide (65535 < ho) = true := decide_eq_true h2
    have HH := Lib.hid (show mineH ho = 65535 by unfold mineH; rw [if_neg h1, if_pos h2])
    clear h1 h2
    by_cases h6 : a ≤ 65535
    · have t6 : decide ((a : Int) ≤ 65535) = true := decide_eq_true (by omega)
      have HA := Lib.hid (show mineA a = a from if_pos h6)
      clear h6
      obtain ⟨W2, hW2, hO, b2⟩ := box1c W #[.int .i64 4, .int .i64 23456, .int .i64 ho, .int .u32 i, .slice none 0 0] 66
      have HW2 := Lib.hid hW2
      clear hW2
      have b02 := btr b0 b2 b0.size
      have hL2 := hL.below b2 hL.lt
      have hR2 := hR.below b2 hR.lt
      have hOl := hO.lt
      go_enter Tryd.func19, Tryd.ntmps19
      go_upto_region 1 with fail
      rw [HW.out]
      have c_hL0 := hL.cell 0
      have c_hL1 := hL.cell 1
      have c_hL2 := hL.cell 2
      have c_hL3 := hL.cell 3
      go_upto_region 2 with fail
      rw [HW2.out]
      clear c_hL0 c_hL1 c_hL2 c_hL3
      have c_hO2 := hO.cell 2
      have f_hO2 := hO.frozen 2
      go_upto_region 6 with fail
      obtain ⟨w9, hw9⟩ : ∃ Wz_, W2.setCell ⟨W.heap.size, 2, none⟩ (.int .i64 65535)= Wz_ := ⟨_, rfl⟩
      have hL_9 := hL2.far (p := ⟨W.heap.size, 2, none⟩) (by show _ ≠ W.heap.size; omega) (.int .i64 65535)
      have hR_9 := hR2.far (p := ⟨W.heap.size, 2, none⟩) (by show _ ≠ W.heap.size; omega) (.int .i64 65535)
      have hO_9 := hO.set_ 2 (.int .i64 65535)
      simp only [List.setIfInBounds_toArray, List.set_cons_succ, List.set_cons_zero] at hO_9
      have b09 := b02.setCell (p := ⟨W.heap.size, 2, none⟩) (by show _ ≤ W.heap.size; omega) (.int .i64 65535)
      have z_9 : W2.heap.size ≤ w9.heap.size := by rw [← hw9]; simp [World.setCell]
      rw [hw9] at hL_9 hR_9 hO_9 b09
      rw [hw9]
      clear hw9
      clear c_hO2 f_hO2
      have c_hO2 := hO_9.cell 2
      have f_hO2 := hO_9.frozen 2
      clear c_hO2 f_hO2
      have c_hO2 := hO_9.cell 2
      have f_hO2 := hO_9.frozen 2
      have c_hL0 := hL_9.cell 0
      clear c_hO2 f_hO2
      have c_hO1 := hO_9.cell 1
      have f_hO1 := hO_9.frozen 1
      have c_hO2 := hO_9.cell 2
      have f_hO2 := hO_9.frozen 2
      go_upto_region 8 with fail
      obtain ⟨w10, hw10⟩ : ∃ Wz_, w9.setCell ⟨W.heap.size, 1, none⟩ (.int .i64 a)= Wz_ := ⟨_, rfl⟩
      have hL_10 := hL_9.far (p := ⟨W.heap.size, 1, none⟩) (by show _ ≠ W.heap.size; omega) (.int .i64 a)
      have hR_10 := hR_9.far (p := ⟨W.heap.size, 1, none⟩) (by show _ ≠ W.heap.size; omega) (.int .i64 a)
      have hO_10 := hO_9.set_ 1 (.int .i64 a)
      simp only [List.setIfInBounds_toArray, List.set_cons_succ, List.set_cons_zero] at hO_10
      have b010 := b09.setCell (p := ⟨W.heap.size, 1, none⟩) (by show _ ≤ W.heap.size; omega) (.int .i64 a)
      have z_10 : w9.heap.size ≤ w10.heap.size := by rw [← hw10]; simp [World.setCell]
      rw [hw10] at hL_10 hR_10 hO_10 b010
      rw [hw10]
      clear hw10
      clear c_hL0 c_hO1 f_hO1 c_hO2 f_hO2
      clear hL_9
      clear hR_9
      clear hO_9
      have c_hL0 := hL_10.cell 0
      have c_hO1 := hO_10.cell 1
      have f_hO1 := hO_10.frozen 1
      have c_hO2 := hO_10.cell 2
      have f_hO2 := hO_10.frozen 2
      clear c_hL0
      have c_hL0 := hL_10.cell 0
      go_wp2_with fail
      refine (ref01Put32 none 0 0 [] a _ BS.none_ (by simp) (by omega) (by omega)).mono ?_
      rintro _ w20 ⟨A3, n3, c3, rfl, o3, b20⟩
      clear c_hL0 c_hO1 f_hO1 c_hO2 f_hO2
      have b020 := btr b010 b20 b010.size
      have hL_20 := hL_10.below b20 hL_10.lt
      clear hL_10
      have hR_20 := hR_10.below b20 hR_10.lt
      clear hR_10
      have hO_20 := hO_10.below b20 hO_10.lt
      clear hO_10
      have c_hL0 := hL_20.cell 0
      have c_hO1 := hO_20.cell 1
      have f_hO1 := hO_20.frozen 1
      have c_hO2 := hO_20.cell 2
      have f_hO2 := hO_20.frozen 2
      rw [List.nil_append] at o3
      have hn3 : n3 = 4 := o3.1
      have hc3 := o3.cap
      subst hn3
      clear c_hL0
      have ca4 := (hO_20.alloc (.cells #[.int .i64 65, .slice A3 4 c3] 85)).cell 4
      have fa4 := (hO_20.alloc (.cells #[.int .i64 65, .slice A3 4 c3] 85)).frozen 4
      go_upto_region 9 with fail
      clear ca4 fa4
      obtain ⟨w21, hw21, hC, b21⟩ := box1c w20 #[.int .i64 65, .slice A3 4 c3] 85
      rw [hw21]
      have o4 := BF.own o3
      have hCl := hC.lt
      have hO20 := hO_20.lt
      have hR20 := hR_20.lt
      have o5 := o4.keep (S' := fun b => w10.heap.size ≤ b ∧ b < w21.heap.size) (fun b hb => ⟨⟨hb.1, Nat.lt_of_lt_of_le hb.2 (by omega)⟩, b21.block b hb.2⟩)
      have hD : DL rCap 2 w21 (fun b => w10.heap.size ≤ b ∧ b < w21.heap.size) (some ⟨w20.heap.size, 0, none⟩) 1 [(65, b32 a)] := DL.one rCap_ok hC ⟨b20.size, hCl⟩ ⟨A3, 4, c3, rfl, o5, hc3⟩
      clear hw21
      clear c_hO1 f_hO1 c_hO2 f_hO2
      have b021 := btr b020 b21 b020.size
      have hL_21 := hL_20.below b21 hL_20.lt
      clear hL_20
      have hR_21 := hR_20.below b21 hR_20.lt
      clear hR_20
      have hO_21 := hO_20.below b21 hO_20.lt
      clear hO_20
      have c_hO1 := hO_21.cell 1
      have f_hO1 := hO_21.frozen 1
      have c_hO2 := hO_21.cell 2
      have f_hO2 := hO_21.frozen 2
      obtain ⟨w22, hw22⟩ : ∃ Wz_, w21.setCell ⟨W.heap.size, 4, none⟩ (.slice (some ⟨w20.heap.size, 0, none⟩) 1 1)= Wz_ := ⟨_, rfl⟩
      have hL_22 := hL_21.far (p := ⟨W.heap.size, 4, none⟩) (by show _ ≠ W.heap.size; omega) (.slice (some ⟨w20.heap.size, 0, none⟩) 1 1)
      have hR_22 := hR_21.far (p := ⟨W.heap.size, 4, none⟩) (by show _ ≠ W.heap.size; omega) (.slice (some ⟨w20.heap.size, 0, none⟩) 1 1)
      have hO_22 := hO_21.set_ 4 (.slice (some ⟨w20.heap.size, 0, none⟩) 1 1)
      simp only [List.setIfInBounds_toArray, List.set_cons_succ, List.set_cons_zero] at hO_22
      have hD_22 := hD.keep rCap_ok (Kp.set (p := ⟨W.heap.size, 4, none⟩) (by intro b hb; have := hb.1; show b ≠ W.heap.size; omega) (.slice (some ⟨w20.heap.size, 0, none⟩) 1 1))
      have b022 := b021.setCell (p := ⟨W.heap.size, 4, none⟩) (by show _ ≤ W.heap.size; omega) (.slice (some ⟨w20.heap.size, 0, none⟩) 1 1)
      have z_22 : w21.heap.size ≤ w22.heap.size := by rw [← hw22]; simp [World.setCell]
      rw [hw22] at hL_22 hR_22 hO_22 hD_22 b022
      rw [hw22]
      clear hw22
      clear c_hO1 f_hO1 c_hO2 f_hO2
      clear hL_21
      clear hR_21
      clear hO_21
      have c_hO1 := hO_22.cell 1
      have f_hO1 := hO_22.frozen 1
      have c_hO2 := hO_22.cell 2
      have f_hO2 := hO_22.frozen 2
      clear c_hO1 c_hO2 f_hO1 f_hO2
      have c_hO0 := hO_22.cell 0
      have f_hO0 := hO_22.frozen 0
      have c_hO1 := hO_22.cell 1
      have f_hO1 := hO_22.frozen 1
      have c_hO2 := hO_22.cell 2
      have f_hO2 := hO_22.frozen 2
      have c_hO3 := hO_22.cell 3
      have f_hO3 := hO_22.frozen 3
      have c_hO4 := hO_22.cell 4
      have f_hO4 := hO_22.frozen 4
      have c_hR0 := hR_22.cell 0
      have f_hR0 := hR_22.frozen 0
      have c_hR1 := hR_22.cell 1
      have f_hR1 := hR_22.frozen 1
      have c_hR2 := hR_22.cell 2
      have f_hR2 := hR_22.frozen 2
      have c_hR3 := hR_22.cell 3
      have f_hR3 := hR_22.frozen 3
      have c_hR4 := hR_22.cell 4
      have f_hR4 := hR_22.frozen 4
      go_wp2_with fail
      obtain ⟨w23s0, hw23s0⟩ : ∃ Wz_, w22.setCell ⟨w.heap.size + 1, 0, none⟩ (.int .i64 4)= Wz_ := ⟨_, rfl⟩
      have hL_23s0 := hL_22.far (p := ⟨w.heap.size + 1, 0, none⟩) (by show _ ≠ w.heap.size + 1; omega) (.int .i64 4)
      have hR_23s0 := hR_22.set_ 0 (.int .i64 4)
      simp only [List.setIfInBounds_toArray, List.set_cons_succ, List.set_cons_zero] at hR_23s0
      have hO_23s0 := hO_22.far (p := ⟨w.heap.size + 1, 0, none⟩) (by show _ ≠ w.heap.size + 1; omega) (.int .i64 4)
      have hD_23s0 := hD_22.keep rCap_ok (Kp.set (p := ⟨w.heap.size + 1, 0, none⟩) (by intro b hb; have := hb.1; show b ≠ w.heap.size + 1; omega) (.int .i64 4))
      have b023s0 := b022.setCell (p := ⟨w.heap.size + 1, 0, none⟩) (by show _ ≤ w.heap.size + 1; omega) (.int .i64 4)
      have z_23s0 : w22.heap.size ≤ w23s0.heap.size := by rw [← hw23s0]; simp [World.setCell]
      rw [hw23s0] at hL_23s0 hR_23s0 hO_23s0 hD_23s0 b023s0
      rw [hw23s0]
      clear hw23s0
      clear c_hO0 f_hO0 c_hO1 f_hO1 c_hO2 f_hO2 c_hO3 f_hO3 c_hO4 f_hO4 c_hR0 f_hR0 c_hR1 f_hR1 c_hR2 f_hR2 c_hR3 f_hR3 c_hR4 f_hR4
      clear hL_22
      clear hR_22
      clear hO_22
      clear hD_22
      have c_hR0 := hR_23s0.cell 0
      have f_hR0 := hR_23s0.frozen 0
      have c_hR1 := hR_23s0.cell 1
      have f_hR1 := hR_23s0.frozen 1
      have c_hR2 := hR_23s0.cell 2
      have f_hR2 := hR_23s0.frozen 2
      have c_hR3 := hR_23s0.cell 3
      have f_hR3 := hR_23s0.frozen 3
      have c_hR4 := hR_23s0.cell 4
      have f_hR4 := hR_23s0.frozen 4
      have c_hO0 := hO_23s0.cell 0
      have f_hO0 := hO_23s0.frozen 0
      have c_hO1 := hO_23s0.cell 1
      have f_hO1 := hO_23s0.frozen 1
      have c_hO2 := hO_23s0.cell 2
      have f_hO2 := hO_23s0.frozen 2
      have c_hO3 := hO_23s0.cell 3
      have f_hO3 := hO_23s0.frozen 3
      have c_hO4 := hO_23s0.cell 4
      have f_hO4 := hO_23s0.frozen 4
      obtain ⟨w23s1, hw23s1⟩ : ∃ Wz_, w23s0.setCell ⟨w.heap.size + 1, 1, none⟩ (.int .i64 a)= Wz_ := ⟨_, rfl⟩
      have hL_23s1 := hL_23s0.far (p := ⟨w.heap.size + 1, 1, none⟩) (by show _ ≠ w.heap.size + 1; omega) (.int .i64 a)
      have hR_23s1 := hR_23s0.set_ 1 (.int .i64 a)
      simp only [List.setIfInBounds_toArray, List.set_cons_succ, List.set_cons_zero] at hR_23s1
      have hO_23s1 := hO_23s0.far (p := ⟨w.heap.size + 1, 1, none⟩) (by show _ ≠ w.heap.size + 1; omega) (.int .i64 a)
      have hD_23s1 := hD_23s0.keep rCap_ok (Kp.set (p := ⟨w.heap.size + 1, 1, none⟩) (by intro b hb; have := hb.1; show b ≠ w.heap.size + 1; omega) (.int .i64 a))
      have b023s1 := b023s0.setCell (p := ⟨w.heap.size + 1, 1, none⟩) (by show _ ≤ w.heap.size + 1; omega) (.int .i64 a)
      have z_23s1 : w23s0.heap.size ≤ w23s1.heap.size := by rw [← hw23s1]; simp [World.setCell]
      rw [hw23s1] at hL_23s1 hR_23s1 hO_23s1 hD_23s1 b023s1
      rw [hw23s1]
      clear hw23s1
      clear c_hO0 f_hO0 c_hO1 f_hO1 c_hO2 f_hO2 c_hO3 f_hO3 c_hO4 f_hO4 c_hR0 f_hR0 c_hR1 f_hR1 c_hR2 f_hR2 c_hR3 f_hR3 c_hR4 f_hR4
      clear hL_23s0
      clear hR_23s0
      clear hO_23s0
      clear hD_23s0
      have c_hR0 := hR_23s1.cell 0
      have f_hR0 := hR_23s1.frozen 0
      have c_hR1 := hR_23s1.cell 1
      have f_hR1 := hR_23s1.frozen 1
      have c_hR2 := hR_23s1.cell 2
      have f_hR2 := hR_23s1.frozen 2
      have c_hR3 := hR_23s1.cell 3
      have f_hR3 := hR_23s1.frozen 3
      have c_hR4 := hR_23s1.cell 4
      have f_hR4 := hR_23s1.frozen 4
      have c_hO0 := hO_23s1.cell 0
      have f_hO0 := hO_23s1.frozen 0
      have c_hO1 := hO_23s1.cell 1
      have f_hO1 := hO_23s1.frozen 1
      have c_hO2 := hO_23s1.cell 2
      have f_hO2 := hO_23s1.frozen 2
      have c_hO3 := hO_23s1.cell 3
      have f_hO3 := hO_23s1.frozen 3
      have c_hO4 := hO_23s1.cell 4
      have f_hO4 := hO_23s1.frozen 4
      obtain ⟨w23s2, hw23s2⟩ : ∃ Wz_, w23s1.setCell ⟨w.heap.size + 1, 2, none⟩ (.int .i64 65535)= Wz_ := ⟨_, rfl⟩
      have hL_23s2 := hL_23s1.far (p := ⟨w.heap.size + 1, 2, none⟩) (by show _ ≠ w.heap.size + 1; omega) (.int .i64 65535)
      have hR_23s2 := hR_23s1.set_ 2 (.int .i64 65535)
      simp only [List.setIfInBounds_toArray, List.set_cons_succ, List.set_cons_zero] at hR_23s2
      have hO_23s2 := hO_23s1.far (p := ⟨w.heap.size + 1, 2, none⟩) (by show _ ≠ w.heap.size + 1; omega) (.int .i64 65535)
      have hD_23s2 := hD_23s1.keep rCap_ok (Kp.set (p := ⟨w.heap.size + 1, 2, none⟩) (by intro b hb; have := hb.1; show b ≠ w.heap.size + 1; omega) (.int .i64 65535))
      have b023s2 := b023s1.setCell (p := ⟨w.heap.size + 1, 2, none⟩) (by show _ ≤ w.heap.size + 1; omega) (.int .i64 65535)
      have z_23s2 : w23s1.heap.size ≤ w23s2.heap.size := by rw [← hw23s2]; simp [World.setCell]
      rw [hw23s2] at hL_23s2 hR_23s2 hO_23s2 hD_23s2 b023s2
      rw [hw23s2]
      clear hw23s2
      clear c_hO0 f_hO0 c_hO1 f_hO1 c_hO2 f_hO2 c_hO3 f_hO3 c_hO4 f_hO4 c_hR0 f_hR0 c_hR1 f_hR1 c_hR2 f_hR2 c_hR3 f_hR3 c_hR4 f_hR4
      clear hL_23s1
      clear hR_23s1
      clear hO_23s1
      clear hD_23s1
      have c_hR0 := hR_23s2.cell 0
      have f_hR0 := hR_23s2.frozen 0
      have c_hR1 := hR_23s2.cell 1
      have f_hR1 := hR_23s2.frozen 1
      have c_hR2 := hR_23s2.cell 2
      have f_hR2 := hR_23s2.frozen 2
      have c_hR3 := hR_23s2.cell 3
      have f_hR3 := hR_23s2.frozen 3
      have c_hR4 := hR_23s2.cell 4
      have f_hR4 := hR_23s2.frozen 4
      have c_hO0 := hO_23s2.cell 0
      have f_hO0 := hO_23s2.frozen 0
      have c_hO1 := hO_23s2.cell 1
      have f_hO1 := hO_23s2.frozen 1
      have c_hO2 := hO_23s2.cell 2
      have f_hO2 := hO_23s2.frozen 2
      have c_hO3 := hO_23s2.cell 3
      have f_hO3 := hO_23s2.frozen 3
      have c_hO4 := hO_23s2.cell 4
      have f_hO4 := hO_23s2.frozen 4
      obtain ⟨w23s3, hw23s3⟩ : ∃ Wz_, w23s2.setCell ⟨w.heap.size + 1, 3, none⟩ (.int .u32 i)= Wz_ := ⟨_, rfl⟩
      have hL_23s3 := hL_23s2.far (p := ⟨w.heap.size + 1, 3, none⟩) (by show _ ≠ w.heap.size + 1; omega) (.int .u32 i)
      have hR_23s3 := hR_23s2.set_ 3 (.int .u32 i)
      simp only [List.setIfInBounds_toArray, List.set_cons_succ, List.set_cons_zero] at hR_23s3
      have hO_23s3 := hO_23s2.far (p := ⟨w.heap.size + 1, 3, none⟩) (by show _ ≠ w.heap.size + 1; omega) (.int .u32 i)
      have hD_23s3 := hD_23s2.keep rCap_ok (Kp.set (p := ⟨w.heap.size + 1, 3, none⟩) (by intro b hb; have := hb.1; show b ≠ w.heap.size + 1; omega) (.int .u32 i))
      have b023s3 := b023s2.setCell (p := ⟨w.heap.size + 1, 3, none⟩) (by show _ ≤ w.heap.size + 1; omega) (.int .u32 i)
      have z_23s3 : w23s2.heap.size ≤ w23s3.heap.size := by rw [← hw23s3]; simp [World.setCell]
      rw [hw23s3] at hL_23s3 hR_23s3 hO_23s3 hD_23s3 b023s3
      rw [hw23s3]
      clear hw23s3
      clear c_hO0 f_hO0 c_hO1 f_hO1 c_hO2 f_hO2 c_hO3 f_hO3 c_hO4 f_hO4 c_hR0 f_hR0 c_hR1 f_hR1 c_hR2 f_hR2 c_hR3 f_hR3 c_hR4 f_hR4
      clear hL_23s2
      clear hR_23s2
      clear hO_23s2
      clear hD_23s2
      have c_hR0 := hR_23s3.cell 0
      have f_hR0 := hR_23s3.frozen 0
      have c_hR1 := hR_23s3.cell 1
      have f_hR1 := hR_23s3.frozen 1
      have c_hR2 := hR_23s3.cell 2
      have f_hR2 := hR_23s3.frozen 2
      have c_hR3 := hR_23s3.cell 3
      have f_hR3 := hR_23s3.frozen 3
      have c_hR4 := hR_23s3.cell 4
      have f_hR4 := hR_23s3.frozen 4
      have c_hO0 := hO_23s3.cell 0
      have f_hO0 := hO_23s3.frozen 0
      have c_hO1 := hO_23s3.cell 1
      have f_hO1 := hO_23s3.frozen 1
      have c_hO2 := hO_23s3.cell 2
      have f_hO2 := hO_23s3.frozen 2
      have c_hO3 := hO_23s3.cell 3
      have f_hO3 := hO_23s3.frozen 3
      have c_hO4 := hO_23s3.cell 4
      have f_hO4 := hO_23s3.frozen 4
      obtain ⟨w23s4, hw23s4⟩ : ∃ Wz_, w23s3.setCell ⟨w.heap.size + 1, 4, none⟩ (.slice (some ⟨w20.heap.size, 0, none⟩) 1 1)= Wz_ := ⟨_, rfl⟩
      have hL_23s4 := hL_23s3.far (p := ⟨w.heap.size + 1, 4, none⟩) (by show _ ≠ w.heap.size + 1; omega) (.slice (some ⟨w20.heap.size, 0, none⟩) 1 1)
      have hR_23s4 := hR_23s3.set_ 4 (.slice (some ⟨w20.heap.size, 0, none⟩) 1 1)
      simp only [List.setIfInBounds_toArray, List.set_cons_succ, List.set_cons_zero] at hR_23s4
      have hO_23s4 := hO_23s3.far (p := ⟨w.heap.size + 1, 4, none⟩) (by show _ ≠ w.heap.size + 1; omega) (.slice (some ⟨w20.heap.size, 0, none⟩) 1 1)
      have hD_23s4 := hD_23s3.keep rCap_ok (Kp.set (p := ⟨w.heap.size + 1, 4, none⟩) (by intro b hb; have := hb.1; show b ≠ w.heap.size + 1; omega) (.slice (some ⟨w20.heap.size, 0, none⟩) 1 1))
      have b023s4 := b023s3.setCell (p := ⟨w.heap.size + 1, 4, none⟩) (by show _ ≤ w.heap.size + 1; omega) (.slice (some ⟨w20.heap.size, 0, none⟩) 1 1)
      have z_23s4 : w23s3.heap.size ≤ w23s4.heap.size := by rw [← hw23s4]; simp [World.setCell]
      rw [hw23s4] at hL_23s4 hR_23s4 hO_23s4 hD_23s4 b023s4
      rw [hw23s4]
      clear hw23s4
      clear c_hO0 f_hO0 c_hO1 f_hO1 c_hO2 f_hO2 c_hO3 f_hO3 c_hO4 f_hO4 c_hR0 f_hR0 c_hR1 f_hR1 c_hR2 f_hR2 c_hR3 f_hR3 c_hR4 f_hR4
      clear hL_23s3
      clear hR_23s3
      clear hO_23s3
      clear hD_23s3
      have c_hR0 := hR_23s4.cell 0
      have f_hR0 := hR_23s4.frozen 0
      have c_hR1 := hR_23s4.cell 1
      have f_hR1 := hR_23s4.frozen 1
      have c_hR2 := hR_23s4.cell 2
      have f_hR2 := hR_23s4.frozen 2
      have c_hR3 := hR_23s4.cell 3
      have f_hR3 := hR_23s4.frozen 3
      have c_hR4 := hR_23s4.cell 4
      have f_hR4 := hR_23s4.frozen 4
      have c_hO0 := hO_23s4.cell 0
      have f_hO0 := hO_23s4.frozen 0
      have c_hO1 := hO_23s4.cell 1
      have f_hO1 := hO_23s4.frozen 1
      have c_hO2 := hO_23s4.cell 2
      have f_hO2 := hO_23s4.frozen 2
      have c_hO3 := hO_23s4.cell 3
      have f_hO3 := hO_23s4.frozen 3
      have c_hO4 := hO_23s4.cell 4
      have f_hO4 := hO_23s4.frozen 4
      refine bodyPost_ret (opn_ret rfl _ _ (w.heap.size + 1) _ _ _ _ _ rfl hR_23s4) rfl ?_
      exact ⟨some ⟨w20.heap.size, 0, none⟩, 1, by rw [HA.out, HH.out], hD_23s4.keep rCap_ok (Kp.sub fun b hb => Nat.lt_of_lt_of_le hb.2 (by omega)), Nat.le_refl _, b023s4⟩
    · have t6 : decide ((a : Int) ≤ 65535) = false := decide_eq_false (by omega)
      have HA := Lib.hid (show mineA a = 23456 from if_neg h6)
      clear h6
      obtain ⟨W2, hW2, hO, b2⟩ := box1c W #[.int .i64 4, .int .i64 23456, .int .i64 ho, .int .u32 i, .slice none 0 0] 66
      have HW2 := Lib.hid hW2
      clear hW2
      have b02 := btr b0 b2 b0.size
      have hL2 := hL.below b2 hL.lt
      have hR2 := hR.below b2 hR.lt
      have hOl := hO.lt
      go_enter Tryd.func19, Tryd.ntmps19
      go_upto_region 1 with fail
      rw [HW.out]
      have c_hL0 := hL.cell 0
      have c_hL1 := hL.cell 1
      have c_hL2 := hL.cell 2
      have c_hL3 := hL.cell 3
      go_upto_region 2 with fail
      rw [HW2.out]
      clear c_hL0 c_hL1 c_hL2 c_hL3
      have c_hO2 := hO.cell 2
      have f_hO2 := hO.frozen 2
      go_upto_region 6 with fail
      obtain ⟨w9, hw9⟩ : ∃ Wz_, W2.setCell ⟨W.heap.size, 2, none⟩ (.int .i64 65535)= Wz_ := ⟨_, rfl⟩
      have hL_9 := hL2.far (p := ⟨W.heap.size, 2, none⟩) (by show _ ≠ W.heap.size; omega) (.int .i64 65535)
      have hR_9 := hR2.far (p := ⟨W.heap.size, 2, none⟩) (by show _ ≠ W.heap.size; omega) (.int .i64 65535)
      have hO_9 := hO.set_ 2 (.int .i64 65535)
      simp only [List.setIfInBounds_toArray, List.set_cons_succ, List.set_cons_zero] at hO_9
      have b09 := b02.setCell (p := ⟨W.heap.size, 2, none⟩) (by show _ ≤ W.heap.size; omega) (.int .i64 65535)
      have z_9 : W2.heap.size ≤ w9.heap.size := by rw [← hw9]; simp [World.setCell]
      rw [hw9] at hL_9 hR_9 hO_9 b09
      rw [hw9]
      clear hw9
      clear c_hO2 f_hO2
      have c_hO2 := hO_9.cell 2
      have f_hO2 := hO_9.frozen 2
      clear c_hO2 f_hO2
      have c_hO2 := hO_9.cell 2
      have f_hO2 := hO_9.frozen 2
      have c_hL0 := hL_9.cell 0
      go_upto_region 8 with fail
      clear c_hL0
      have c_hL0 := hL_9.cell 0
      go_wp2_with fail
      refine (ref01Put32 none 0 0 [] a _ BS.none_ (by simp) (by omega) (by omega)).mono ?_
      rintro _ w20 ⟨A3, n3, c3, rfl, o3, b20⟩
      clear c_hL0 c_hO2 f_hO2
      have b020 := btr b09 b20 b09.size
      have hL_20 := hL_9.below b20 hL_9.lt
      clear hL_9
      have hR_20 := hR_9.below b20 hR_9.lt
      clear hR_9
      have hO_20 := hO_9.below b20 hO_9.lt
      clear hO_9
      have c_hL0 := hL_20.cell 0
      have c_hO2 := hO_20.cell 2
      have f_hO2 := hO_20.frozen 2
      rw [List.nil_append] at o3
      have hn3 : n3 = 4 := o3.1
      have hc3 := o3.cap
      subst hn3
      clear c_hL0
      have ca4 := (hO_20.alloc (.cells #[.int .i64 65, .slice A3 4 c3] 85)).cell 4
      have fa4 := (hO_20.alloc (.cells #[.int .i64 65, .slice A3 4 c3] 85)).frozen 4
      go_upto_region 9 with fail
      clear ca4 fa4
      obtain ⟨w21, hw21, hC, b21⟩ := box1c w20 #[.int .i64 65, .slice A3 4 c3] 85
      rw [hw21]
      have o4 := BF.own o3
      have hCl := hC.lt
      have hO20 := hO_20.lt
      have hR20 := hR_20.lt
      have o5 := o4.keep (S' := fun b => w9.heap.size ≤ b ∧ b < w21.heap.size) (fun b hb => ⟨⟨hb.1, Nat.lt_of_lt_of_le hb.2 (by omega)⟩, b21.block b hb.2⟩)
      have hD : DL rCap 2 w21 (fun b => w9.heap.size ≤ b ∧ b < w21.heap.size) (some ⟨w20.heap.size, 0, none⟩) 1 [(65, b32 a)] := DL.one rCap_ok hC ⟨b20.size, hCl⟩ ⟨A3, 4, c3, rfl, o5, hc3⟩
      clear hw21
      clear c_hO2 f_hO2
      have b021 := btr b020 b21 b020.size
      have hL_21 := hL_20.below b21 hL_20.lt
      clear hL_20
      have hR_21 := hR_20.below b21 hR_20.lt
      clear hR_20
      have hO_21 := hO_20.below b21 hO_20.lt
      clear hO_20
      have c_hO2 := hO_21.cell 2
      have f_hO2 := hO_21.frozen 2
      obtain ⟨w22, hw22⟩ : ∃ Wz_, w21.setCell ⟨W.heap.size, 4, none⟩ (.slice (some ⟨w20.heap.size, 0, none⟩) 1 1)= Wz_ := ⟨_, rfl⟩
      have hL_22 := hL_21.far (p := ⟨W.heap.size, 4, none⟩) (by show _ ≠ W.heap.size; omega) (.slice (some ⟨w20.heap.size, 0, none⟩) 1 1)
      have hR_22 := hR_21.far (p := ⟨W.heap.size, 4, none⟩) (by show _ ≠ W.heap.size; omega) (.slice (some ⟨w20.heap.size, 0, none⟩) 1 1)
      have hO_22 := hO_21.set_ 4 (.slice (some ⟨w20.heap.size, 0, none⟩) 1 1)
      simp only [List.setIfInBounds_toArray, List.set_cons_succ, List.set_cons_zero] at hO_22
      have hD_22 := hD.keep rCap_ok (Kp.set (p := ⟨W.heap.size, 4, none⟩) (by intro b hb; have := hb.1; show b ≠ W.heap.size; omega) (.slice (some ⟨w20.heap.size, 0, none⟩) 1 1))
      have b022 := b021.setCell (p := ⟨W.heap.size, 4, none⟩) (by show _ ≤ W.heap.size; omega) (.slice (some ⟨w20.heap.size, 0, none⟩) 1 1)
      have z_22 : w21.heap.size ≤ w22.heap.size := by rw [← hw22]; simp [World.setCell]
      rw [hw22] at hL_22 hR_22 hO_22 hD_22 b022
      rw [hw22]
      clear hw22
      clear c_hO2 f_hO2
      clear hL_21
      clear hR_21
      clear hO_21
      have c_hO2 := hO_22.cell 2
      have f_hO2 := hO_22.frozen 2
      clear c_hO2 f_hO2
      have c_hO0 := hO_22.cell 0
      have f_hO0 := hO_22.frozen 0
      have c_hO1 := hO_22.cell 1
      have f_hO1 := hO_22.frozen 1
      have c_hO2 := hO_22.cell 2
      have f_hO2 := hO_22.frozen 2
      have c_hO3 := hO_22.cell 3
      have f_hO3 := hO_22.frozen 3
      have c_hO4 := hO_22.cell 4
      have f_hO4 := hO_22.frozen 4
      have c_hR0 := hR_22.cell 0
      have f_hR0 := hR_22.frozen 0
      have c_hR1 := hR_22.cell 1
      have f_hR1 := hR_22.frozen 1
      have c_hR2 := hR_22.cell 2
      have f_hR2 := hR_22.frozen 2
      have c_hR3 := hR_22.cell 3
      have f_hR3 := hR_22.frozen 3
      have c_hR4 := hR_22.cell 4
      have f_hR4 := hR_22.frozen 4
      go_wp2_with fail
      obtain ⟨w23s0, hw23s0⟩ : ∃ Wz_, w22.setCell ⟨w.heap.size + 1, 0, none⟩ (.int .i64 4)= Wz_ := ⟨_, rfl⟩
      have hL_23s0 := hL_22.far (p := ⟨w.heap.size + 1, 0, none⟩) (by show _ ≠ w.heap.size + 1; omega) (.int .i64 4)
      have hR_23s0 := hR_22.set_ 0 (.int .i64 4)
      simp only [List.setIfInBounds_toArray, List.set_cons_succ, List.set_cons_zero] at hR_23s0
      have hO_23s0 := hO_22.far (p := ⟨w.heap.size + 1, 0, none⟩) (by show _ ≠ w.heap.size + 1; omega) (.int .i64 4)
      have hD_23s0 := hD_22.keep rCap_ok (Kp.set (p := ⟨w.heap.size + 1, 0, none⟩) (by intro b hb; have := hb.1; show b ≠ w.heap.size + 1; omega) (.int .i64 4))
      have b023s0 := b022.setCell (p := ⟨w.heap.size + 1, 0, none⟩) (by show _ ≤ w.heap.size + 1; omega) (.int .i64 4)
      have z_23s0 : w22.heap.size ≤ w23s0.heap.size := by rw [← hw23s0]; simp [World.setCell]
      rw [hw23s0] at hL_23s0 hR_23s0 hO_23s0 hD_23s0 b023s0
      rw [hw23s0]
      clear hw23s0
      clear c_hO0 f_hO0 c_hO1 f_hO1 c_hO2 f_hO2 c_hO3 f_hO3 c_hO4 f_hO4 c_hR0 f_hR0 c_hR1 f_hR1 c_hR2 f_hR2 c_hR3 f_hR3 c_hR4 f_hR4
      clear hL_22
      clear hR_22
      clear hO_22
      clear hD_22
      have c_hR0 := hR_23s0.cell 0
      have f_hR0 := hR_23s0.frozen 0
      have c_hR1 := hR_23s0.cell 1
      have f_hR1 := hR_23s0.frozen 1
      have c_hR2 := hR_23s0.cell 2
      have f_hR2 := hR_23s0.frozen 2
      have c_hR3 := hR_23s0.cell 3
      have f_hR3 := hR_23s0.frozen 3
      have c_hR4 := hR_23s0.cell 4
      have f_hR4 := hR_23s0.frozen 4
      have c_hO0 := hO_23s0.cell 0
      have f_hO0 := hO_23s0.frozen 0
      have c_hO1 := hO_23s0.cell 1
      have f_hO1 := hO_23s0.frozen 1
      have c_hO2 := hO_23s0.cell 2
      have f_hO2 := hO_23s0.frozen 2
      have c_hO3 := hO_23s0.cell 3
      have f_hO3 := hO_23s0.frozen 3
      have c_hO4 := hO_23s0.cell 4
      have f_hO4 := hO_23s0.frozen 4
      obtain ⟨w23s1, hw23s1⟩ : ∃ Wz_, w23s0.setCell ⟨w.heap.size + 1, 1, none⟩ (.int .i64 23456)= Wz_ := ⟨_, rfl⟩
      have hL_23s1 := hL_23s0.far (p := ⟨w.heap.size + 1, 1, none⟩) (by show _ ≠ w.heap.size + 1; omega) (.int .i64 23456)
      have hR_23s1 := hR_23s0.set_ 1 (.int .i64 23456)
      simp only [List.setIfInBounds_toArray, List.set_cons_succ, List.set_cons_zero] at hR_23s1
      have hO_23s1 := hO_23s0.far (p := ⟨w.heap.size + 1, 1, none⟩) (by show _ ≠ w.heap.size + 1; omega) (.int .i64 23456)
      have hD_23s1 := hD_23s0.keep rCap_ok (Kp.set (p := ⟨w.heap.size + 1, 1, none⟩) (by intro b hb; have := hb.1; show b ≠ w.heap.size + 1; omega) (.int .i64 23456))
      have b023s1 := b023s0.setCell (p := ⟨w.heap.size + 1, 1, none⟩) (by show _ ≤ w.heap.size + 1; omega) (.int .i64 23456)
      have z_23s1 : w23s0.heap.size ≤ w23s1.heap.size := by rw [← hw23s1]; simp [World.setCell]
      rw [hw23s1] at hL_23s1 hR_23s1 hO_23s1 hD_23s1 b023s1
      rw [hw23s1]
      clear hw23s1
      clear c_hO0 f_hO0 c_hO1 f_hO1 c_hO2 f_hO2 c_hO3 f_hO3 c_hO4 f_hO4 c_hR0 f_hR0 c_hR1 f_hR1 c_hR2 f_hR2 c_hR3 f_hR3 c_hR4 f_hR4
      clear hL_23s0
      clear hR_23s0
      clear hO_23s0
      clear hD_23s0
      have c_hR0 := hR_23s1.cell 0
      have f_hR0 := hR_23s1.frozen 0
      have c_hR1 := hR_23s1.cell 1
      have f_hR1 := hR_23s1.frozen 1
      have c_hR2 := hR_23s1.cell 2
      have f_hR2 := hR_23s1.frozen 2
      have c_hR3 := hR_23s1.cell 3
      have f_hR3 := hR_23s1.frozen 3
      have c_hR4 := hR_23s1.cell 4
      have f_hR4 := hR_23s1.frozen 4
      have c_hO0 := hO_23s1.cell 0
      have f_hO0 := hO_23s1.frozen 0
      have c_hO1 := hO_23s1.cell 1
      have f_hO1 := hO_23s1.frozen 1
      have c_hO2 := hO_23s1.cell 2
      have f_hO2 := hO_23s1.frozen 2
      have c_hO3 := hO_23s1.cell 3
      have f_hO3 := hO_23s1.frozen 3
      have c_hO4 := hO_23s1.cell 4
      have f_hO4 := hO_23s1.frozen 4
      obtain ⟨w23s2, hw23s2⟩ : ∃ Wz_, w23s1.setCell ⟨w.heap.size + 1, 2, none⟩ (.int .i64 65535)= Wz_ := ⟨_, rfl⟩
      have hL_23s2 := hL_23s1.far (p := ⟨w.heap.size + 1, 2, none⟩) (by show _ ≠ w.heap.size + 1; omega) (.int .i64 65535)
      have hR_23s2 := hR_23s1.set_ 2 (.int .i64 65535)
      simp only [List.setIfInBounds_toArray, List.set_cons_succ, List.set_cons_zero] at hR_23s2
      have hO_23s2 := hO_23s1.far (p := ⟨w.heap.size + 1, 2, none⟩) (by show _ ≠ w.heap.size + 1; omega) (.int .i64 65535)
      have hD_23s2 := hD_23s1.keep rCap_ok (Kp.set (p := ⟨w.heap.size + 1, 2, none⟩) (by intro b hb; have := hb.1; show b ≠ w.heap.size + 1; omega) (.int .i64 65535))
      have b023s2 := b023s1.setCell (p := ⟨w.heap.size + 1, 2, none⟩) (by show _ ≤ w.heap.size + 1; omega) (.int .i64 65535)
      have z_23s2 : w23s1.heap.size ≤ w23s2.heap.size := by rw [← hw23s2]; simp [World.setCell]
      rw [hw23s2] at hL_23s2 hR_23s2 hO_23s2 hD_23s2 b023s2
      rw [hw23s2]
      clear hw23s2
      clear c_hO0 f_hO0 c_hO1 f_hO1 c_hO2 f_hO2 c_hO3 f_hO3 c_hO4 f_hO4 c_hR0 f_hR0 c_hR1 f_hR1 c_hR2 f_hR2 c_hR3 f_hR3 c_hR4 f_hR4
      clear hL_23s1
      clear hR_23s1
      clear hO_23s1
      clear hD_23s1
      have c_hR0 := hR_23s2.cell 0
      have f_hR0 := hR_23s2.frozen 0
      have c_hR1 := hR_23s2.cell 1
      have f_hR1 := hR_23s2.frozen 1
      have c_hR2 := hR_23s2.cell 2
      have f_hR2 := hR_23s2.frozen 2
      have c_hR3 := hR_23s2.cell 3
      have f_hR3 := hR_23s2.frozen 3
      have c_hR4 := hR_23s2.cell 4
      have f_hR4 := hR_23s2.frozen 4
      have c_hO0 := hO_23s2.cell 0
      have f_hO0 := hO_23s2.frozen 0
      have c_hO1 := hO_23s2.cell 1
      have f_hO1 := hO_23s2.frozen 1
      have c_hO2 := hO_23s2.cell 2
      have f_hO2 := hO_23s2.frozen 2
      have c_hO3 := hO_23s2.cell 3
      have f_hO3 := hO_23s2.frozen 3
      have c_hO4 := hO_23s2.cell 4
      have f_hO4 := hO_23s2.frozen 4
      obtain ⟨w23s3, hw23s3⟩ : ∃ Wz_, w23s2.setCell ⟨w.heap.size + 1, 3, none⟩ (.int .u32 i)= Wz_ := ⟨_, rfl⟩
      have hL_23s3 := hL_23s2.far (p := ⟨w.heap.size + 1, 3, none⟩) (by show _ ≠ w.heap.size + 1; omega) (.int .u32 i)
      have hR_23s3 := hR_23s2.set_ 3 (.int .u32 i)
      simp only [List.setIfInBounds_toArray, List.set_cons_succ, List.set_cons_zero] at hR_23s3
      have hO_23s3 := hO_23s2.far (p := ⟨w.heap.size + 1, 3, none⟩) (by show _ ≠ w.heap.size + 1; omega) (.int .u32 i)
      have hD_23s3 := hD_23s2.keep rCap_ok (Kp.set (p := ⟨w.heap.size + 1, 3, none⟩) (by intro b hb; have := hb.1; show b ≠ w.heap.size + 1; omega) (.int .u32 i))
      have b023s3 := b023s2.setCell (p := ⟨w.heap.size + 1, 3, none⟩) (by show _ ≤ w.heap.size + 1; omega) (.int .u32 i)
      have z_23s3 : w23s2.heap.size ≤ w23s3.heap.size := by rw [← hw23s3]; simp [World.setCell]
      rw [hw23s3] at hL_23s3 hR_23s3 hO_23s3 hD_23s3 b023s3
      rw [hw23s3]
      clear hw23s3
      clear c_hO0 f_hO0 c_hO1 f_hO1 c_hO2 f_hO2 c_hO3 f_hO3 c_hO4 f_hO4 c_hR0 f_hR0 c_hR1 f_hR1 c_hR2 f_hR2 c_hR3 f_hR3 c_hR4 f_hR4
      clear hL_23s2
      clear hR_23s2
      clear hO_23s2
      clear hD_23s2
      have c_hR0 := hR_23s3.cell 0
      have f_hR0 := hR_23s3.frozen 0
      have c_hR1 := hR_23s3.cell 1
      have f_hR1 := hR_23s3.frozen 1
      have c_hR2 := hR_23s3.cell 2
      have f_hR2 := hR_23s3.frozen 2
      have c_hR3 := hR_23s3.cell 3
      have f_hR3 := hR_23s3.frozen 3
      have c_hR4 := hR_23s3.cell 4
      have f_hR4 := hR_23s3.frozen 4
      have c_hO0 := hO_23s3.cell 0
      have f_hO0 := hO_23s3.frozen 0
      have c_hO1 := hO_23s3.cell 1
      have f_hO1 := hO_23s3.frozen 1
      have c_hO2 := hO_23s3.cell 2
      have f_hO2 := hO_23s3.frozen 2
      have c_hO3 := hO_23s3.cell 3
      have f_hO3 := hO_23s3.frozen 3
      have c_hO4 := hO_23s3.cell 4
      have f_hO4 := hO_23s3.frozen 4
      obtain ⟨w23s4, hw23s4⟩ : ∃ Wz_, w23s3.setCell ⟨w.heap.size + 1, 4, none⟩ (.slice (some ⟨w20.heap.size, 0, none⟩) 1 1)= Wz_ := ⟨_, rfl⟩
      have hL_23s4 := hL_23s3.far (p := ⟨w.heap.size + 1, 4, none⟩) (by show _ ≠ w.heap.size + 1; omega) (.slice (some ⟨w20.heap.size, 0, none⟩) 1 1)
      have hR_23s4 := hR_23s3.set_ 4 (.slice (some ⟨w20.heap.size, 0, none⟩) 1 1)
      simp only [List.setIfInBounds_toArray, List.set_cons_succ, List.set_cons_zero] at hR_23s4
      have hO_23s4 := hO_23s3.far (p := ⟨w.heap.size + 1, 4, none⟩) (by show _ ≠ w.heap.size + 1; omega) (.slice (some ⟨w20.heap.size, 0, none⟩) 1 1)
      have hD_23s4 := hD_23s3.keep rCap_ok (Kp.set (p := ⟨w.heap.size + 1, 4, none⟩) (by intro b hb; have := hb.1; show b ≠ w.heap.size + 1; omega) (.slice (some ⟨w20.heap.size, 0, none⟩) 1 1))
      have b023s4 := b023s3.setCell (p := ⟨w.heap.size + 1, 4, none⟩) (by show _ ≤ w.heap.size + 1; omega) (.slice (some ⟨w20.heap.size, 0, none⟩) 1 1)
      have z_23s4 : w23s3.heap.size ≤ w23s4.heap.size := by rw [← hw23s4]; simp [World.setCell]
      rw [hw23s4] at hL_23s4 hR_23s4 hO_23s4 hD_23s4 b023s4
      rw [hw23s4]
      clear hw23s4
      clear c_hO0 f_hO0 c_hO1 f_hO1 c_hO2 f_hO2 c_hO3 f_hO3 c_hO4 f_hO4 c_hR0 f_hR0 c_hR1 f_hR1 c_hR2 f_hR2 c_hR3 f_hR3 c_hR4 f_hR4
      clear hL_23s3
      clear hR_23s3
      clear hO_23s3
      clear hD_23s3
      have c_hR0 := hR_23s4.cell 0
      have f_hR0 := hR_23s4.frozen 0
      have c_hR1 := hR_23s4.cell 1
      have f_hR1 := hR_23s4.frozen 1
      have c_hR2 := hR_23s4.cell 2
      have f_hR2 := hR_23s4.frozen 2
      have c_hR3 := hR_23s4.cell 3
      have f_hR3 := hR_23s4.frozen 3
      have c_hR4 := hR_23s4.cell 4
      have f_hR4 := hR_23s4.frozen 4
      have c_hO0 := hO_23s4.cell 0
      have f_hO0 := hO_23s4.frozen 0
      have c_hO1 := hO_23s4.cell 1
      have f_hO1 := hO_23s4.frozen 1
      have c_hO2 := hO_23s4.cell 2
      have f_hO2 := hO_23s4.frozen 2
      have c_hO3 := hO_23s4.cell 3
      have f_hO3 := hO_23s4.frozen 3
      have c_hO4 := hO_23s4.cell 4
      have f_hO4 := hO_23s4.frozen 4
      refine bodyPost_ret (opn_ret rfl _ _ (w.heap.size + 1) _ _ _ _ _ rfl hR_23s4) rfl ?_
      exact ⟨some ⟨w20.heap.size, 0, none⟩, 1, by rw [HA.out, HH.out], hD_23s4.keep rCap_ok (Kp.sub fun b hb => Nat.lt_of_lt_of_le hb.2 (by omega)), Nat.le_refl _, b023s4⟩
  · have t2 : decide (65535 < ho) = false := decide_eq_false h2
    have HH := Lib.hid (show mineH ho = ho by unfold mineH; rw [if_neg h1, if_neg h2])
    clear h1 h2
    by_cases h6 : a ≤ 65535
    · have t6 : decide ((a : Int) ≤ 65535) = true := decide_eq_true (by omega)
      have HA := Lib.hid (show mineA a = a from if_pos h6)
      clear h6
      obtain ⟨W2, hW2, hO, b2⟩ := box1c W #[.int .i64 4, .int .i64 23456, .int .i64 ho, .int .u32 i, .slice none 0 0] 66
      have HW2 := Lib.hid hW2
      clear hW2
      have b02 := btr b0 b2 b0.size
      have hL2 := hL.below b2 hL.lt
      have hR2 := hR.below b2 hR.lt
      have hOl := hO.lt
      go_enter Tryd.func19, Tryd.ntmps19
      go_upto_region 1 with fail
      rw [HW.out]
      have c_hL0 := hL.cell 0
      have c_hL1 := hL.cell 1
      have c_hL2 := hL.cell 2
      have c_hL3 := hL.cell 3
      go_upto_region 2 with fail
      rw [HW2.out]
      clear c_hL0 c_hL1 c_hL2 c_hL3
      have c_hO2 := hO.cell 2
      have f_hO2 := hO.frozen 2
      have c_hL0 := hL2.cell 0
      clear c_hO2 f_hO2
      have c_hO1 := hO.cell 1
      have f_hO1 := hO.frozen 1
      have c_hO2 := hO.cell 2
      have f_hO2 := hO.frozen 2
      go_upto_region 8 with fail
      obtain ⟨w10, hw10⟩ : ∃ Wz_, W2.setCell ⟨W.heap.size, 1, none⟩ (.int .i64 a)= Wz_ := ⟨_, rfl⟩
      have hL_10 := hL2.far (p := ⟨W.heap.size, 1, none⟩) (by show _ ≠ W.heap.size; omega) (.int .i64 a)
      have hR_10 := hR2.far (p := ⟨W.heap.size, 1, none⟩) (by show _ ≠ W.heap.size; omega) (.int .i64 a)
      have hO_10 := hO.set_ 1 (.int .i64 a)
      simp only [List.setIfInBounds_toArray, List.set_cons_succ, List.set_cons_zero] at hO_10
      have b010 := b02.setCell (p := ⟨W.heap.size, 1, none⟩) (by show _ ≤ W.heap.size; omega) (.int .i64 a)
      have z_10 : W2.heap.size ≤ w10.heap.size := by rw [← hw10]; simp [World.setCell]
      rw [hw10] at hL_10 hR_10 hO_10 b010
      rw [hw10]
      clear hw10
      clear c_hL0 c_hO1 f_hO1 c_hO2 f_hO2
      have c_hL0 := hL_10.cell 0
      have c_hO1 := hO_10.cell 1
      have f_hO1 := hO_10.frozen 1
      have c_hO2 := hO_10.cell 2
      have f_hO2 := hO_10.frozen 2
      clear c_hL0
      have c_hL0 := hL_10.cell 0
      go_wp2_with fail
      refine (ref01Put32 none 0 0 [] a _ BS.none_ (by simp) (by omega) (by omega)).mono ?_
      rintro _ w20 ⟨A3, n3, c3, rfl, o3, b20⟩
      clear c_hL0 c_hO1 f_hO1 c_hO2 f_hO2
      have b020 := btr b010 b20 b010.size
      have hL_20 := hL_10.below b20 hL_10.lt
      clear hL_10
      have hR_20 := hR_10.below b20 hR_10.lt
      clear hR_10
      have hO_20 := hO_10.below b20 hO_10.lt
      clear hO_10
      have c_hL0 := hL_20.cell 0
      have c_hO1 := hO_20.cell 1
      have f_hO1 := hO_20.frozen 1
      have c_hO2 := hO_20.cell 2
      have f_hO2 := hO_20.frozen 2
      rw [List.nil_append] at o3
      have hn3 : n3 = 4 := o3.1
      have hc3 := o3.cap
      subst hn3
      clear c_hL0
      have ca4 := (hO_20.alloc (.cells #[.int .i64 65, .slice A3 4 c3] 85)).cell 4
      have fa4 := (hO_20.alloc (.cells #[.int .i64 65, .slice A3 4 c3] 85)).frozen 4
      go_upto_region 9 with fail
      clear ca4 fa4
      obtain ⟨w21, hw21, hC, b21⟩ := box1c w20 #[.int .i64 65, .slice A3 4 c3] 85
      rw [hw21]
      have o4 := BF.own o3
      have hCl := hC.lt
      have hO20 := hO_20.lt
      have hR20 := hR_20.lt
      have o5 := o4.keep (S' := fun b => w10.heap.size ≤ b ∧ b < w21.heap.size) (fun b hb => ⟨⟨hb.1, Nat.lt_of_lt_of_le hb.2 (by omega)⟩, b21.block b hb.2⟩)
      have hD : DL rCap 2 w21 (fun b => w10.heap.size ≤ b ∧ b < w21.heap.size) (some ⟨w20.heap.size, 0, none⟩) 1 [(65, b32 a)] := DL.one rCap_ok hC ⟨b20.size, hCl⟩ ⟨A3, 4, c3, rfl, o5, hc3⟩
      clear hw21
      clear c_hO1 f_hO1 c_hO2 f_hO2
      have b021 := btr b020 b21 b020.size
      have hL_21 := hL_20.below b21 hL_20.lt
      clear hL_20
      have hR_21 := hR_20.below b21 hR_20.lt
      clear hR_20
      have hO_21 := hO_20.below b21 hO_20.lt
      clear hO_20
      have c_hO1 := hO_21.cell 1
      have f_hO1 := hO_21.frozen 1
      have c_hO2 := hO_21.cell 2
      have f_hO2 := hO_21.frozen 2
      obtain ⟨w22, hw22⟩ : ∃ Wz_, w21.setCell ⟨W.heap.size, 4, none⟩ (.slice (some ⟨w20.heap.size, 0, none⟩) 1 1)= Wz_ := ⟨_, rfl⟩
      have hL_22 := hL_21.far (p := ⟨W.heap.size, 4, none⟩) (by show _ ≠ W.heap.size; omega) (.slice (some ⟨w20.heap.size, 0, none⟩) 1 1)
      have hR_22 := hR_21.far (p := ⟨W.heap.size, 4, none⟩) (by show _ ≠ W.heap.size; omega) (.slice (some ⟨w20.heap.size, 0, none⟩) 1 1)
      have hO_22 := hO_21.set_ 4 (.slice (some ⟨w20.heap.size, 0, none⟩) 1 1)
      simp only [List.setIfInBounds_toArray, List.set_cons_succ, List.set_cons_zero] at hO_22
      have hD_22 := hD.keep rCap_ok (Kp.set (p := ⟨W.heap.size, 4, none⟩) (by intro b hb; have := hb.1; show b ≠ W.heap.size; omega) (.slice (some ⟨w20.heap.size, 0, none⟩) 1 1))
      have b022 := b021.setCell (p := ⟨W.heap.size, 4, none⟩) (by show _ ≤ W.heap.size; omega) (.slice (some ⟨w20.heap.size, 0, none⟩) 1 1)
      have z_22 : w21.heap.size ≤ w22.heap.size := by rw [← hw22]; simp [World.setCell]
      rw [hw22] at hL_22 hR_22 hO_22 hD_22 b022
      rw [hw22]
      clear hw22
      clear c_hO1 f_hO1 c_hO2 f_hO2
      clear hL_21
      clear hR_21
      clear hO_21
      have c_hO1 := hO_22.cell 1
      have f_hO1 := hO_22.frozen 1
      have c_hO2 := hO_22.cell 2
      have f_hO2 := hO_22.frozen 2
      clear c_hO1 c_hO2 f_hO1 f_hO2
      have c_hO0 := hO_22.cell 0
      have f_hO0 := hO_22.frozen 0
      have c_hO1 := hO_22.cell 1
      have f_hO1 := hO_22.frozen 1
      have c_hO2 := hO_22.cell 2
      have f_hO2 := hO_22.frozen 2
      have c_hO3 := hO_22.cell 3
      have f_hO3 := hO_22.frozen 3
      have c_hO4 := hO_22.cell 4
      have f_hO4 := hO_22.frozen 4
      have c_hR0 := hR_22.cell 0
      have f_hR0 := hR_22.frozen 0
      have c_hR1 := hR_22.cell 1
      have f_hR1 := hR_22.frozen 1
      have c_hR2 := hR_22.cell 2
      have f_hR2 := hR_22.frozen 2
      have c_hR3 := hR_22.cell 3
      have f_hR3 := hR_22.frozen 3
      have c_hR4 := hR_22.cell 4
      have f_hR4 := hR_22.frozen 4
      go_wp2_with fail
      obtain ⟨w23s0, hw23s0⟩ : ∃ Wz_, w22.setCell ⟨w.heap.size + 1, 0, none⟩ (.int .i64 4)= Wz_ := ⟨_, rfl⟩
      have hL_23s0 := hL_22.far (p := ⟨w.heap.size + 1, 0, none⟩) (by show _ ≠ w.heap.size + 1; omega) (.int .i64 4)
      have hR_23s0 := hR_22.set_ 0 (.int .i64 4)
      simp only [List.setIfInBounds_toArray, List.set_cons_succ, List.set_cons_zero] at hR_23s0
      have hO_23s0 := hO_22.far (p := ⟨w.heap.size + 1, 0, none⟩) (by show _ ≠ w.heap.size + 1; omega) (.int .i64 4)
      have hD_23s0 := hD_22.keep rCap_ok (Kp.set (p := ⟨w.heap.size + 1, 0, none⟩) (by intro b hb; have := hb.1; show b ≠ w.heap.size + 1; omega) (.int .i64 4))
      have b023s0 := b022.setCell (p := ⟨w.heap.size + 1, 0, none⟩) (by show _ ≤ w.heap.size + 1; omega) (.int .i64 4)
      have z_23s0 : w22.heap.size ≤ w23s0.heap.size := by rw [← hw23s0]; simp [World.setCell]
      rw [hw23s0] at hL_23s0 hR_23s0 hO_23s0 hD_23s0 b023s0
      rw [hw23s0]
      clear hw23s0
      clear c_hO0 f_hO0 c_hO1 f_hO1 c_hO2 f_hO2 c_hO3 f_hO3 c_hO4 f_hO4 c_hR0 f_hR0 c_hR1 f_hR1 c_hR2 f_hR2 c_hR3 f_hR3 c_hR4 f_hR4
      clear hL_22
      clear hR_22
      clear hO_22
      clear hD_22
      have c_hR0 := hR_23s0.cell 0
      have f_hR0 := hR_23s0.frozen 0
      have c_hR1 := hR_23s0.cell 1
      have f_hR1 := hR_23s0.frozen 1
      have c_hR2 := hR_23s0.cell 2
      have f_hR2 := hR_23s0.frozen 2
      have c_hR3 := hR_23s0.cell 3
      have f_hR3 := hR_23s0.frozen 3
      have c_hR4 := hR_23s0.cell 4
      have f_hR4 := hR_23s0.frozen 4
      have c_hO0 := hO_23s0.cell 0
      have f_hO0 := hO_23s0.frozen 0
      have c_hO1 := hO_23s0.cell 1
      have f_hO1 := hO_23s0.frozen 1
      have c_hO2 := hO_23s0.cell 2
      have f_hO2 := hO_23s0.frozen 2
      have c_hO3 := hO_23s0.cell 3
      have f_hO3 := hO_23s0.frozen 3
      have c_hO4 := hO_23s0.cell 4
      have f_hO4 := hO_23s0.frozen 4
      obtain ⟨w23s1, hw23s1⟩ : ∃ Wz_, w23s0.setCell ⟨w.heap.size + 1, 1, none⟩ (.int .i64 a)= Wz_ := ⟨_, rfl⟩
      have hL_23s1 := hL_23s0.far (p := ⟨w.heap.size + 1, 1, none⟩) (by show _ ≠ w.heap.size + 1; omega) (.int .i64 a)
      have hR_23s1 := hR_23s0.set_ 1 (.int .i64 a)
      simp only [List.setIfInBounds_toArray, List.set_cons_succ, List.set_cons_zero] at hR_23s1
      have hO_23s1 := hO_23s0.far (p := ⟨w.heap.size + 1, 1, none⟩) (by show _ ≠ w.heap.size + 1; omega) (.int .i64 a)
      have hD_23s1 := hD_23s0.keep rCap_ok (Kp.set (p := ⟨w.heap.size + 1, 1, none⟩) (by intro b hb; have := hb.1; show b ≠ w.heap.size + 1; omega) (.int .i64 a))
      have b023s1 := b023s0.setCell (p := ⟨w.heap.size + 1, 1, none⟩) (by show _ ≤ w.heap.size + 1; omega) (.int .i64 a)
      have z_23s1 : w23s0.heap.size ≤ w23s1.heap.size := by rw [← hw23s1]; simp [World.setCell]
      rw [hw23s1] at hL_23s1 hR_23s1 hO_23s1 hD_23s1 b023s1
      rw [hw23s1]
      clear hw23s1
      clear c_hO0 f_hO0 c_hO1 f_hO1 c_hO2 f_hO2 c_hO3 f_hO3 c_hO4 f_hO4 c_hR0 f_hR0 c_hR1 f_hR1 c_hR2 f_hR2 c_hR3 f_hR3 c_hR4 f_hR4
      clear hL_23s0
      clear hR_23s0
      clear hO_23s0
      clear hD_23s0
      have c_hR0 := hR_23s1.cell 0
      have f_hR0 := hR_23s1.frozen 0
      have c_hR1 := hR_23s1.cell 1
      have f_hR1 := hR_23s1.frozen 1
      have c_hR2 := hR_23s1.cell 2
      have f_hR2 := hR_23s1.frozen 2
      have c_hR3 := hR_23s1.cell 3
      have f_hR3 := hR_23s1.frozen 3
      have c_hR4 := hR_23s1.cell 4
      have f_hR4 := hR_23s1.frozen 4
      have c_hO0 := hO_23s1.cell 0
      have f_hO0 := hO_23s1.frozen 0
      have c_hO1 := hO_23s1.cell 1
      have f_hO1 := hO_23s1.frozen 1
      have c_hO2 := hO_23s1.cell 2
      have f_hO2 := hO_23s1.frozen 2
      have c_hO3 := hO_23s1.cell 3
      have f_hO3 := hO_23s1.frozen 3
      have c_hO4 := hO_23s1.cell 4
      have f_hO4 := hO_23s1.frozen 4
      obtain ⟨w23s2, hw23s2⟩ : ∃ Wz_, w23s1.setCell ⟨w.heap.size + 1, 2, none⟩ (.int .i64 ho)= Wz_ := ⟨_, rfl⟩
      have hL_23s2 := hL_23s1.far (p := ⟨w.heap.size + 1, 2, none⟩) (by show _ ≠ w.heap.size + 1; omega) (.int .i64 ho)
      have hR_23s2 := hR_23s1.set_ 2 (.int .i64 ho)
      simp only [List.setIfInBounds_toArray, List.set_cons_succ, List.set_cons_zero] at hR_23s2
      have hO_23s2 := hO_23s1.far (p := ⟨w.heap.size + 1, 2, none⟩) (by show _ ≠ w.heap.size + 1; omega) (.int .i64 ho)
      have hD_23s2 := hD_23s1.keep rCap_ok (Kp.set (p := ⟨w.heap.size + 1, 2, none⟩) (by intro b hb; have := hb.1; show b ≠ w.heap.size + 1; omega) (.int .i64 ho))
      have b023s2 := b023s1.setCell (p := ⟨w.heap.size + 1, 2, none⟩) (by show _ ≤ w.heap.size + 1; omega) (.int .i64 ho)
      have z_23s2 : w23s1.heap.size ≤ w23s2.heap.size := by rw [← hw23s2]; simp [World.setCell]
      rw [hw23s2] at hL_23s2 hR_23s2 hO_23s2 hD_23s2 b023s2
      rw [hw23s2]
      clear hw23s2
      clear c_hO0 f_hO0 c_hO1 f_hO1 c_hO2 f_hO2 c_hO3 f_hO3 c_hO4 f_hO4 c_hR0 f_hR0 c_hR1 f_hR1 c_hR2 f_hR2 c_hR3 f_hR3 c_hR4 f_hR4
      clear hL_23s1
      clear hR_23s1
      clear hO_23s1
      clear hD_23s1
      have c_hR0 := hR_23s2.cell 0
      have f_hR0 := hR_23s2.frozen 0
      have c_hR1 := hR_23s2.cell 1
      have f_hR1 := hR_23s2.frozen 1
      have c_hR2 := hR_23s2.cell 2
      have f_hR2 := hR_23s2.frozen 2
      have c_hR3 := hR_23s2.cell 3
      have f_hR3 := hR_23s2.frozen 3
      have c_hR4 := hR_23s2.cell 4
      have f_hR4 := hR_23s2.frozen 4
      have c_hO0 := hO_23s2.cell 0
      have f_hO0 := hO_23s2.frozen 0
      have c_hO1 := hO_23s2.cell 1
      have f_hO1 := hO_23s2.frozen 1
      have c_hO2 := hO_23s2.cell 2
      have f_hO2 := hO_23s2.frozen 2
      have c_hO3 := hO_23s2.cell 3
      have f_hO3 := hO_23s2.frozen 3
      have c_hO4 := hO_23s2.cell 4
      have f_hO4 := hO_23s2.frozen 4
      obtain ⟨w23s3, hw23s3⟩ : ∃ Wz_, w23s2.setCell ⟨w.heap.size + 1, 3, none⟩ (.int .u32 i)= Wz_ := ⟨_, rfl⟩
      have hL_23s3 := hL_23s2.far (p := ⟨w.heap.size + 1, 3, none⟩) (by show _ ≠ w.heap.size + 1; omega) (.int .u32 i)
      have hR_23s3 := hR_23s2.set_ 3 (.int .u32 i)
      simp only [List.setIfInBounds_toArray, List.set_cons_succ, List.set_cons_zero] at hR_23s3
      have hO_23s3 := hO_23s2.far (p := ⟨w.heap.size + 1, 3, none⟩) (by show _ ≠ w.heap.size + 1; omega) (.int .u32 i)
      have hD_23s3 := hD_23s2.keep rCap_ok (Kp.set (p := ⟨w.heap.size + 1, 3, none⟩) (by intro b hb; have := hb.1; show b ≠ w.heap.size + 1; omega) (.int .u32 i))
      have b023s3 := b023s2.setCell (p := ⟨w.heap.size + 1, 3, none⟩) (by show _ ≤ w.heap.size + 1; omega) (.int .u32 i)
      have z_23s3 : w23s2.heap.size ≤ w23s3.heap.size := by rw [← hw23s3]; simp [World.setCell]
      rw [hw23s3] at hL_23s3 hR_23s3 hO_23s3 hD_23s3 b023s3
      rw [hw23s3]
      clear hw23s3
      clear c_hO0 f_hO0 c_hO1 f_hO1 c_hO2 f_hO2 c_hO3 f_hO3 c_hO4 f_hO4 c_hR0 f_hR0 c_hR1 f_hR1 c_hR2 f_hR2 c_hR3 f_hR3 c_hR4 f_hR4
      clear hL_23s2
      clear hR_23s2
      clear hO_23s2
      clear hD_23s2
      have c_hR0 := hR_23s3.cell 0
      have f_hR0 := hR_23s3.frozen 0
      have c_hR1 := hR_23s3.cell 1
      have f_hR1 := hR_23s3.frozen 1
      have c_hR2 := hR_23s3.cell 2
      have f_hR2 := hR_23s3.frozen 2
      have c_hR3 := hR_23s3.cell 3
      have f_hR3 := hR_23s3.frozen 3
      have c_hR4 := hR_23s3.cell 4
      have f_hR4 := hR_23s3.frozen 4
      have c_hO0 := hO_23s3.cell 0
      have f_hO0 := hO_23s3.frozen 0
      have c_hO1 := hO_23s3.cell 1
      have f_hO1 := hO_23s3.frozen 1
      have c_hO2 := hO_23s3.cell 2
      have f_hO2 := hO_23s3.frozen 2
      have c_hO3 := hO_23s3.cell 3
      have f_hO3 := hO_23s3.frozen 3
      have c_hO4 := hO_23s3.cell 4
      have f_hO4 := hO_23s3.frozen 4
      obtain ⟨w23s4, hw23s4⟩ : ∃ Wz_, w23s3.setCell ⟨w.heap.size + 1, 4, none⟩ (.slice (some ⟨w20.heap.size, 0, none⟩) 1 1)= Wz_ := ⟨_, rfl⟩
      have hL_23s4 := hL_23s3.far (p := ⟨w.heap.size + 1, 4, none⟩) (by show _ ≠ w.heap.size + 1; omega) (.slice (some ⟨w20.heap.size, 0, none⟩) 1 1)
      have hR_23s4 := hR_23s3.set_ 4 (.slice (some ⟨w20.heap.size, 0, none⟩) 1 1)
      simp only [List.setIfInBounds_toArray, List.set_cons_succ, List.set_cons_zero] at hR_23s4
      have hO_23s4 := hO_23s3.far (p := ⟨w.heap.size + 1, 4, none⟩) (by show _ ≠ w.heap.size + 1; omega) (.slice (some ⟨w20.heap.size, 0, none⟩) 1 1)
      have hD_23s4 := hD_23s3.keep rCap_ok (Kp.set (p := ⟨w.heap.size + 1, 4, none⟩) (by intro b hb; have := hb.1; show b ≠ w.heap.size + 1; omega) (.slice (some ⟨w20.heap.size, 0, none⟩) 1 1))
      have b023s4 := b023s3.setCell (p := ⟨w.heap.size + 1, 4, none⟩) (by show _ ≤ w.heap.size + 1; omega) (.slice (some ⟨w20.heap.size, 0, none⟩) 1 1)
      have z_23s4 : w23s3.heap.size ≤ w23s4.heap.size := by rw [← hw23s4]; simp [World.setCell]
      rw [hw23s4] at hL_23s4 hR_23s4 hO_23s4 hD_23s4 b023s4
      rw [hw23s4]
      clear hw23s4
      clear c_hO0 f_hO0 c_hO1 f_hO1 c_hO2 f_hO2 c_hO3 f_hO3 c_hO4 f_hO4 c_hR0 f_hR0 c_hR1 f_hR1 c_hR2 f_hR2 c_hR3 f_hR3 c_hR4 f_hR4
      clear hL_23s3
      clear hR_23s3
      clear hO_23s3
      clear hD_23s3
      have c_hR0 := hR_23s4.cell 0
      have f_hR0 := hR_23s4.frozen 0
      have c_hR1 := hR_23s4.cell 1
      have f_hR1 := hR_23s4.frozen 1
      have c_hR2 := hR_23s4.cell 2
      have f_hR2 := hR_23s4.frozen 2
      have c_hR3 := hR_23s4.cell 3
      have f_hR3 := hR_23s4.frozen 3
      have c_hR4 := hR_23s4.cell 4
      have f_hR4 := hR_23s4.frozen 4
      have c_hO0 := hO_23s4.cell 0
      have f_hO0 := hO_23s4.frozen 0
      have c_hO1 := hO_23s4.cell 1
      have f_hO1 := hO_23s4.frozen 1
      have c_hO2 := hO_23s4.cell 2
      have f_hO2 := hO_23s4.frozen 2
      have c_hO3 := hO_23s4.cell 3
      have f_hO3 := hO_23s4.frozen 3
      have c_hO4 := hO_23s4.cell 4
      have f_hO4 := hO_23s4.frozen 4
      refine bodyPost_ret (opn_ret rfl _ _ (w.heap.size + 1) _ _ _ _ _ rfl hR_23s4) rfl ?_
      exact ⟨some ⟨w20.heap.size, 0, none⟩, 1, by rw [HA.out, HH.out], hD_23s4.keep rCap_ok (Kp.sub fun b hb => Nat.lt_of_lt_of_le hb.2 (by omega)), Nat.le_refl _, b023s4⟩
    · have t6 : decide ((a : Int) ≤ 65535) = false := decide_eq_false (by omega)
      have HA := Lib.hid (show mineA a = 23456 from if_neg h6)
      clear h6
      obtain ⟨W2, hW2, hO, b2⟩ := box1c W #[.int .i64 4, .int .i64 23456, .int .i64 ho, .int .u32 i, .slice none 0 0] 66
      have HW2 := Lib.hid hW2
      clear hW2
      have b02 := btr b0 b2 b0.size
      have hL2 := hL.below b2 hL.lt
      have hR2 := hR.below b2 hR.lt
      have hOl := hO.lt
      go_enter Tryd.func19, Tryd.ntmps19
      go_upto_region 1 with fail
      rw [HW.out]
      have c_hL0 := hL.cell 0
      have c_hL1 := hL.cell 1
      have c_hL2 := hL.cell 2
      have c_hL3 := hL.cell 3
      go_upto_region 2 with fail
      rw [HW2.out]
      clear c_hL0 c_hL1 c_hL2 c_hL3
      have c_hO2 := hO.cell 2
      have f_hO2 := hO.frozen 2
      have c_hL0 := hL2.cell 0
      go_upto_region 8 with fail
      clear c_hL0
      have c_hL0 := hL2.cell 0
      go_wp2_with fail
      refine (ref01Put32 none 0 0 [] a _ BS.none_ (by simp) (by omega) (by omega)).mono ?_
      rintro _ w20 ⟨A3, n3, c3, rfl, o3, b20⟩
      clear c_hL0 c_hO2 f_hO2
      have b020 := btr b02 b20 b02.size
      have hL_20 := hL2.below b20 hL2.lt
      have hR_20 := hR2.below b20 hR2.lt
      have hO_20 := hO.below b20 hO.lt
      have c_hL0 := hL_20.cell 0
      have c_hO2 := hO_20.cell 2
      have f_hO2 := hO_20.frozen 2
      rw [List.nil_append] at o3
      have hn3 : n3 = 4 := o3.1
      have hc3 := o3.cap
      subst hn3
      clear c_hL0
      have ca4 := (hO_20.alloc (.cells #[.int .i64 65, .slice A3 4 c3] 85)).cell 4
      have fa4 := (hO_20.alloc (.cells #[.int .i64 65, .slice A3 4 c3] 85)).frozen 4
      go_upto_region 9 with fail
      clear ca4 fa4
      obtain ⟨w21, hw21, hC, b21⟩ := box1c w20 #[.int .i64 65, .slice A3 4 c3] 85
      rw [hw21]
      have o4 := BF.own o3
      have hCl := hC.lt
      have hO20 := hO_20.lt
      have hR20 := hR_20.lt
      have o5 := o4.keep (S' := fun b => W2.heap.size ≤ b ∧ b < w21.heap.size) (fun b hb => ⟨⟨hb.1, Nat.lt_of_lt_of_le hb.2 (by omega)⟩, b21.block b hb.2⟩)
      have hD : DL rCap 2 w21 (fun b => W2.heap.size ≤ b ∧ b < w21.heap.size) (some ⟨w20.heap.size, 0, none⟩) 1 [(65, b32 a)] := DL.one rCap_ok hC ⟨b20.size, hCl⟩ ⟨A3, 4, c3, rfl, o5, hc3⟩
      clear hw21
      clear c_hO2 f_hO2
      have b021 := btr b020 b21 b020.size
      have hL_21 := hL_20.below b21 hL_20.lt
      clear hL_20
      have hR_21 := hR_20.below b21 hR_20.lt
      clear hR_20
      have hO_21 := hO_20.below b21 hO_20.lt
      clear hO_20
      have c_hO2 := hO_21.cell 2
      have f_hO2 := hO_21.frozen 2
      obtain ⟨w22, hw22⟩ : ∃ Wz_, w21.setCell ⟨W.heap.size, 4, none⟩ (.slice (some ⟨w20.heap.size, 0, none⟩) 1 1)= Wz_ := ⟨_, rfl⟩
      have hL_22 := hL_21.far (p := ⟨W.heap.size, 4, none⟩) (by show _ ≠ W.heap.size; omega) (.slice (some ⟨w20.heap.size, 0, none⟩) 1 1)
      have hR_22 := hR_21.far (p := ⟨W.heap.size, 4, none⟩) (by show _ ≠ W.heap.size; omega) (.slice (some ⟨w20.heap.size, 0, none⟩) 1 1)
      have hO_22 := hO_21.set_ 4 (.slice (some ⟨w20.heap.size, 0, none⟩) 1 1)
      simp only [List.setIfInBounds_toArray, List.set_cons_succ, List.set_cons_zero] at hO_22
      have hD_22 := hD.keep rCap_ok (Kp.set (p := ⟨W.heap.size, 4, none⟩) (by intro b hb; have := hb.1; show b ≠ W.heap.size; omega) (.slice (some ⟨w20.heap.size, 0, none⟩) 1 1))
      have b022 := b021.setCell (p := ⟨W.heap.size, 4, none⟩) (by show _ ≤ W.heap.size; omega) (.slice (some ⟨w20.heap.size, 0, none⟩) 1 1)
      have z_22 : w21.heap.size ≤ w22.heap.size := by rw [← hw22]; simp [World.setCell]
      rw [hw22] at hL_22 hR_22 hO_22 hD_22 b022
      rw [hw22]
      clear hw22
      clear c_hO2 f_hO2
      clear hL_21
      clear hR_21
      clear hO_21
      have c_hO2 := hO_22.cell 2
      have f_hO2 := hO_22.frozen 2
      clear c_hO2 f_hO2
      have c_hO0 := hO_22.cell 0
      have f_hO0 := hO_22.frozen 0
      have c_hO1 := hO_22.cell 1
      have f_hO1 := hO_22.frozen 1
      have c_hO2 := hO_22.cell 2
      have f_hO2 := hO_22.frozen 2
      have c_hO3 := hO_22.cell 3
      have f_hO3 := hO_22.frozen 3
      have c_hO4 := hO_22.cell 4
      have f_hO4 := hO_22.frozen 4
      have c_hR0 := hR_22.cell 0
      have f_hR0 := hR_22.frozen 0
      have c_hR1 := hR_22.cell 1
      have f_hR1 := hR_22.frozen 1
      have c_hR2 := hR_22.cell 2
      have f_hR2 := hR_22.frozen 2
      have c_hR3 := hR_22.cell 3
      have f_hR3 := hR_22.frozen 3
      have c_hR4 := hR_22.cell 4
      have f_hR4 := hR_22.frozen 4
      go_wp2_with fail
      obtain ⟨w23s0, hw23s0⟩ : ∃ Wz_, w22.setCell ⟨w.heap.size + 1, 0, none⟩ (.int .i64 4)= Wz_ := ⟨_, rfl⟩
      have hL_23s0 := hL_22.far (p := ⟨w.heap.size + 1, 0, none⟩) (by show _ ≠ w.heap.size + 1; omega) (.int .i64 4)
      have hR_23s0 := hR_22.set_ 0 (.int .i64 4)
      simp only [List.setIfInBounds_toArray, List.set_cons_succ, List.set_cons_zero] at hR_23s0
      have hO_23s0 := hO_22.far (p := ⟨w.heap.size + 1, 0, none⟩) (by show _ ≠ w.heap.size + 1; omega) (.int .i64 4)
      have hD_23s0 := hD_22.keep rCap_ok (Kp.set (p := ⟨w.heap.size + 1, 0, none⟩) (by intro b hb; have := hb.1; show b ≠ w.heap.size + 1; omega) (.int .i64 4))
      have b023s0 := b022.setCell (p := ⟨w.heap.size + 1, 0, none⟩) (by show _ ≤ w.heap.size + 1; omega) (.int .i64 4)
      have z_23s0 : w22.heap.size ≤ w23s0.heap.size := by rw [← hw23s0]; simp [World.setCell]
      rw [hw23s0] at hL_23s0 hR_23s0 hO_23s0 hD_23s0 b023s0
      rw [hw23s0]
      clear hw23s0
      clear c_hO0 f_hO0 c_hO1 f_hO1 c_hO2 f_hO2 c_hO3 f_hO3 c_hO4 f_hO4 c_hR0 f_hR0 c_hR1 f_hR1 c_hR2 f_hR2 c_hR3 f_hR3 c_hR4 f_hR4
      clear hL_22
      clear hR_22
      clear hO_22
      clear hD_22
      have c_hR0 := hR_23s0.cell 0
      have f_hR0 := hR_23s0.frozen 0
      have c_hR1 := hR_23s0.cell 1
      have f_hR1 := hR_23s0.frozen 1
      have c_hR2 := hR_23s0.cell 2
      have f_hR2 := hR_23s0.frozen 2
      have c_hR3 := hR_23s0.cell 3
      have f_hR3 := hR_23s0.frozen 3
      have c_hR4 := hR_23s0.cell 4
      have f_hR4 := hR_23s0.frozen 4
      have c_hO0 := hO_23s0.cell 0
      have f_hO0 := hO_23s0.frozen 0
      have c_hO1 := hO_23s0.cell 1
      have f_hO1 := hO_23s0.frozen 1
      have c_hO2 := hO_23s0.cell 2
      have f_hO2 := hO_23s0.frozen 2
      have c_hO3 := hO_23s0.cell 3
      have f_hO3 := hO_23s0.frozen 3
      have c_hO4 := hO_23s0.cell 4
      have f_hO4 := hO_23s0.frozen 4
      obtain ⟨w23s1, hw23s1⟩ : ∃ Wz_, w23s0.setCell ⟨w.heap.size + 1, 1, none⟩ (.int .i64 23456)= Wz_ := ⟨_, rfl⟩
      have hL_23s1 := hL_23s0.far (p := ⟨w.heap.size + 1, 1, none⟩) (by show _ ≠ w.heap.size + 1; omega) (.int .i64 23456)
      have hR_23s1 := hR_23s0.set_ 1 (.int .i64 23456)
      simp only [List.setIfInBounds_toArray, List.set_cons_succ, List.set_cons_zero] at hR_23s1
      have hO_23s1 := hO_23s0.far (p := ⟨w.heap.size + 1, 1, none⟩) (by show _ ≠ w.heap.size + 1; omega) (.int .i64 23456)
      have hD_23s1 := hD_23s0.keep rCap_ok (Kp.set (p := ⟨w.heap.size + 1, 1, none⟩) (by intro b hb; have := hb.1; show b ≠ w.heap.size + 1; omega) (.int .i64 23456))
      have b023s1 := b023s0.setCell (p := ⟨w.heap.size + 1, 1, none⟩) (by show _ ≤ w.heap.size + 1; omega) (.int .i64 23456)
      have z_23s1 : w23s0.heap.size ≤ w23s1.heap.size := by rw [← hw23s1]; simp [World.setCell]
      rw [hw23s1] at hL_23s1 hR_23s1 hO_23s1 hD_23s1 b023s1
      rw [hw23s1]
      clear hw23s1
      clear c_hO0 f_hO0 c_hO1 f_hO1 c_hO2 f_hO2 c_hO3 f_hO3 c_hO4 f_hO4 c_hR0 f_hR0 c_hR1 f_hR1 c_hR2 f_hR2 c_hR3 f_hR3 c_hR4 f_hR4
      clear hL_23s0
      clear hR_23s0
      clear hO_23s0
      clear hD_23s0
      have c_hR0 := hR_23s1.cell 0
      have f_hR0 := hR_23s1.frozen 0
      have c_hR1 := hR_23s1.cell 1
      have f_hR1 := hR_23s1.frozen 1
      have c_hR2 := hR_23s1.cell 2
      have f_hR2 := hR_23s1.frozen 2
      have c_hR3 := hR_23s1.cell 3
      have f_hR3 := hR_23s1.frozen 3
      have c_hR4 := hR_23s1.cell 4
      have f_hR4 := hR_23s1.frozen 4
      have c_hO0 := hO_23s1.cell 0
      have f_hO0 := hO_23s1.frozen 0
      have c_hO1 := hO_23s1.cell 1
      have f_hO1 := hO_23s1.frozen 1
      have c_hO2 := hO_23s1.cell 2
      have f_hO2 := hO_23s1.frozen 2
      have c_hO3 := hO_23s1.cell 3
      have f_hO3 := hO_23s1.frozen 3
      have c_hO4 := hO_23s1.cell 4
      have f_hO4 := hO_23s1.frozen 4
      obtain ⟨w23s2, hw23s2⟩ : ∃ Wz_, w23s1.setCell ⟨w.heap.size + 1, 2, none⟩ (.int .i64 ho)= Wz_ := ⟨_, rfl⟩
      have hL_23s2 := hL_23s1.far (p := ⟨w.heap.size + 1, 2, none⟩) (by show _ ≠ w.heap.size + 1; omega) (.int .i64 ho)
      have hR_23s2 := hR_23s1.set_ 2 (.int .i64 ho)
      simp only [List.setIfInBounds_toArray, List.set_cons_succ, List.set_cons_zero] at hR_23s2
      have hO_23s2 := hO_23s1.far (p := ⟨w.heap.size + 1, 2, none⟩) (by show _ ≠ w.heap.size + 1; omega) (.int .i64 ho)
      have hD_23s2 := hD_23s1.keep rCap_ok (Kp.set (p := ⟨w.heap.size + 1, 2, none⟩) (by intro b hb; have := hb.1; show b ≠ w.heap.size + 1; omega) (.int .i64 ho))
      have b023s2 := b023s1.setCell (p := ⟨w.heap.size + 1, 2, none⟩) (by show _ ≤ w.heap.size + 1; omega) (.int .i64 ho)
      have z_23s2 : w23s1.heap.size ≤ w23s2.heap.size := by rw [← hw23s2]; simp [World.setCell]
      rw [hw23s2] at hL_23s2 hR_23s2 hO_23s2 hD_23s2 b023s2
      rw [hw23s2]
      clear hw23s2
      clear c_hO0 f_hO0 c_hO1 f_hO1 c_hO2 f_hO2 c_hO3 f_hO3 c_hO4 f_hO4 c_hR0 f_hR0 c_hR1 f_hR1 c_hR2 f_hR2 c_hR3 f_hR3 c_hR4 f_hR4
      clear hL_23s1
      clear hR_23s1
      clear hO_23s1
      clear hD_23s1
      have c_hR0 := hR_23s2.cell 0
      have f_hR0 := hR_23s2.frozen 0
      have c_hR1 := hR_23s2.cell 1
      have f_hR1 := hR_23s2.frozen 1
      have c_hR2 := hR_23s2.cell 2
      have f_hR2 := hR_23s2.frozen 2
      have c_hR3 := hR_23s2.cell 3
      have f_hR3 := hR_23s2.frozen 3
      have c_hR4 := hR_23s2.cell 4
      have f_hR4 := hR_23s2.frozen 4
      have c_hO0 := hO_23s2.cell 0
      have f_hO0 := hO_23s2.frozen 0
      have c_hO1 := hO_23s2.cell 1
      have f_hO1 := hO_23s2.frozen 1
      have c_hO2 := hO_23s2.cell 2
      have f_hO2 := hO_23s2.frozen 2
      have c_hO3 := hO_23s2.cell 3
      have f_hO3 := hO_23s2.frozen 3
      have c_hO4 := hO_23s2.cell 4
      have f_hO4 := hO_23s2.frozen 4
      obtain ⟨w23s3, hw23s3⟩ : ∃ Wz_, w23s2.setCell ⟨w.heap.size + 1, 3, none⟩ (.int .u32 i)= Wz_ := ⟨_, rfl⟩
      have hL_23s3 := hL_23s2.far (p := ⟨w.heap.size + 1, 3, none⟩) (by show _ ≠ w.heap.size + 1; omega) (.int .u32 i)
      have hR_23s3 := hR_23s2.set_ 3 (.int .u32 i)
      simp only [List.setIfInBounds_toArray, List.set_cons_succ, List.set_cons_zero] at hR_23s3
      have hO_23s3 := hO_23s2.far (p := ⟨w.heap.size + 1, 3, none⟩) (by show _ ≠ w.heap.size + 1; omega) (.int .u32 i)
      have hD_23s3 := hD_23s2.keep rCap_ok (Kp.set (p := ⟨w.heap.size + 1, 3, none⟩) (by intro b hb; have := hb.1; show b ≠ w.heap.size + 1; omega) (.int .u32 i))
      have b023s3 := b023s2.setCell (p := ⟨w.heap.size + 1, 3, none⟩) (by show _ ≤ w.heap.size + 1; omega) (.int .u32 i)
      have z_23s3 : w23s2.heap.size ≤ w23s3.heap.size := by rw [← hw23s3]; simp [World.setCell]
      rw [hw23s3] at hL_23s3 hR_23s3 hO_23s3 hD_23s3 b023s3
      rw [hw23s3]
      clear hw23s3
      clear c_hO0 f_hO0 c_hO1 f_hO1 c_hO2 f_hO2 c_hO3 f_hO3 c_hO4 f_hO4 c_hR0 f_hR0 c_hR1 f_hR1 c_hR2 f_hR2 c_hR3 f_hR3 c_hR4 f_hR4
      clear hL_23s2
      clear hR_23s2
      clear hO_23s2
      clear hD_23s2
      have c_hR0 := hR_23s3.cell 0
      have f_hR0 := hR_23s3.frozen 0
      have c_hR1 := hR_23s3.cell 1
      have f_hR1 := hR_23s3.frozen 1
      have c_hR2 := hR_23s3.cell 2
      have f_hR2 := hR_23s3.frozen 2
      have c_hR3 := hR_23s3.cell 3
      have f_hR3 := hR_23s3.frozen 3
      have c_hR4 := hR_23s3.cell 4
      have f_hR4 := hR_23s3.frozen 4
      have c_hO0 := hO_23s3.cell 0
      have f_hO0 := hO_23s3.frozen 0
      have c_hO1 := hO_23s3.cell 1
      have f_hO1 := hO_23s3.frozen 1
      have c_hO2 := hO_23s3.cell 2
      have f_hO2 := hO_23s3.frozen 2
      have c_hO3 := hO_23s3.cell 3
      have f_hO3 := hO_23s3.frozen 3
      have c_hO4 := hO_23s3.cell 4
      have f_hO4 := hO_23s3.frozen 4
      obtain ⟨w23s4, hw23s4⟩ : ∃ Wz_, w23s3.setCell ⟨w.heap.size + 1, 4, none⟩ (.slice (some ⟨w20.heap.size, 0, none⟩) 1 1)= Wz_ := ⟨_, rfl⟩
      have hL_23s4 := hL_23s3.far (p := ⟨w.heap.size + 1, 4, none⟩) (by show _ ≠ w.heap.size + 1; omega) (.slice (some ⟨w20.heap.size, 0, none⟩) 1 1)
      have hR_23s4 := hR_23s3.set_ 4 (.slice (some ⟨w20.heap.size, 0, none⟩) 1 1)
      simp only [List.setIfInBounds_toArray, List.set_cons_succ, List.set_cons_zero] at hR_23s4
      have hO_23s4 := hO_23s3.far (p := ⟨w.heap.size + 1, 4, none⟩) (by show _ ≠ w.heap.size + 1; omega) (.slice (some ⟨w20.heap.size, 0, none⟩) 1 1)
      have hD_23s4 := hD_23s3.keep rCap_ok (Kp.set (p := ⟨w.heap.size + 1, 4, none⟩) (by intro b hb; have := hb.1; show b ≠ w.heap.size + 1; omega) (.slice (some ⟨w20.heap.size, 0, none⟩) 1 1))
      have b023s4 := b023s3.setCell (p := ⟨w.heap.size + 1, 4, none⟩) (by show _ ≤ w.heap.size + 1; omega) (.slice (some ⟨w20.heap.size, 0, none⟩) 1 1)
      have z_23s4 : w23s3.heap.size ≤ w23s4.heap.size := by rw [← hw23s4]; simp [World.setCell]
      rw [hw23s4] at hL_23s4 hR_23s4 hO_23s4 hD_23s4 b023s4
      rw [hw23s4]
      clear hw23s4
      clear c_hO0 f_hO0 c_hO1 f_hO1 c_hO2 f_hO2 c_hO3 f_hO3 c_hO4 f_hO4 c_hR0 f_hR0 c_hR1 f_hR1 c_hR2 f_hR2 c_hR3 f_hR3 c_hR4 f_hR4
      clear hL_23s3
      clear hR_23s3
      clear hO_23s3
      clear hD_23s3
      have c_hR0 := hR_23s4.cell 0
      have f_hR0 := hR_23s4.frozen 0
      have c_hR1 := hR_23s4.cell 1
      have f_hR1 := hR_23s4.frozen 1
      have c_hR2 := hR_23s4.cell 2
      have f_hR2 := hR_23s4.frozen 2
      have c_hR3 := hR_23s4.cell 3
      have f_hR3 := hR_23s4.frozen 3
      have c_hR4 := hR_23s4.cell 4
      have f_hR4 := hR_23s4.frozen 4
      have c_hO0 := hO_23s4.cell 0
      have f_hO0 := hO_23s4.frozen 0
      have c_hO1 := hO_23s4.cell 1
      have f_hO1 := hO_23s4.frozen 1
      have c_hO2 := hO_23s4.cell 2
      have f_hO2 := hO_23s4.frozen 2
      have c_hO3 := hO_23s4.cell 3
      have f_hO3 := hO_23s4.frozen 3
      have c_hO4 := hO_23s4.cell 4
      have f_hO4 := hO_23s4.frozen 4
      refine bodyPost_ret (opn_ret rfl _ _ (w.heap.size + 1) _ _ _ _ _ rfl hR_23s4) rfl ?_
      exact ⟨some ⟨w20.heap.size, 0, none⟩, 1, by rw [HA.out, HH.out], hD_23s4.keep rCap_ok (Kp.sub fun b hb => Nat.lt_of_lt_of_le hb.2 (by omega)), Nat.le_refl _, b023s4⟩
end Go.Proofs.YthgjknmfghjioaaDoor
