/- Walks of layer 6 (open): Check, and the document's. No conditions but sizes. -/
import Derived.Test.YthgjknmfghjioaaDoorProg
import Derived.WalkKit
import Derived.WalkSpells
import Derived.WalkLawsBesides
import Derived.Outline
import Derived.Deep.QuietTactic
import Derived.BigQuiet
import Derived.Handy
import Derived.Lib.Hide
import Derived.Test.YthgjknmfghjioaaDoorOpnI
namespace Go.Proofs.YthgjknmfghjioaaDoor
open Go.RowKit
set_option linter.unusedSimpArgs false
set_option linter.unusedVariables false
theorem flt_no6 {x y : Int} {A : Option Addr} {n c : Nat} : ∀ (i : Nat) (v : Int), (#[Value.int .i64 x, Value.int .i64 y, Value.slice A n c] : Array Value)[i]? ≠ some (Value.int .u8 v) := by
  intro i v
  rcases i with _ | _ | _ | i <;> simp
theorem BS.two6 (w : World) (x y : Int) (h0 : 0 ≤ x) (h1 : x ≤ 255) (h2 : 0 ≤ y) (h3 : y ≤ 255) : BS (w.alloc (.cells #[.int .u8 x, .int .u8 y] 5)) (w.heap.size + 1) (some ⟨w.heap.size, 0, none⟩) 2 [ub x, ub y] := by
  have := BS.lit w 5 [ub x, ub y]
  simpa [bv, ub_toNat h0 h1, ub_toNat h2 h3] using this
set_option maxHeartbeats 2000000 in
set_option maxRecDepth 100000 in
theorem openCheck (v a h : Int) (i : Nat) (A : Option Addr) (n c : Nat) (l : List Cap) (p q : Int) (w : World) (hd : DL rCap 2 w (Lo w) A n l) (hn : n ≤ 100000) :
    Calls Tryd.prog 43 #[.agg #[.int .i64 v, .int .i64 a, .int .i64 h, .int .u32 i, .slice A n c], .int .u32 p, .int .u32 q] w (RetFlt w (checkO v a h i l p q)) := by
  obtain ⟨W, hW, hX, hF, b0⟩ := boxes2 w #[.int .i64 v, .int .i64 a, .int .i64 h, .int .u32 i, .slice A n c] #[.int .i64 0, .int .i64 0, .slice none 0 0] 66 36
  have HW := Lib.hid hW
  clear hW
  have hD := hd.keep rCap_ok ((Kp.lt b0).trans (Kp.sub fun b hb => Nat.lt_of_lt_of_le hb b0.size))
  have HA := openAS v a h i A n c l W hD hn
  have hXl := hX.lt
  have hFl := hF.lt
  by_cases h1 : v = 4
  case neg =>
    have t1 : (v != 4) = true := ne_true h1
    have HG := Lib.hid (show checkO v a h i l p q = (1, [ub 0, ub 4]) by unfold checkO; rw [if_pos h1])
    clear h1
    go_enter Tryd.func43, Tryd.ntmps43
    go_upto_region 1 with fail
    rw [HW.out]
    have c_hX0 := hX.cell 0
    have c_hX1 := hX.cell 1
    have c_hX2 := hX.cell 2
    have c_hX3 := hX.cell 3
    have c_hX4 := hX.cell 4
    have c_hF0 := hF.cell 0
    have f_hF0 := hF.frozen 0
    have c_hF1 := hF.cell 1
    have f_hF1 := hF.frozen 1
    have c_hF2 := hF.cell 2
    have f_hF2 := hF.frozen 2
    go_wp2_with fail
    obtain ⟨w7, hw7, hB7, b7⟩ := box1c W #[.int .u8 0, .int .u8 4] 5
    have s7 := BS.two6 W 0 4 (by omega) (by omega) (by omega) (by omega)
    rw [hw7] at s7
    rw [hw7]
    clear hw7
    clear c_hX0 c_hX1 c_hX2 c_hX3 c_hX4 c_hF0 f_hF0 c_hF1 f_hF1 c_hF2 f_hF2
    have b07 := btr b0 b7 b0.size
    have hX_7 := hX.below b7 hX.lt
    have hF_7 := hF.below b7 hF.lt
    have c_hX0 := hX_7.cell 0
    have c_hX1 := hX_7.cell 1
    have c_hX2 := hX_7.cell 2
    have c_hX3 := hX_7.cell 3
    have c_hX4 := hX_7.cell 4
    have c_hF0 := hF_7.cell 0
    have f_hF0 := hF_7.frozen 0
    have c_hF1 := hF_7.cell 1
    have f_hF1 := hF_7.frozen 1
    have c_hF2 := hF_7.cell 2
    have f_hF2 := hF_7.frozen 2
    refine (openFault 1 (some ⟨W.heap.size, 0, none⟩) 2 2 _).mono ?_
    rintro _ w8 ⟨rfl, b8⟩
    clear c_hX0 c_hX1 c_hX2 c_hX3 c_hX4 c_hF0 f_hF0 c_hF1 f_hF1 c_hF2 f_hF2
    have b08 := btr b07 b8 b07.size
    have hX_8 := hX_7.below b8 hX_7.lt
    clear hX_7
    have hF_8 := hF_7.below b8 hF_7.lt
    clear hF_7
    have c_hX0 := hX_8.cell 0
    have c_hX1 := hX_8.cell 1
    have c_hX2 := hX_8.cell 2
    have c_hX3 := hX_8.cell 3
    have c_hX4 := hX_8.cell 4
    have c_hF0 := hF_8.cell 0
    have f_hF0 := hF_8.frozen 0
    have c_hF1 := hF_8.cell 1
    have f_hF1 := hF_8.frozen 1
    have c_hF2 := hF_8.cell 2
    have f_hF2 := hF_8.frozen 2
    have sF := (s7.more (by have := hB7.lt; omega)).call b8
    go_wp2_with fail
    have HX := st3 hF_8 b08 (by omega) (.int .i64 2) (.int .i64 1) (.slice (some ⟨W.heap.size, 0, none⟩) 2 2)
    refine bodyPost_ret (flt_ret rfl _ _ (w.heap.size + 1) _ _ _ rfl (HX _ rfl).1) rfl ?_
    rw [HG.out]
    exact ⟨_, 2, 2, rfl, BS.grownAt sF (HX _ rfl).2.2.2 (BS.apart sF hF_8 flt_no6), (HX _ rfl).2.1⟩
  have t1 : (v != 4) = false := ne_false h1
  have HV := Lib.hid h1
  clear h1
  obtain ⟨sa, has⟩ : ∃ sa, asO a l = sa := ⟨_, rfl⟩
  have HAS := Lib.hid has
  by_cases h2 : sa = p
  case neg =>
    have t2 : (sa != p) = true := ne_true h2
    have HG := Lib.hid (show checkO v a h i l p q = (2, []) by unfold checkO; rw [if_neg (by rw [HV.out]; simp), has, if_pos h2])
    clear h2 has
    go_enter Tryd.func43, Tryd.ntmps43
    go_upto_region 1 with fail
    rw [HW.out]
    have c_hX0 := hX.cell 0
    have c_hX1 := hX.cell 1
    have c_hX2 := hX.cell 2
    have c_hX3 := hX.cell 3
    have c_hX4 := hX.cell 4
    have c_hF0 := hF.cell 0
    have f_hF0 := hF.frozen 0
    have c_hF1 := hF.cell 1
    have f_hF1 := hF.frozen 1
    have c_hF2 := hF.cell 2
    have f_hF2 := hF.frozen 2
    go_wp2_with fail
    refine HA.mono ?_
    rintro _ w1 ⟨rfl, b1⟩
    rw [HAS.out]
    clear c_hX0 c_hX1 c_hX2 c_hX3 c_hX4 c_hF0 f_hF0 c_hF1 f_hF1 c_hF2 f_hF2
    have b01 := btr b0 b1 b0.size
    have hX_1 := hX.below b1 hX.lt
    have hF_1 := hF.below b1 hF.lt
    have c_hX0 := hX_1.cell 0
    have c_hX1 := hX_1.cell 1
    have c_hX2 := hX_1.cell 2
    have c_hX3 := hX_1.cell 3
    have c_hX4 := hX_1.cell 4
    have c_hF0 := hF_1.cell 0
    have f_hF0 := hF_1.frozen 0
    have c_hF1 := hF_1.cell 1
    have f_hF1 := hF_1.frozen 1
    have c_hF2 := hF_1.cell 2
    have f_hF2 := hF_1.frozen 2
    go_wp2_with fail
    refine (openFault 2 none 0 0 _).mono ?_
    rintro _ w8 ⟨rfl, b8⟩
    clear c_hX0 c_hX1 c_hX2 c_hX3 c_hX4 c_hF0 f_hF0 c_hF1 f_hF1 c_hF2 f_hF2
    have b08 := btr b01 b8 b01.size
    have hX_8 := hX_1.below b8 hX_1.lt
    clear hX_1
    have hF_8 := hF_1.below b8 hF_1.lt
    clear hF_1
    have c_hX0 := hX_8.cell 0
    have c_hX1 := hX_8.cell 1
    have c_hX2 := hX_8.cell 2
    have c_hX3 := hX_8.cell 3
    have c_hX4 := hX_8.cell 4
    have c_hF0 := hF_8.cell 0
    have f_hF0 := hF_8.frozen 0
    have c_hF1 := hF_8.cell 1
    have f_hF1 := hF_8.frozen 1
    have c_hF2 := hF_8.cell 2
    have f_hF2 := hF_8.frozen 2
    go_wp2_with fail
    have HX := st3 hF_8 b08 (by omega) (.int .i64 2) (.int .i64 2) (.slice none 0 0)
    refine bodyPost_ret (flt_ret rfl _ _ (w.heap.size + 1) _ _ _ rfl (HX _ rfl).1) rfl ?_
    rw [HG.out]
    exact ⟨none, 0, 0, rfl, BS.none_, (HX _ rfl).2.1⟩
  have t2 : (sa != p) = false := ne_false h2
  have HP := Lib.hid (show asO a l = p from has.trans h2)
  clear h2 has
  by_cases h30 : (i : Int) = 0
  · have t30 : ((i : Int) == 0) = true := by rw [beq_iff_eq]; exact h30
    have HG := Lib.hid (show checkO v a h i l p q = (3, []) by unfold checkO; rw [if_neg (by rw [HV.out]; simp), if_neg (by rw [HP.out]; simp), if_pos (.inl h30)])
    clear h30
    go_enter Tryd.func43, Tryd.ntmps43
    go_upto_region 1 with fail
    rw [HW.out]
    have c_hX0 := hX.cell 0
    have c_hX1 := hX.cell 1
    have c_hX2 := hX.cell 2
    have c_hX3 := hX.cell 3
    have c_hX4 := hX.cell 4
    have c_hF0 := hF.cell 0
    have f_hF0 := hF.frozen 0
    have c_hF1 := hF.cell 1
    have f_hF1 := hF.frozen 1
    have c_hF2 := hF.cell 2
    have f_hF2 := hF.frozen 2
    go_wp2_with fail
    refine HA.mono ?_
    rintro _ w1 ⟨rfl, b1⟩
    rw [HAS.out]
    clear c_hX0 c_hX1 c_hX2 c_hX3 c_hX4 c_hF0 f_hF0 c_hF1 f_hF1 c_hF2 f_hF2
    have b01 := btr b0 b1 b0.size
    have hX_1 := hX.below b1 hX.lt
    have hF_1 := hF.below b1 hF.lt
    have c_hX0 := hX_1.cell 0
    have c_hX1 := hX_1.cell 1
    have c_hX2 := hX_1.cell 2
    have c_hX3 := hX_1.cell 3
    have c_hX4 := hX_1.cell 4
    have c_hF0 := hF_1.cell 0
    have f_hF0 := hF_1.frozen 0
    have c_hF1 := hF_1.cell 1
    have f_hF1 := hF_1.frozen 1
    have c_hF2 := hF_1.cell 2
    have f_hF2 := hF_1.frozen 2
    go_wp2_with fail
    refine (openFault 3 none 0 0 _).mono ?_
    rintro _ w8 ⟨rfl, b8⟩
    clear c_hX0 c_hX1 c_hX2 c_hX3 c_hX4 c_hF0 f_hF0 c_hF1 f_hF1 c_hF2 f_hF2
    have b08 := btr b01 b8 b01.size
    have hX_8 := hX_1.below b8 hX_1.lt
    clear hX_1
    have hF_8 := hF_1.below b8 hF_1.lt
    clear hF_1
    have c_hX0 := hX_8.cell 0
    have c_hX1 := hX_8.cell 1
    have c_hX2 := hX_8.cell 2
    have c_hX3 := hX_8.cell 3
    have c_hX4 := hX_8.cell 4
    have c_hF0 := hF_8.cell 0
    have f_hF0 := hF_8.frozen 0
    have c_hF1 := hF_8.cell 1
    have f_hF1 := hF_8.frozen 1
    have c_hF2 := hF_8.cell 2
    have f_hF2 := hF_8.frozen 2
    go_wp2_with fail
    have HX := st3 hF_8 b08 (by omega) (.int .i64 2) (.int .i64 3) (.slice none 0 0)
    refine bodyPost_ret (flt_ret rfl _ _ (w.heap.size + 1) _ _ _ rfl (HX _ rfl).1) rfl ?_
    rw [HG.out]
    exact ⟨none, 0, 0, rfl, BS.none_, (HX _ rfl).2.1⟩
  have t30 : ((i : Int) == 0) = false := by rw [beq_eq_false_iff_ne]; exact h30
  by_cases h31 : (i : Int) = q
  · have t31 : ((i : Int) == q) = true := by rw [beq_iff_eq]; exact h31
    have HG := Lib.hid (show checkO v a h i l p q = (3, []) by unfold checkO; rw [if_neg (by rw [HV.out]; simp), if_neg (by rw [HP.out]; simp), if_pos (.inr h31)])
    clear h31
    go_enter Tryd.func43, Tryd.ntmps43
    go_upto_region 1 with fail
    rw [HW.out]
    have c_hX0 := hX.cell 0
    have c_hX1 := hX.cell 1
    have c_hX2 := hX.cell 2
    have c_hX3 := hX.cell 3
    have c_hX4 := hX.cell 4
    have c_hF0 := hF.cell 0
    have f_hF0 := hF.frozen 0
    have c_hF1 := hF.cell 1
    have f_hF1 := hF.frozen 1
    have c_hF2 := hF.cell 2
    have f_hF2 := hF.frozen 2
    go_wp2_with fail
    refine HA.mono ?_
    rintro _ w1 ⟨rfl, b1⟩
    rw [HAS.out]
    clear c_hX0 c_hX1 c_hX2 c_hX3 c_hX4 c_hF0 f_hF0 c_hF1 f_hF1 c_hF2 f_hF2
    have b01 := btr b0 b1 b0.size
    have hX_1 := hX.below b1 hX.lt
    have hF_1 := hF.below b1 hF.lt
    have c_hX0 := hX_1.cell 0
    have c_hX1 := hX_1.cell 1
    have c_hX2 := hX_1.cell 2
    have c_hX3 := hX_1.cell 3
    have c_hX4 := hX_1.cell 4
    have c_hF0 := hF_1.cell 0
    have f_hF0 := hF_1.frozen 0
    have c_hF1 := hF_1.cell 1
    have f_hF1 := hF_1.frozen 1
    have c_hF2 := hF_1.cell 2
    have f_hF2 := hF_1.frozen 2
    go_wp2_with fail
    refine (openFault 3 none 0 0 _).mono ?_
    rintro _ w8 ⟨rfl, b8⟩
    clear c_hX0 c_hX1 c_hX2 c_hX3 c_hX4 c_hF0 f_hF0 c_hF1 f_hF1 c_hF2 f_hF2
    have b08 := btr b01 b8 b01.size
    have hX_8 := hX_1.below b8 hX_1.lt
    clear hX_1
    have hF_8 := hF_1.below b8 hF_1.lt
    clear hF_1
    have c_hX0 := hX_8.cell 0
    have c_hX1 := hX_8.cell 1
    have c_hX2 := hX_8.cell 2
    have c_hX3 := hX_8.cell 3
    have c_hX4 := hX_8.cell 4
    have c_hF0 := hF_8.cell 0
    have f_hF0 := hF_8.frozen 0
    have c_hF1 := hF_8.cell 1
    have f_hF1 := hF_8.frozen 1
    have c_hF2 := hF_8.cell 2
    have f_hF2 := hF_8.frozen 2
    go_wp2_with fail
    have HX := st3 hF_8 b08 (by omega) (.int .i64 2) (.int .i64 3) (.slice none 0 0)
    refine bodyPost_ret (flt_ret rfl _ _ (w.heap.size + 1) _ _ _ rfl (HX _ rfl).1) rfl ?_
    rw [HG.out]
    exact ⟨none, 0, 0, rfl, BS.none_, (HX _ rfl).2.1⟩
  have t31 : ((i : Int) == q) = false := by rw [beq_eq_false_iff_ne]; exact h31
  have HI := Lib.hid (show ¬ ((i : Int) = 0 ∨ (i : Int) = q) from fun e => e.elim h30 h31)
  clear h30 h31
  by_cases h40 : h = 1
  · have t40 : (h == 1) = true := by rw [beq_iff_eq]; exact h40
    have HG := Lib.hid (show checkO v a h i l p q = (6, []) by unfold checkO; rw [if_neg (by rw [HV.out]; simp), if_neg (by rw [HP.out]; simp), if_neg HI.out, if_pos (.inl h40)])
    clear h40
    go_enter Tryd.func43, Tryd.ntmps43
    go_upto_region 1 with fail
    rw [HW.out]
    have c_hX0 := hX.cell 0
    have c_hX1 := hX.cell 1
    have c_hX2 := hX.cell 2
    have c_hX3 := hX.cell 3
    have c_hX4 := hX.cell 4
    have c_hF0 := hF.cell 0
    have f_hF0 := hF.frozen 0
    have c_hF1 := hF.cell 1
    have f_hF1 := hF.frozen 1
    have c_hF2 := hF.cell 2
    have f_hF2 := hF.frozen 2
    go_wp2_with fail
    refine HA.mono ?_
    rintro _ w1 ⟨rfl, b1⟩
    rw [HAS.out]
    clear c_hX0 c_hX1 c_hX2 c_hX3 c_hX4 c_hF0 f_hF0 c_hF1 f_hF1 c_hF2 f_hF2
    have b01 := btr b0 b1 b0.size
    have hX_1 := hX.below b1 hX.lt
    have hF_1 := hF.below b1 hF.lt
    have c_hX0 := hX_1.cell 0
    have c_hX1 := hX_1.cell 1
    have c_hX2 := hX_1.cell 2
    have c_hX3 := hX_1.cell 3
    have c_hX4 := hX_1.cell 4
    have c_hF0 := hF_1.cell 0
    have f_hF0 := hF_1.frozen 0
    have c_hF1 := hF_1.cell 1
    have f_hF1 := hF_1.frozen 1
    have c_hF2 := hF_1.cell 2
    have f_hF2 := hF_1.frozen 2
    go_wp2_with fail
    refine (openFault 6 none 0 0 _).mono ?_
    rintro _ w8 ⟨rfl, b8⟩
    clear c_hX0 c_hX1 c_hX2 c_hX3 c_hX4 c_hF0 f_hF0 c_hF1 f_hF1 c_hF2 f_hF2
    have b08 := btr b01 b8 b01.size
    have hX_8 := hX_1.below b8 hX_1.lt
    clear hX_1
    have hF_8 := hF_1.below b8 hF_1.lt
    clear hF_1
    have c_hX0 := hX_8.cell 0
    have c_hX1 := hX_8.cell 1
    have c_hX2 := hX_8.cell 2
    have c_hX3 := hX_8.cell 3
    have c_hX4 := hX_8.cell 4
    have c_hF0 := hF_8.cell 0
    have f_hF0 := hF_8.frozen 0
    have c_hF1 := hF_8.cell 1
    have f_hF1 := hF_8.frozen 1
    have c_hF2 := hF_8.cell 2
    have f_hF2 := hF_8.frozen 2
    go_wp2_with fail
    have HX := st3 hF_8 b08 (by omega) (.int .i64 2) (.int .i64 6) (.slice none 0 0)
    refine bodyPost_ret (flt_ret rfl _ _ (w.heap.size + 1) _ _ _ rfl (HX _ rfl).1) rfl ?_
    rw [HG.out]
    exact ⟨none, 0, 0, rfl, BS.none_, (HX _ rfl).2.1⟩
  have t40 : (h == 1) = false := by rw [beq_eq_false_iff_ne]; exact h40
  by_cases h41 : h = 2
  · have t41 : (h == 2) = true := by rw [beq_iff_eq]; exact h41
    have HG := Lib.hid (show checkO v a h i l p q = (6, []) by unfold checkO; rw [if_neg (by rw [HV.out]; simp), if_neg (by rw [HP.out]; simp), if_neg HI.out, if_pos (.inr h41)])
    clear h41
    go_enter Tryd.func43, Tryd.ntmps43
    go_upto_region 1 with fail
    rw [HW.out]
    have c_hX0 := hX.cell 0
    have c_hX1 := hX.cell 1
    have c_hX2 := hX.cell 2
    have c_hX3 := hX.cell 3
    have c_hX4 := hX.cell 4
    have c_hF0 := hF.cell 0
    have f_hF0 := hF.frozen 0
    have c_hF1 := hF.cell 1
    have f_hF1 := hF.frozen 1
    have c_hF2 := hF.cell 2
    have f_hF2 := hF.frozen 2
    go_wp2_with fail
    refine HA.mono ?_
    rintro _ w1 ⟨rfl, b1⟩
    rw [HAS.out]
    clear c_hX0 c_hX1 c_hX2 c_hX3 c_hX4 c_hF0 f_hF0 c_hF1 f_hF1 c_hF2 f_hF2
    have b01 := btr b0 b1 b0.size
    have hX_1 := hX.below b1 hX.lt
    have hF_1 := hF.below b1 hF.lt
    have c_hX0 := hX_1.cell 0
    have c_hX1 := hX_1.cell 1
    have c_hX2 := hX_1.cell 2
    have c_hX3 := hX_1.cell 3
    have c_hX4 := hX_1.cell 4
    have c_hF0 := hF_1.cell 0
    have f_hF0 := hF_1.frozen 0
    have c_hF1 := hF_1.cell 1
    have f_hF1 := hF_1.frozen 1
    have c_hF2 := hF_1.cell 2
    have f_hF2 := hF_1.frozen 2
    go_wp2_with fail
    refine (openFault 6 none 0 0 _).mono ?_
    rintro _ w8 ⟨rfl, b8⟩
    clear c_hX0 c_hX1 c_hX2 c_hX3 c_hX4 c_hF0 f_hF0 c_hF1 f_hF1 c_hF2 f_hF2
    have b08 := btr b01 b8 b01.size
    have hX_8 := hX_1.below b8 hX_1.lt
    clear hX_1
    have hF_8 := hF_1.below b8 hF_1.lt
    clear hF_1
    have c_hX0 := hX_8.cell 0
    have c_hX1 := hX_8.cell 1
    have c_hX2 := hX_8.cell 2
    have c_hX3 := hX_8.cell 3
    have c_hX4 := hX_8.cell 4
    have c_hF0 := hF_8.cell 0
    have f_hF0 := hF_8.frozen 0
    have c_hF1 := hF_8.cell 1
    have f_hF1 := hF_8.frozen 1
    have c_hF2 := hF_8.cell 2
    have f_hF2 := hF_8.frozen 2
    go_wp2_with fail
    have HX := st3 hF_8 b08 (by omega) (.int .i64 2) (.int .i64 6) (.slice none 0 0)
    refine bodyPost_ret (flt_ret rfl _ _ (w.heap.size + 1) _ _ _ rfl (HX _ rfl).1) rfl ?_
    rw [HG.out]
    exact ⟨none, 0, 0, rfl, BS.none_, (HX _ rfl).2.1⟩
  have t41 : (h == 2) = false := by rw [beq_eq_false_iff_ne]; exact h41
  have HG := Lib.hid (show checkO v a h i l p q = (0, []) by unfold checkO; rw [if_neg (by rw [HV.out]; simp), if_neg (by rw [HP.out]; simp), if_neg HI.out, if_neg (fun e => e.elim h40 h41)])
  clear h40 h41
  go_enter Tryd.func43, Tryd.ntmps43
  go_upto_region 1 with fail
  rw [HW.out]
  have c_hX0 := hX.cell 0
  have c_hX1 := hX.cell 1
  have c_hX2 := hX.cell 2
  have c_hX3 := hX.cell 3
  have c_hX4 := hX.cell 4
  have c_hF0 := hF.cell 0
  have f_hF0 := hF.frozen 0
  have c_hF1 := hF.cell 1
  have f_hF1 := hF.frozen 1
  have c_hF2 := hF.cell 2
  have f_hF2 := hF.frozen 2
  go_wp2_with fail
  refine HA.mono ?_
  rintro _ w1 ⟨rfl, b1⟩
  rw [HAS.out]
  clear c_hX0 c_hX1 c_hX2 c_hX3 c_hX4 c_hF0 f_hF0 c_hF1 f_hF1 c_hF2 f_hF2
  have b01 := btr b0 b1 b0.size
  have hX_1 := hX.below b1 hX.lt
  have hF_1 := hF.below b1 hF.lt
  have c_hX0 := hX_1.cell 0
  have c_hX1 := hX_1.cell 1
  have c_hX2 := hX_1.cell 2
  have c_hX3 := hX_1.cell 3
  have c_hX4 := hX_1.cell 4
  have c_hF0 := hF_1.cell 0
  have f_hF0 := hF_1.frozen 0
  have c_hF1 := hF_1.cell 1
  have f_hF1 := hF_1.frozen 1
  have c_hF2 := hF_1.cell 2
  have f_hF2 := hF_1.frozen 2
  go_wp2_with fail
  have HX := st3 hF_1 b01 (by omega) (.int .i64 0) (.int .i64 0) (.slice none 0 0)
  refine bodyPost_ret (flt_ret rfl _ _ (w.heap.size + 1) _ _ _ rfl (HX _ rfl).1) rfl ?_
  rw [HG.out]
  exact ⟨none, 0, 0, rfl, BS.none_, (HX _ rfl).2.1⟩
end Go.Proofs.YthgjknmfghjioaaDoor
