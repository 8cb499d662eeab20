/- The walk of the law FilterTexts. Conditions: the table of digits (DigTab). -/
import Derived.Test.YtnhkpnohadbcdaaDoorProg
import Derived.WalkKit
import Derived.WalkSpells
import Derived.WalkLawsBesides
import Derived.Outline
import Derived.Deep.QuietTactic
import Derived.BigQuiet
import Derived.Handy
import Derived.Lib.Hide
import Derived.Test.YtnhkpnohadbcdaaDoorFilLawA
namespace Go.Proofs.YtnhkpnohadbcdaaDoor
open Go.RowKit
set_option linter.unusedSimpArgs false
set_option maxHeartbeats 2000000 in
set_option maxRecDepth 100000 in
theorem filterTexts_no (w : World) (a : Nat) (ha : a < 4294967296) (n lo hi : Int) (s : ByteArray) (hl : s.size ≤ 500) (ht : DigTab w) (hr : rgRight a n lo hi = false) :
    Calls Tryd.prog 9 #[.agg #[.int .u32 a, .int .i64 n, .int .i64 lo, .int .i64 hi], .string s] w fun en w' => en = .returned (.bool true) ∧ Below w.heap.size w w' := by
  have e1 : decide (500 < (s.size : Int)) = false := decide_eq_false (by omega)
  have hX := Blk.new w 47 #[.int .u32 a, .int .i64 n, .int .i64 lo, .int .i64 hi]
  have b0 := (Below.refl w.heap.size w).alloc (Nat.le_refl _) (.cells #[.int .u32 a, .int .i64 n, .int .i64 lo, .int .i64 hi] 47)
  have HP := Lib.hid (show RgAns (⟨#[]⟩ : ByteArray).data.toList 0 0 0 0 false from .inr ⟨rfl, rfl, rfl, rfl, rfl, fun b m x y _ _ h => by simp [rgT] at h⟩)
  go_enter Tryd.func9, Tryd.ntmps9
  have c_hX0 := hX.cell 0
  have c_hX1 := hX.cell 1
  have c_hX2 := hX.cell 2
  have c_hX3 := hX.cell 3
  go_wp2_with fail
  refine (filterText_no a ha n lo hi _ hr).mono ?_
  rintro _ w1 ⟨rfl, b1⟩
  clear c_hX0 c_hX1 c_hX2 c_hX3
  have b01 := btr b0 b1 b0.size
  have hX_1 := hX.below b1 hX.lt
  have c_hX0 := hX_1.cell 0
  have c_hX1 := hX_1.cell 1
  have c_hX2 := hX_1.cell 2
  have c_hX3 := hX_1.cell 3
  go_wp2_with fail
  refine (filterParse ⟨#[]⟩ _ (ht.call b01) (by show 0 ≤ 2000; omega)).mono ?_
  rintro _ w2 ⟨ra, rn, rl, rh, ok, rfl, hra, hA, b2⟩
  clear c_hX0 c_hX1 c_hX2 c_hX3
  have b02 := btr b01 b2 b01.size
  have hX_2 := hX_1.below b2 hX_1.lt
  clear hX_1
  have c_hX0 := hX_2.cell 0
  have c_hX1 := hX_2.cell 1
  have c_hX2 := hX_2.cell 2
  have c_hX3 := hX_2.cell 3
  obtain ⟨e2, e3, e4, e5, rfl⟩ := hA.one HP.out
  subst e2 e3 e4 e5
  clear hA hra
  have b2x := b02.alloc b02.size (.cells #[.int .u32 0, .int .i64 0, .int .i64 0, .int .i64 0] 47)
  have hX2 := hX_2.alloc (.cells #[.int .u32 0, .int .i64 0, .int .i64 0, .int .i64 0] 47)
  have hY := Blk.new w2 47 #[.int .u32 0, .int .i64 0, .int .i64 0, .int .i64 0]
  obtain ⟨W3, hW3⟩ : ∃ W, w2.alloc (.cells #[.int .u32 0, .int .i64 0, .int .i64 0, .int .i64 0] 47) = W := ⟨_, rfl⟩
  rw [hW3] at b2x hX2 hY
  have HW3 := Lib.hid hW3
  clear hW3
  go_wp2_with fail
  rw [HW3.out]
  refine (filterParse s _ (ht.call b2x) (by omega)).mono ?_
  rintro _ w4 ⟨pa, pn, pl, ph, is, rfl, hpa, hA, b4⟩
  clear c_hX0 c_hX1 c_hX2 c_hX3
  have b04 := btr b2x b4 b2x.size
  have hX_4 := hX2.below b4 hX2.lt
  have hY_4 := hY.below b4 hY.lt
  have c_hX0 := hX_4.cell 0
  have c_hX1 := hX_4.cell 1
  have c_hX2 := hX_4.cell 2
  have c_hX3 := hX_4.cell 3
  have b4x := b04.alloc b04.size (.cells #[.int .u32 pa, .int .i64 pn, .int .i64 pl, .int .i64 ph] 47)
  have hX4 := hX_4.alloc (.cells #[.int .u32 pa, .int .i64 pn, .int .i64 pl, .int .i64 ph] 47)
  have hY4 := hY_4.alloc (.cells #[.int .u32 pa, .int .i64 pn, .int .i64 pl, .int .i64 ph] 47)
  have hU := Blk.new w4 47 #[.int .u32 pa, .int .i64 pn, .int .i64 pl, .int .i64 ph]
  obtain ⟨W5, hW5⟩ : ∃ W, w4.alloc (.cells #[.int .u32 pa, .int .i64 pn, .int .i64 pl, .int .i64 ph] 47) = W := ⟨_, rfl⟩
  rw [hW5] at b4x hX4 hY4 hU
  have HW5 := Lib.hid hW5
  clear hW5
  go_wp2_with fail
  rw [HW5.out]
  refine (ref12Parse s _ (by omega)).mono ?_
  rintro _ w6 ⟨qa, qn, ql, qh, was, rfl, hqa, hB, b6⟩
  obtain ⟨e2, e3, e4, e5, rfl⟩ := hA.one hB
  subst e2 e3 e4 e5
  clear hA hB hpa hqa
  clear c_hX0 c_hX1 c_hX2 c_hX3
  have b06 := btr b4x b6 b4x.size
  have hX_6 := hX4.below b6 hX4.lt
  have hY_6 := hY4.below b6 hY4.lt
  have hU_6 := hU.below b6 hU.lt
  have c_hX0 := hX_6.cell 0
  have c_hX1 := hX_6.cell 1
  have c_hX2 := hX_6.cell 2
  have c_hX3 := hX_6.cell 3
  have b6x := b06.alloc b06.size (.cells #[.int .u32 pa, .int .i64 pn, .int .i64 pl, .int .i64 ph] 47)
  have hX6 := hX_6.alloc (.cells #[.int .u32 pa, .int .i64 pn, .int .i64 pl, .int .i64 ph] 47)
  have hY6 := hY_6.alloc (.cells #[.int .u32 pa, .int .i64 pn, .int .i64 pl, .int .i64 ph] 47)
  have hU6 := hU_6.alloc (.cells #[.int .u32 pa, .int .i64 pn, .int .i64 pl, .int .i64 ph] 47)
  have hV := Blk.new w6 47 #[.int .u32 pa, .int .i64 pn, .int .i64 pl, .int .i64 ph]
  clear c_hX0 c_hX1 c_hX2 c_hX3
  have c_hX0 := hX6.cell 0
  have c_hX1 := hX6.cell 1
  have c_hX2 := hX6.cell 2
  have c_hX3 := hX6.cell 3
  have c_hY0 := hY6.cell 0
  have c_hY1 := hY6.cell 1
  have c_hY2 := hY6.cell 2
  have c_hY3 := hY6.cell 3
  have c_hU0 := hU6.cell 0
  have c_hU1 := hU6.cell 1
  have c_hU2 := hU6.cell 2
  have c_hU3 := hU6.cell 3
  have c_hV0 := hV.cell 0
  have c_hV1 := hV.cell 1
  have c_hV2 := hV.cell 2
  have c_hV3 := hV.cell 3
  go_wp2_with fail
  refine (ref12Text_no a ha n lo hi _ hr).mono ?_
  rintro _ w8 ⟨rfl, b8⟩
  clear c_hX0 c_hX1 c_hX2 c_hX3 c_hY0 c_hY1 c_hY2 c_hY3 c_hU0 c_hU1 c_hU2 c_hU3 c_hV0 c_hV1 c_hV2 c_hV3
  have b08 := btr b6x b8 b6x.size
  have hX_8 := hX6.below b8 hX6.lt
  have hY_8 := hY6.below b8 hY6.lt
  have hU_8 := hU6.below b8 hU6.lt
  have hV_8 := hV.below b8 hV.lt
  have c_hX0 := hX_8.cell 0
  have c_hX1 := hX_8.cell 1
  have c_hX2 := hX_8.cell 2
  have c_hX3 := hX_8.cell 3
  have c_hY0 := hY_8.cell 0
  have c_hY1 := hY_8.cell 1
  have c_hY2 := hY_8.cell 2
  have c_hY3 := hY_8.cell 3
  have c_hU0 := hU_8.cell 0
  have c_hU1 := hU_8.cell 1
  have c_hU2 := hU_8.cell 2
  have c_hU3 := hU_8.cell 3
  have c_hV0 := hV_8.cell 0
  have c_hV1 := hV_8.cell 1
  have c_hV2 := hV_8.cell 2
  have c_hV3 := hV_8.cell 3
  go_wp2_with fail
  refine ((by have h := ref12Right a ha n lo hi w8; rw [hr] at h; exact h : Calls Tryd.prog 52 _ w8 fun en w' => en = .returned (.bool false) ∧ Below w8.heap.size w8 w')).mono ?_
  rintro _ w9 ⟨rfl, b9⟩
  clear c_hX0 c_hX1 c_hX2 c_hX3 c_hY0 c_hY1 c_hY2 c_hY3 c_hU0 c_hU1 c_hU2 c_hU3 c_hV0 c_hV1 c_hV2 c_hV3
  have b09 := btr b08 b9 b08.size
  have hX_9 := hX_8.below b9 hX_8.lt
  clear hX_8
  have hY_9 := hY_8.below b9 hY_8.lt
  clear hY_8
  have hU_9 := hU_8.below b9 hU_8.lt
  clear hU_8
  have hV_9 := hV_8.below b9 hV_8.lt
  clear hV_8
  have c_hX0 := hX_9.cell 0
  have c_hX1 := hX_9.cell 1
  have c_hX2 := hX_9.cell 2
  have c_hX3 := hX_9.cell 3
  have c_hY0 := hY_9.cell 0
  have c_hY1 := hY_9.cell 1
  have c_hY2 := hY_9.cell 2
  have c_hY3 := hY_9.cell 3
  have c_hU0 := hU_9.cell 0
  have c_hU1 := hU_9.cell 1
  have c_hU2 := hU_9.cell 2
  have c_hU3 := hU_9.cell 3
  have c_hV0 := hV_9.cell 0
  have c_hV1 := hV_9.cell 1
  have c_hV2 := hV_9.cell 2
  have c_hV3 := hV_9.cell 3
  go_wp2_with fail
  refine (awake12 _ (ht.call b09)).mono ?_
  rintro _ w10 ⟨rfl, b10⟩
  clear c_hX0 c_hX1 c_hX2 c_hX3 c_hY0 c_hY1 c_hY2 c_hY3 c_hU0 c_hU1 c_hU2 c_hU3 c_hV0 c_hV1 c_hV2 c_hV3
  have b010 := btr b09 b10 b09.size
  have hX_10 := hX_9.below b10 hX_9.lt
  clear hX_9
  have hY_10 := hY_9.below b10 hY_9.lt
  clear hY_9
  have hU_10 := hU_9.below b10 hU_9.lt
  clear hU_9
  have hV_10 := hV_9.below b10 hV_9.lt
  clear hV_9
  have c_hX0 := hX_10.cell 0
  have c_hX1 := hX_10.cell 1
  have c_hX2 := hX_10.cell 2
  have c_hX3 := hX_10.cell 3
  have c_hY0 := hY_10.cell 0
  have c_hY1 := hY_10.cell 1
  have c_hY2 := hY_10.cell 2
  have c_hY3 := hY_10.cell 3
  have c_hU0 := hU_10.cell 0
  have c_hU1 := hU_10.cell 1
  have c_hU2 := hU_10.cell 2
  have c_hU3 := hU_10.cell 3
  have c_hV0 := hV_10.cell 0
  have c_hV1 := hV_10.cell 1
  have c_hV2 := hV_10.cell 2
  have c_hV3 := hV_10.cell 3
  go_wp2_with fail
  go_ret
  exact ⟨rfl, b010⟩
set_option maxHeartbeats 2000000 in
set_option maxRecDepth 100000 in
theorem filterTexts_yes (w : World) (a : Nat) (ha : a < 4294967296) (k lo hi : Nat) (s : ByteArray) (hl : s.size ≤ 500) (ht : DigTab w) (hr : rgRight a k lo hi = true) :
    Calls Tryd.prog 9 #[.agg #[.int .u32 a, .int .i64 k, .int .i64 lo, .int .i64 hi], .string s] w fun en w' => en = .returned (.bool true) ∧ Below w.heap.size w w' := by
  have e1 : decide (500 < (s.size : Int)) = false := decide_eq_false (by omega)
  have hX := Blk.new w 47 #[.int .u32 a, .int .i64 k, .int .i64 lo, .int .i64 hi]
  have b0 := (Below.refl w.heap.size w).alloc (Nat.le_refl _) (.cells #[.int .u32 a, .int .i64 k, .int .i64 lo, .int .i64 hi] 47)
  have hxy : k ≤ 32 ∧ lo ≤ 32 ∧ hi ≤ 32 := by
    obtain ⟨_, _, _, _, _, _, _, _, _, _⟩ := rgRight_of hr
    omega
  obtain ⟨hk32, hlo32, hhi32⟩ := hxy
  obtain ⟨S, hS⟩ : ∃ S : ByteArray, S = ⟨(rgT a k lo hi).toArray⟩ := ⟨_, rfl⟩
  have zS : S.size ≤ 2000 := by rw [hS]; exact Nat.le_trans (rgT_len a k lo hi ha hk32 hlo32 hhi32) (by omega)
  have HP := Lib.hid (show RgAns S.data.toList a k lo hi true by rw [hS]; exact RgAns.text ha hr)
  have HE := text_refl S
  have HS := Lib.hid hS
  clear hS
  go_enter Tryd.func9, Tryd.ntmps9
  have c_hX0 := hX.cell 0
  have c_hX1 := hX.cell 1
  have c_hX2 := hX.cell 2
  have c_hX3 := hX.cell 3
  go_wp2_with fail
  refine (filterText_yes a ha k lo hi hk32 hlo32 hhi32 S _ (ht.call b0) hr HS).mono ?_
  rintro _ w1 ⟨rfl, b1⟩
  clear c_hX0 c_hX1 c_hX2 c_hX3
  have b01 := btr b0 b1 b0.size
  have hX_1 := hX.below b1 hX.lt
  have c_hX0 := hX_1.cell 0
  have c_hX1 := hX_1.cell 1
  have c_hX2 := hX_1.cell 2
  have c_hX3 := hX_1.cell 3
  go_wp2_with fail
  refine (filterParse S _ (ht.call b01) zS).mono ?_
  rintro _ w2 ⟨ra, rn, rl, rh, ok, rfl, hra, hA, b2⟩
  clear c_hX0 c_hX1 c_hX2 c_hX3
  have b02 := btr b01 b2 b01.size
  have hX_2 := hX_1.below b2 hX_1.lt
  clear hX_1
  have c_hX0 := hX_2.cell 0
  have c_hX1 := hX_2.cell 1
  have c_hX2 := hX_2.cell 2
  have c_hX3 := hX_2.cell 3
  obtain ⟨e2, e3, e4, e5, rfl⟩ := hA.one HP.out
  subst ra rn rl rh
  clear hA hra
  have b2x := b02.alloc b02.size (.cells #[.int .u32 a, .int .i64 k, .int .i64 lo, .int .i64 hi] 47)
  have hX2 := hX_2.alloc (.cells #[.int .u32 a, .int .i64 k, .int .i64 lo, .int .i64 hi] 47)
  have hY := Blk.new w2 47 #[.int .u32 a, .int .i64 k, .int .i64 lo, .int .i64 hi]
  obtain ⟨W3, hW3⟩ : ∃ W, w2.alloc (.cells #[.int .u32 a, .int .i64 k, .int .i64 lo, .int .i64 hi] 47) = W := ⟨_, rfl⟩
  rw [hW3] at b2x hX2 hY
  have HW3 := Lib.hid hW3
  clear hW3
  go_wp2_with fail
  rw [HW3.out]
  refine (filterParse s _ (ht.call b2x) (by omega)).mono ?_
  rintro _ w4 ⟨pa, pn, pl, ph, is, rfl, hpa, hA, b4⟩
  clear c_hX0 c_hX1 c_hX2 c_hX3
  have b04 := btr b2x b4 b2x.size
  have hX_4 := hX2.below b4 hX2.lt
  have hY_4 := hY.below b4 hY.lt
  have c_hX0 := hX_4.cell 0
  have c_hX1 := hX_4.cell 1
  have c_hX2 := hX_4.cell 2
  have c_hX3 := hX_4.cell 3
  have b4x := b04.alloc b04.size (.cells #[.int .u32 pa, .int .i64 pn, .int .i64 pl, .int .i64 ph] 47)
  have hX4 := hX_4.alloc (.cells #[.int .u32 pa, .int .i64 pn, .int .i64 pl, .int .i64 ph] 47)
  have hY4 := hY_4.alloc (.cells #[.int .u32 pa, .int .i64 pn, .int .i64 pl, .int .i64 ph] 47)
  have hU := Blk.new w4 47 #[.int .u32 pa, .int .i64 pn, .int .i64 pl, .int .i64 ph]
  obtain ⟨W5, hW5⟩ : ∃ W, w4.alloc (.cells #[.int .u32 pa, .int .i64 pn, .int .i64 pl, .int .i64 ph] 47) = W := ⟨_, rfl⟩
  rw [hW5] at b4x hX4 hY4 hU
  have HW5 := Lib.hid hW5
  clear hW5
  go_wp2_with fail
  rw [HW5.out]
  refine (ref12Parse s _ (by omega)).mono ?_
  rintro _ w6 ⟨qa, qn, ql, qh, was, rfl, hqa, hB, b6⟩
  obtain ⟨e2, e3, e4, e5, rfl⟩ := hA.one hB
  subst e2 e3 e4 e5
  clear hA hB hpa hqa
  clear c_hX0 c_hX1 c_hX2 c_hX3
  have b06 := btr b4x b6 b4x.size
  have hX_6 := hX4.below b6 hX4.lt
  have hY_6 := hY4.below b6 hY4.lt
  have hU_6 := hU.below b6 hU.lt
  have c_hX0 := hX_6.cell 0
  have c_hX1 := hX_6.cell 1
  have c_hX2 := hX_6.cell 2
  have c_hX3 := hX_6.cell 3
  have b6x := b06.alloc b06.size (.cells #[.int .u32 pa, .int .i64 pn, .int .i64 pl, .int .i64 ph] 47)
  have hX6 := hX_6.alloc (.cells #[.int .u32 pa, .int .i64 pn, .int .i64 pl, .int .i64 ph] 47)
  have hY6 := hY_6.alloc (.cells #[.int .u32 pa, .int .i64 pn, .int .i64 pl, .int .i64 ph] 47)
  have hU6 := hU_6.alloc (.cells #[.int .u32 pa, .int .i64 pn, .int .i64 pl, .int .i64 ph] 47)
  have hV := Blk.new w6 47 #[.int .u32 pa, .int .i64 pn, .int .i64 pl, .int .i64 ph]
  clear c_hX0 c_hX1 c_hX2 c_hX3
  have c_hX0 := hX6.cell 0
  have c_hX1 := hX6.cell 1
  have c_hX2 := hX6.cell 2
  have c_hX3 := hX6.cell 3
  have c_hY0 := hY6.cell 0
  have c_hY1 := hY6.cell 1
  have c_hY2 := hY6.cell 2
  have c_hY3 := hY6.cell 3
  have c_hU0 := hU6.cell 0
  have c_hU1 := hU6.cell 1
  have c_hU2 := hU6.cell 2
  have c_hU3 := hU6.cell 3
  have c_hV0 := hV.cell 0
  have c_hV1 := hV.cell 1
  have c_hV2 := hV.cell 2
  have c_hV3 := hV.cell 3
  go_wp2_with fail
  refine (ref12Text_yes a ha k lo hi hk32 hlo32 hhi32 S _ hr HS).mono ?_
  rintro _ w8 ⟨rfl, b8⟩
  clear c_hX0 c_hX1 c_hX2 c_hX3 c_hY0 c_hY1 c_hY2 c_hY3 c_hU0 c_hU1 c_hU2 c_hU3 c_hV0 c_hV1 c_hV2 c_hV3
  have b08 := btr b6x b8 b6x.size
  have hX_8 := hX6.below b8 hX6.lt
  have hY_8 := hY6.below b8 hY6.lt
  have hU_8 := hU6.below b8 hU6.lt
  have hV_8 := hV.below b8 hV.lt
  have c_hX0 := hX_8.cell 0
  have c_hX1 := hX_8.cell 1
  have c_hX2 := hX_8.cell 2
  have c_hX3 := hX_8.cell 3
  have c_hY0 := hY_8.cell 0
  have c_hY1 := hY_8.cell 1
  have c_hY2 := hY_8.cell 2
  have c_hY3 := hY_8.cell 3
  have c_hU0 := hU_8.cell 0
  have c_hU1 := hU_8.cell 1
  have c_hU2 := hU_8.cell 2
  have c_hU3 := hU_8.cell 3
  have c_hV0 := hV_8.cell 0
  have c_hV1 := hV_8.cell 1
  have c_hV2 := hV_8.cell 2
  have c_hV3 := hV_8.cell 3
  go_wp2_with fail
  refine ((by have h := ref12Right a ha k lo hi w8; rw [hr] at h; exact h : Calls Tryd.prog 52 _ w8 fun en w' => en = .returned (.bool true) ∧ Below w8.heap.size w8 w')).mono ?_
  rintro _ w9 ⟨rfl, b9⟩
  clear c_hX0 c_hX1 c_hX2 c_hX3 c_hY0 c_hY1 c_hY2 c_hY3 c_hU0 c_hU1 c_hU2 c_hU3 c_hV0 c_hV1 c_hV2 c_hV3
  have b09 := btr b08 b9 b08.size
  have hX_9 := hX_8.below b9 hX_8.lt
  clear hX_8
  have hY_9 := hY_8.below b9 hY_8.lt
  clear hY_8
  have hU_9 := hU_8.below b9 hU_8.lt
  clear hU_8
  have hV_9 := hV_8.below b9 hV_8.lt
  clear hV_8
  have c_hX0 := hX_9.cell 0
  have c_hX1 := hX_9.cell 1
  have c_hX2 := hX_9.cell 2
  have c_hX3 := hX_9.cell 3
  have c_hY0 := hY_9.cell 0
  have c_hY1 := hY_9.cell 1
  have c_hY2 := hY_9.cell 2
  have c_hY3 := hY_9.cell 3
  have c_hU0 := hU_9.cell 0
  have c_hU1 := hU_9.cell 1
  have c_hU2 := hU_9.cell 2
  have c_hU3 := hU_9.cell 3
  have c_hV0 := hV_9.cell 0
  have c_hV1 := hV_9.cell 1
  have c_hV2 := hV_9.cell 2
  have c_hV3 := hV_9.cell 3
  go_wp2_with fail
  refine (awake12 _ (ht.call b09)).mono ?_
  rintro _ w10 ⟨rfl, b10⟩
  clear c_hX0 c_hX1 c_hX2 c_hX3 c_hY0 c_hY1 c_hY2 c_hY3 c_hU0 c_hU1 c_hU2 c_hU3 c_hV0 c_hV1 c_hV2 c_hV3
  have b010 := btr b09 b10 b09.size
  have hX_10 := hX_9.below b10 hX_9.lt
  clear hX_9
  have hY_10 := hY_9.below b10 hY_9.lt
  clear hY_9
  have hU_10 := hU_9.below b10 hU_9.lt
  clear hU_9
  have hV_10 := hV_9.below b10 hV_9.lt
  clear hV_9
  have c_hX0 := hX_10.cell 0
  have c_hX1 := hX_10.cell 1
  have c_hX2 := hX_10.cell 2
  have c_hX3 := hX_10.cell 3
  have c_hY0 := hY_10.cell 0
  have c_hY1 := hY_10.cell 1
  have c_hY2 := hY_10.cell 2
  have c_hY3 := hY_10.cell 3
  have c_hU0 := hU_10.cell 0
  have c_hU1 := hU_10.cell 1
  have c_hU2 := hU_10.cell 2
  have c_hU3 := hU_10.cell 3
  have c_hV0 := hV_10.cell 0
  have c_hV1 := hV_10.cell 1
  have c_hV2 := hV_10.cell 2
  have c_hV3 := hV_10.cell 3
  go_wp2_with fail
  go_ret
  exact ⟨rfl, b010⟩
set_option maxHeartbeats 1000000 in
set_option maxRecDepth 100000 in
theorem lawFilterTexts (w : World) (a : Nat) (n lo hi : Int) (ha : a < 4294967296) (s : ByteArray) (_ : s.size ≤ 9223372036854775807) (ht : DigTab w) :
    Calls Tryd.prog 9 #[.agg #[.int .u32 a, .int .i64 n, .int .i64 lo, .int .i64 hi], .string s] w fun en w' => en = .returned (.bool true) ∧ Below w.heap.size w w' := by
  by_cases hl : 500 < s.size
  · have e1 : decide (500 < (s.size : Int)) = true := decide_eq_true (by omega)
    have b0 := (Below.refl w.heap.size w).alloc (Nat.le_refl _) (.cells #[.int .u32 a, .int .i64 n, .int .i64 lo, .int .i64 hi] 47)
    go_enter Tryd.func9, Tryd.ntmps9
    go_wp2_with fail
    refine (awake12 _ (ht.call b0)).mono ?_
    rintro _ w1 ⟨rfl, b1⟩
    have b01 := btr b0 b1 b0.size
    go_wp2_with fail
    go_ret
    exact ⟨rfl, b01⟩
  · cases hr : rgRight a n lo hi
    · exact filterTexts_no w a ha n lo hi s (by omega) ht hr
    · obtain ⟨k, x, y, rfl, rfl, rfl, _, _, _, _⟩ := rgRight_of hr
      exact filterTexts_yes w a ha k x y s (by omega) ht hr
end Go.Proofs.YtnhkpnohadbcdaaDoor
