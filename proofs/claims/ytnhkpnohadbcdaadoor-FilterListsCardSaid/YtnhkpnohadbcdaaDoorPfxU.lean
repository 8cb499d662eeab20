/- Walk of the document's layer 2 (prefix): Common. No conditions. -/
import Derived.Test.YtnhkpnohadbcdaaDoorProg
import Derived.WalkKit
import Derived.WalkSpells
import Derived.WalkLawsBesides
import Derived.Outline
import Derived.Deep.QuietTactic
import Derived.BigQuiet
import Derived.Handy
import Derived.Lib.Hide
import Derived.Test.YtnhkpnohadbcdaaDoorPfxT
namespace Go.Proofs.YtnhkpnohadbcdaaDoor
open Go.RowKit
set_option maxHeartbeats 1000000 in
set_option maxRecDepth 100000 in
theorem ref02Common_no (a : Nat) (ha : a < 4294967296) (n : Int) (b : Nat) (hb : b < 4294967296) (m : Int) (w : World) (h : ¬ (pRight a n = true ∧ pRight b m = true)) :
    Calls Tryd.prog 42 #[.agg #[.int .u32 a, .int .i64 n], .agg #[.int .u32 b, .int .i64 m]] w fun en w' => en = .returned (.agg #[.int .u32 0, .int .i64 0]) ∧ Below w.heap.size w w' := by
  go_enter Tryd.func42, Tryd.ntmps42
  go_wp2_with fail
  obtain ⟨V, hV, hP0, hQ0, hR0, bV⟩ := box3 w (.int .u32 a) (.int .i64 n) (.int .u32 b) (.int .i64 m) (.int .u32 0) (.int .i64 0)
  have hsV : V.heap.size = w.heap.size + 1 + 1 + 1 := by rw [← hV]; simp
  have hO := Blk.new V 24 #[.int .u32 0, .int .i64 0]
  rw [hsV] at hO
  have hP := hP0.alloc (.cells #[.int .u32 0, .int .i64 0] 24)
  have hQ := hQ0.alloc (.cells #[.int .u32 0, .int .i64 0] 24)
  have hR := hR0.alloc (.cells #[.int .u32 0, .int .i64 0] 24)
  have b0 := bV.alloc bV.size (.cells #[.int .u32 0, .int .i64 0] 24)
  rw [hV]
  obtain ⟨W, hW⟩ : ∃ W, V.alloc (.cells #[.int .u32 0, .int .i64 0] 24) = W := ⟨_, rfl⟩
  rw [hW] at hP hQ hR hO b0
  rw [hW]
  clear hW hV hsV hP0 hQ0 hR0 bV
  refine (refRight a ha n _).mono ?_
  rintro _ w1 ⟨rfl, b1⟩
  have b01 := btr b0 b1 b0.size
  have hP1 := hP.below b1 hP.lt
  have hQ1 := hQ.below b1 hQ.lt
  have hR1 := hR.below b1 hR.lt
  have hO1 := hO.below b1 hO.lt
  have d0 := hQ1.cell 0
  have d1 := hQ1.cell 1
  have o0 := hO1.cell 0
  have o1 := hO1.cell 1
  have f0 := hR1.frozen 0
  have f1 := hR1.frozen 1
  have g0 := hR1.cell 0
  have g1 := hR1.cell 1
  cases hr : pRight a n
  · go_wp2_with fail
    have hBf := (hR1.set_ 0 (.int .u32 0)).set_ 1 (.int .i64 0)
    refine bodyPost_ret (pfx_ret rfl _ _ (w.heap.size + 1 + 1) (.int .u32 0) (.int .i64 0) rfl (by simpa using hBf)) rfl ?_
    refine ⟨rfl, (b01.setCell (by show w.heap.size ≤ w.heap.size + 1 + 1; omega) _).setCell (by show w.heap.size ≤ w.heap.size + 1 + 1; omega) _⟩
  · have hr2 : pRight b m = false := by cases h2 : pRight b m; rfl; exact absurd ⟨hr, h2⟩ h
    go_wp2_with fail
    refine (refRight b hb m _).mono ?_
    rw [hr2]
    rintro _ w2 ⟨rfl, b2⟩
    have b02 := btr b01 b2 b01.size
    have hP2 := hP1.below b2 hP1.lt
    have hQ2 := hQ1.below b2 hQ1.lt
    have hR2 := hR1.below b2 hR1.lt
    have hO2 := hO1.below b2 hO1.lt
    clear d0 d1 o0 o1 f0 f1 g0 g1
    have o0 := hO2.cell 0
    have o1 := hO2.cell 1
    have f0 := hR2.frozen 0
    have f1 := hR2.frozen 1
    have g0 := hR2.cell 0
    have g1 := hR2.cell 1
    go_wp2_with fail
    have hBf := (hR2.set_ 0 (.int .u32 0)).set_ 1 (.int .i64 0)
    refine bodyPost_ret (pfx_ret rfl _ _ (w.heap.size + 1 + 1) (.int .u32 0) (.int .i64 0) rfl (by simpa using hBf)) rfl ?_
    refine ⟨rfl, (b02.setCell (by show w.heap.size ≤ w.heap.size + 1 + 1; omega) _).setCell (by show w.heap.size ≤ w.heap.size + 1 + 1; omega) _⟩
theorem cstep_hit {a b i K : Nat} (hi : i ≤ K) (h : normN a (i : Int) = normN b (i : Int)) : comN a b (min i K) = i := by
  rw [Nat.min_eq_left hi]
  cases i with
  | zero => rfl
  | succ i => exact comN_hit h
theorem cstep_no {a b i K : Nat} (ha : a < 4294967296) (hb : b < 4294967296) (h : ¬ (i ≤ K ∧ normN a (i : Int) = normN b (i : Int))) : comN a b (min i K) = comN a b (min (i - 1) K) := by
  by_cases hi : i ≤ K
  · have h2 : ¬ normN a (i : Int) = normN b (i : Int) := fun hh => h ⟨hi, hh⟩
    rw [Nat.min_eq_left hi, Nat.min_eq_left (by omega)]
    cases i with
    | zero => exact absurd (by rw [show ((0 : Nat) : Int) = 0 from rfl, normN_zero a ha, normN_zero b hb]) h2
    | succ i => exact comN_step h2
  · rw [Nat.min_eq_right (by omega), Nat.min_eq_right (by omega)]
set_option maxHeartbeats 4000000 in
set_option maxRecDepth 100000 in
theorem ref02Common_yes (a : Nat) (ha : a < 4294967296) (n : Nat) (b : Nat) (hb : b < 4294967296) (m : Nat) (hn : n ≤ 32) (hm : m ≤ 32) (w : World) (h1 : pRight a (n : Int) = true) (h2 : pRight b (m : Int) = true) :
    Calls Tryd.prog 42 #[.agg #[.int .u32 a, .int .i64 n], .agg #[.int .u32 b, .int .i64 m]] w fun en w' => en = .returned (.agg #[.int .u32 (normN a (comN a b (min n m) : Nat)), .int .i64 (comN a b (min n m) : Nat)]) ∧ Below w.heap.size w w' := by
  obtain ⟨K, hK⟩ : ∃ K, min n m = K := ⟨_, rfl⟩
  rw [hK]
  have HK := Lib.hid hK
  have hK32 : K ≤ 32 := by omega
  clear hK
  have H1 := Lib.hid h1
  have H2 := Lib.hid h2
  go_enter Tryd.func42, Tryd.ntmps42
  go_wp2_with fail
  obtain ⟨V, hV, hP0, hQ0, hR0, bV⟩ := box3 w (.int .u32 a) (.int .i64 n) (.int .u32 b) (.int .i64 m) (.int .u32 0) (.int .i64 0)
  have hsV : V.heap.size = w.heap.size + 1 + 1 + 1 := by rw [← hV]; simp
  have hO := Blk.new V 24 #[.int .u32 0, .int .i64 0]
  rw [hsV] at hO
  have hP := hP0.alloc (.cells #[.int .u32 0, .int .i64 0] 24)
  have hQ := hQ0.alloc (.cells #[.int .u32 0, .int .i64 0] 24)
  have hR := hR0.alloc (.cells #[.int .u32 0, .int .i64 0] 24)
  have b0 := bV.alloc bV.size (.cells #[.int .u32 0, .int .i64 0] 24)
  rw [hV]
  obtain ⟨W, hW⟩ : ∃ W, V.alloc (.cells #[.int .u32 0, .int .i64 0] 24) = W := ⟨_, rfl⟩
  rw [hW] at hP hQ hR hO b0
  rw [hW]
  clear hW hV hsV hP0 hQ0 hR0 bV
  refine (refRight a ha n _).mono ?_
  rw [h1]
  rintro _ w1 ⟨rfl, b1⟩
  have b01 := btr b0 b1 b0.size
  have hP1 := hP.below b1 hP.lt
  have hQ1 := hQ.below b1 hQ.lt
  have hR1 := hR.below b1 hR.lt
  have hO1 := hO.below b1 hO.lt
  have d0 := hQ1.cell 0
  have d1 := hQ1.cell 1
  go_wp2_with fail
  refine (refRight b hb m _).mono ?_
  rw [h2]
  rintro _ w2 ⟨rfl, b2⟩
  have b02 := btr b01 b2 b01.size
  have hP2 := hP1.below b2 hP1.lt
  have hQ2 := hQ1.below b2 hQ1.lt
  have hR2 := hR1.below b2 hR1.lt
  have hO2 := hO1.below b2 hO1.lt
  clear d0 d1 h1 h2
  have HZ := Lib.hid (show normN a ((0 : Nat) : Int) = 0 from normN_zero a ha)
  go_wp2_with fail
  go_loopw [6] (fun x wr => ∃ (i c N : Nat), x = .int .i64 i ∧ i ≤ 33 ∧ Blk wr w.heap.size 24 #[.int .u32 a, .int .i64 n] ∧ Blk wr (w.heap.size + 1) 24 #[.int .u32 b, .int .i64 m] ∧ Blk wr (w.heap.size + 1 + 1) 24 #[.int .u32 0, .int .i64 0] ∧ Blk wr (w.heap.size + 1 + 1 + 1) 24 #[.int .u32 N, .int .i64 c] ∧ Below w.heap.size w wr ∧ Hid (c = comN a b (min (i - 1) K) ∧ N = normN a (c : Int))) (fun x _ => 33 - (intOf x).toNat)
  case atStart => exact ⟨0, 0, 0, rfl, by omega, hP2, hQ2, hR2, hO2, b02, Lib.hid ⟨by rw [show min (0 - 1) K = 0 by omega]; rfl, HZ.out.symm⟩⟩
  case round =>
    obtain ⟨i, c, N, rfl, hi, hPr, hQr, hRr, hOr, hbr, hI⟩ := hrel
    have c0 := hPr.cell 0
    have c1 := hPr.cell 1
    have d0 := hQr.cell 0
    have d1 := hQr.cell 1
    have o0 := hOr.cell 0
    have o1 := hOr.cell 1
    have of0 := hOr.frozen 0
    have of1 := hOr.frozen 1
    by_cases hi32 : i ≤ 32
    · have hii : (i : Int) ≤ 32 := by omega
      obtain ⟨X, hX⟩ : ∃ X, normN a (i : Int) = X := ⟨_, rfl⟩
      have hXl : X < 4294967296 := by rw [← hX]; exact Nat.lt_of_le_of_lt (normN_le a _) ha
      have HX := Lib.hid hX
      have HCL := Lib.hid (cl_nat hi32)
      have HC1 := Lib.hid (show pCovers X (i : Int) a (n : Int) = decide ((i : Int) ≤ n) by rw [← hX, covers_self a a i _ hi32 H1.out]; simp)
      have HC2 := Lib.hid (show pCovers X (i : Int) b (m : Int) = (decide ((i : Int) ≤ m) && decide (normN b (i : Int) = X)) by rw [← hX, covers_self a b i _ hi32 H2.out])
      clear hX
      go_wp2_with fail
      refine (refNorm a ha (i : Int) _).mono ?_
      rw [HX.out, HCL.out]
      rintro _ w3 ⟨rfl, b3⟩
      have hb3 := btr hbr b3 hbr.size
      have hP3 := hPr.below b3 hPr.lt
      have hQ3 := hQr.below b3 hQr.lt
      have hR3 := hRr.below b3 hRr.lt
      have hO3 := hOr.below b3 hOr.lt
      have hb4 := hb3.alloc hb3.size (.cells #[.int .u32 X, .int .i64 i] 24)
      have hX4 := Blk.new w3 24 #[.int .u32 X, .int .i64 i]
      have hP4 := hP3.alloc (.cells #[.int .u32 X, .int .i64 i] 24)
      have hQ4 := hQ3.alloc (.cells #[.int .u32 X, .int .i64 i] 24)
      have hR4 := hR3.alloc (.cells #[.int .u32 X, .int .i64 i] 24)
      have hO4 := hO3.alloc (.cells #[.int .u32 X, .int .i64 i] 24)
      have hxl := hX4.lt
      have hol := hO3.lt
      have hne : ¬ w3.heap.size = w.heap.size + 1 + 1 + 1 := by omega
      obtain ⟨W4, hW4⟩ : ∃ W4, w3.alloc (.cells #[.int .u32 X, .int .i64 i] 24) = W4 := ⟨_, rfl⟩
      rw [hW4] at hb4 hX4 hP4 hQ4 hR4 hO4 hxl
      clear c0 c1 d0 d1 o0 o1 of0 of1
      have c0 := hP4.cell 0
      have c1 := hP4.cell 1
      have q0 := hX4.cell 0
      have q1 := hX4.cell 1
      go_wp2_with fail
      try rw [hW4]
      clear hW4
      refine (ref02Covers X hXl (i : Int) a ha (n : Int) _).mono ?_
      rw [HC1.out]
      rintro _ w5 ⟨rfl, b5⟩
      have hb5 := btr hb4 b5 hb4.size
      have hP5 := hP4.below b5 hP4.lt
      have hQ5 := hQ4.below b5 hQ4.lt
      have hR5 := hR4.below b5 hR4.lt
      have hO5 := hO4.below b5 hO4.lt
      have hX5 := hX4.below b5 hxl
      clear c0 c1 q0 q1
      have q0 := hX5.cell 0
      have q1 := hX5.cell 1
      have d0 := hQ5.cell 0
      have d1 := hQ5.cell 1
      by_cases hin : (i : Int) ≤ n
      · rw [decide_eq_true hin]
        go_wp2_with fail
        refine (ref02Covers X hXl (i : Int) b hb (m : Int) _).mono ?_
        rw [HC2.out]
        rintro _ w6 ⟨rfl, b6⟩
        have hb6 := btr hb5 b6 hb5.size
        have hP6 := hP5.below b6 hP5.lt
        have hQ6 := hQ5.below b6 hQ5.lt
        have hR6 := hR5.below b6 hR5.lt
        have hO6 := hO5.below b6 hO5.lt
        have hX6 := hX5.below b6 hX5.lt
        clear q0 q1 d0 d1
        have q0 := hX6.cell 0
        have q1 := hX6.cell 1
        have of0 := hO6.frozen 0
        have of1 := hO6.frozen 1
        have o0 := hO6.cell 0
        have o1 := hO6.cell 1
        by_cases hag : (i : Int) ≤ m ∧ normN b (i : Int) = X
        · rw [decide_eq_true hag.1, decide_eq_true hag.2]
          have HN := Lib.hid (show i = comN a b (min (i + 1 - 1) K) ∧ X = normN a (i : Int) by
            refine ⟨?_, HX.out.symm⟩
            rw [Nat.add_sub_cancel]
            exact (cstep_hit (by rw [← HK.out]; omega) (by rw [HX.out, hag.2])).symm)
          clear hag
          go_wp2_with fail
          go_roundw
          case rel => exact ⟨i + 1, i, X, by go_num, by omega, (hP6.far (by dsimp only; omega) _).far (by dsimp only; omega) _, (hQ6.far (by dsimp only; omega) _).far (by dsimp only; omega) _, (hR6.far (by dsimp only; omega) _).far (by dsimp only; omega) _, by simpa using (hO6.set_ 0 (.int .u32 X)).set_ 1 (.int .i64 i), (hb6.setCell (by show w.heap.size ≤ w.heap.size + 1 + 1 + 1; omega) _).setCell (by show w.heap.size ≤ w.heap.size + 1 + 1 + 1; omega) _, HN⟩
          case measure => simp [intOf]; omega
        · have HN := Lib.hid (show c = comN a b (min (i + 1 - 1) K) ∧ N = normN a (c : Int) by
            refine ⟨?_, hI.out.2⟩
            rw [Nat.add_sub_cancel, cstep_no ha hb (fun hh => hag ⟨by have := HK.out; omega, by rw [← hh.2, HX.out]⟩)]
            exact hI.out.1)
          have hz : (decide ((i : Int) ≤ m) && decide (normN b (i : Int) = X)) = false := by
            rw [← Bool.not_eq_true, Bool.and_eq_true, decide_eq_true_iff, decide_eq_true_iff]
            exact hag
          rw [hz]
          clear hag hz
          go_wp2_with fail
          go_roundw
          case rel => exact ⟨i + 1, c, N, by go_num, by omega, hP6, hQ6, hR6, hO6, hb6, HN⟩
          case measure => simp [intOf]; omega
      · rw [decide_eq_false hin]
        have HN := Lib.hid (show c = comN a b (min (i + 1 - 1) K) ∧ N = normN a (c : Int) by
          refine ⟨?_, hI.out.2⟩
          rw [Nat.add_sub_cancel, cstep_no ha hb (fun hh => hin (by have := HK.out; omega))]
          exact hI.out.1)
        go_wp2_with fail
        go_roundw
        case rel => exact ⟨i + 1, c, N, by go_num, by omega, hP5, hQ5, hR5, hO5, hb5, HN⟩
        case measure => simp [intOf]; omega
    · have hi33 : i = 33 := by omega
      have HF := Lib.hid (show N = normN a (comN a b K : Nat) ∧ c = comN a b K by
        have h3 := hI.out.1
        rw [hi33, show min (33 - 1) K = K by omega] at h3
        exact ⟨by rw [hI.out.2, h3], h3⟩)
      have f0 := hRr.frozen 0
      have f1 := hRr.frozen 1
      have g0 := hRr.cell 0
      have g1 := hRr.cell 1
      go_wp2_with fail
      have hBf := (hRr.set_ 0 (.int .u32 N)).set_ 1 (.int .i64 c)
      refine bodyPost_ret (pfx_ret rfl _ _ (w.heap.size + 1 + 1) (.int .u32 N) (.int .i64 c) rfl (by simpa using hBf)) rfl ?_
      refine ⟨by rw [← HF.out.1, ← HF.out.2], (hbr.setCell (by show w.heap.size ≤ w.heap.size + 1 + 1; omega) _).setCell (by show w.heap.size ≤ w.heap.size + 1 + 1; omega) _⟩
end Go.Proofs.YtnhkpnohadbcdaaDoor
