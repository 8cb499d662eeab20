/- Walks of the document's layer 2 (prefix): Mask, Bit, Norm, Right, Holds, Covers, Compare. No conditions. -/
import Derived.Test.YtnhkpnohadbcdaaDoorProg
import Derived.WalkKit
import Derived.WalkSpells
import Derived.WalkLawsBesides
import Derived.Outline
import Derived.Deep.QuietTactic
import Derived.BigQuiet
import Derived.Handy
import Derived.Lib.Hide
import Derived.Test.YtnhkpnohadbcdaaDoorPfxB
namespace Go.Proofs.YtnhkpnohadbcdaaDoor
open Go.RowKit
theorem lt_cl {j : Nat} {n : Int} (hj : j < 32) : (j : Int) < n ↔ j < cl n := by
  unfold cl
  split
  · omega
  · split <;> omega
set_option maxHeartbeats 1000000 in
set_option maxRecDepth 100000 in
theorem refMask (n : Int) (w : World) :
    Calls Tryd.prog 31 #[.int .i64 n] w fun en w' => en = .returned (.int .u32 (maskN n)) ∧ w = w' := by
  have HE := Lib.hid (mskAt_end n)
  go_enter Tryd.func31, Tryd.ntmps31
  go_wp2_with fail
  go_loop [3, 4] (fun x i => ∃ (j X : Nat), j ≤ 32 ∧ i = .int .i64 j ∧ x = .int .i64 X ∧ Hid (X = mskAt (cl n) j) ∧ X < 4294967296) (fun _ i => 32 - (intOf i).toNat)
  case atStart => exact ⟨0, 0, by omega, rfl, rfl, Lib.hid (by unfold mskAt; simp), by omega⟩
  case round =>
    obtain ⟨j, X, hj, rfl, rfl, hX, hXl⟩ := hrel
    by_cases hlt : j < 32
    · have hji : (j : Int) < 32 := by omega
      have HS := Lib.hid (mskAt_succ (cl n) j)
      have hlast := mskAt_lt (cl n) (j + 1) (by omega)
      by_cases hn : (j : Int) < n
      · have hX1 := Lib.hid (show 2 * X + 1 = mskAt (cl n) (j + 1) by rw [HS.out, ← hX.out, if_pos ((lt_cl hlt).1 hn)])
        have hX2 : 2 * X + 1 < 4294967296 := by rw [hX1.out]; exact hlast
        clear hlast
        go_wp2_with fail
        go_round
        case rel => exact ⟨j + 1, 2 * X + 1, by omega, by go_num, by go_num, hX1, hX2⟩
        case measure => simp [intOf]; omega
      · have hX1 := Lib.hid (show 2 * X = mskAt (cl n) (j + 1) by rw [HS.out, ← hX.out, if_neg (fun h => hn ((lt_cl hlt).2 h))]; omega)
        have hX2 : 2 * X < 4294967296 := by rw [hX1.out]; exact hlast
        clear hlast
        go_wp2_with fail
        go_round
        case rel => exact ⟨j + 1, 2 * X, by omega, by go_num, by go_num, hX1, hX2⟩
        case measure => simp [intOf]; omega
    · have hj' : j = 32 := by omega
      subst hj'
      have e : (X : Int) = (maskN n : Nat) := by rw [hX.out, HE.out]
      go_wp2_with fail
      go_ret
      exact ⟨rfl, rfl⟩
set_option maxHeartbeats 1000000 in
set_option maxRecDepth 100000 in
theorem refBit (a : Nat) (ha : a < 4294967296) (i : Int) (w : World) :
    Calls Tryd.prog 33 #[.int .u32 a, .int .i64 i] w fun en w' => en = .returned (.int .i64 (bitN a i)) ∧ w = w' := by
  by_cases h0 : i < 0
  · have e : bitN a i = 0 := by unfold bitN; rw [if_pos (.inl h0)]
    rw [e]
    go_enter Tryd.func33, Tryd.ntmps33
    go_wp2_with fail
    go_ret
    exact ⟨rfl, rfl⟩
  · by_cases h1 : 31 < i
    · have e : bitN a i = 0 := by unfold bitN; rw [if_pos (.inr (by omega))]
      rw [e]
      go_enter Tryd.func33, Tryd.ntmps33
      go_wp2_with fail
      go_ret
      exact ⟨rfl, rfl⟩
    · obtain ⟨m, rfl⟩ := Int.eq_ofNat_of_zero_le (show 0 ≤ i by omega)
      have HE := Lib.hid (show bitN a (m : Int) = a / 2 ^ (31 - m) % 2 by unfold bitN; rw [if_neg (by omega), Int.toNat_natCast])
      have hm31 : m ≤ 31 := by omega
      go_enter Tryd.func33, Tryd.ntmps33
      go_wp2_with fail
      go_loop [5, 6] (fun n k => ∃ (q X : Nat), q ≤ 31 - m ∧ k = .int .i64 ((31 : Int) - q) ∧ n = .int .i64 X ∧ Hid (X = a / 2 ^ q) ∧ X < 4294967296) (fun _ k => (intOf k + 1).toNat)
      case atStart => exact ⟨0, a, by omega, by go_num, by go_num, Lib.hid (by simp), ha⟩
      case round =>
        obtain ⟨q, X, hq, rfl, rfl, hX, hXl⟩ := hrel
        by_cases hlt : q < 31 - m
        · have hgt : (m : Int) < 31 - (q : Int) := by omega
          have hX1 := Lib.hid (show X / 2 = a / 2 ^ (q + 1) by rw [hX.out, Nat.pow_succ, Nat.div_div_eq_div_mul])
          go_wp2_with fail
          go_round
          case rel => exact ⟨q + 1, X / 2, by omega, by go_num, by go_num, hX1, by omega⟩
          case measure => simp [intOf]; omega
        · have hgt : ¬ (m : Int) < 31 - (q : Int) := by omega
          have hq' : q = 31 - m := by omega
          have e : X % 2 = bitN a (m : Int) := by rw [HE.out, hX.out, hq']
          go_wp2_with fail
          go_ret
          exact ⟨by rw [← e]; rfl, rfl⟩
/-- The document's right prefix, bit by bit. -/
theorem cl_case (n : Int) : (n < 0 ∧ cl n = 0) ∨ (32 < n ∧ cl n = 32) ∨ ∃ k : Nat, n = k ∧ k ≤ 32 ∧ cl n = k := by
  unfold cl
  by_cases h0 : n < 0
  · exact .inl ⟨h0, if_pos h0⟩
  · by_cases h1 : 32 < n
    · exact .inr (.inl ⟨h1, by rw [if_neg h0, if_pos h1]⟩)
    · exact .inr (.inr ⟨n.toNat, by omega, by omega, by rw [if_neg h0, if_neg h1]⟩)
set_option maxHeartbeats 2000000 in
set_option maxRecDepth 100000 in
theorem refNorm (a : Nat) (ha : a < 4294967296) (n : Int) (w : World) :
    Calls Tryd.prog 35 #[.int .u32 a, .int .i64 n] w fun en w' => en = .returned (.agg #[.int .u32 (normN a n), .int .i64 (cl n)]) ∧ Below w.heap.size w w' := by
  have hB := Blk.new w 24 #[.int .u32 0, .int .i64 0]
  have f0 := hB.frozen 0
  have f1 := hB.frozen 1
  have c0 := hB.cell 0
  have c1 := hB.cell 1
  rcases cl_case n with ⟨h0, hC⟩ | ⟨h0, hC⟩ | ⟨k, rfl, hk, hC⟩
  · have h1 : ¬ 32 < n := by omega
    go_enter Tryd.func35, Tryd.ntmps35
    go_wp2_with fail
    go_loop [6, 7] (fun x i => ∃ (j X : Nat), j ≤ 32 ∧ i = .int .i64 j ∧ x = .int .i64 X ∧ Hid (X = nrmAt a 0 j) ∧ X < 4294967296) (fun _ i => 32 - (intOf i).toNat)
    case atStart => exact ⟨0, 0, by omega, rfl, rfl, Lib.hid (nrmAt_zero a _ ha).symm, by omega⟩
    case round =>
      obtain ⟨j, X, hj, rfl, rfl, hX, hXl⟩ := hrel
      by_cases hlt : j < 32
      · have hji : (j : Int) < 32 := by omega
        have HS := Lib.hid (nrmAt_succ a 0 j hlt)
        have hlast := nrmAt_lt a 0 (j + 1) ha (by omega) (by omega)
        by_cases hn : j < 0
        · have hni : (j : Int) < 0 := by omega
          obtain ⟨Y, hY⟩ : ∃ Y, bitN a (j : Int) = Y := ⟨_, rfl⟩
          have HY := Lib.hid hY
          have hX1 := Lib.hid (show 2 * X + Y = nrmAt a 0 (j + 1) by rw [HS.out, ← hX.out, if_pos hn, hY])
          have hX2 : 2 * X + Y < 4294967296 := by rw [hX1.out]; exact hlast
          clear hlast hY
          go_wp2_with fail
          refine (refBit a ha (j : Int) _).mono ?_
          rw [HY.out]
          rintro _ _ ⟨rfl, rfl⟩
          go_wp2_with fail
          go_round
          case rel => exact ⟨j + 1, 2 * X + Y, by omega, by go_num, by go_num, hX1, hX2⟩
          case measure => simp [intOf]; omega
        · have hni : ¬ (j : Int) < 0 := by omega
          have hX1 := Lib.hid (show 2 * X = nrmAt a 0 (j + 1) by rw [HS.out, ← hX.out, if_neg hn]; omega)
          have hX2 : 2 * X < 4294967296 := by rw [hX1.out]; exact hlast
          clear hlast
          go_wp2_with fail
          go_round
          case rel => exact ⟨j + 1, 2 * X, by omega, by go_num, by go_num, hX1, hX2⟩
          case measure => simp [intOf]; omega
      · have hj' : j = 32 := by omega
        subst hj'
        have e : (X : Int) = (normN a n : Nat) := by rw [hX.out, ← nrmAt_end, hC]
        go_wp2_with fail
        refine bodyPost_ret (pfx_ret rfl _ _ w.heap.size (.int .u32 (normN a n)) (.int .i64 (cl n)) rfl ?_) rfl ?_
        · have hcl : ((cl n : Nat) : Int) = 0 := by rw [hC]; rfl
          rw [hcl]
          exact Blk.new w _ _
        · exact ⟨by first | rfl | (rw [hC]; rfl) | (rw [hC]; done) | (rw [hC]; rfl) | (simp only [hC]; rfl), (Below.refl _ _).alloc (Nat.le_refl _) _⟩
  · have h1 : ¬ n < 0 := by omega
    go_enter Tryd.func35, Tryd.ntmps35
    go_wp2_with fail
    go_loop [6, 7] (fun x i => ∃ (j X : Nat), j ≤ 32 ∧ i = .int .i64 j ∧ x = .int .i64 X ∧ Hid (X = nrmAt a 32 j) ∧ X < 4294967296) (fun _ i => 32 - (intOf i).toNat)
    case atStart => exact ⟨0, 0, by omega, rfl, rfl, Lib.hid (nrmAt_zero a _ ha).symm, by omega⟩
    case round =>
      obtain ⟨j, X, hj, rfl, rfl, hX, hXl⟩ := hrel
      by_cases hlt : j < 32
      · have hji : (j : Int) < 32 := by omega
        have HS := Lib.hid (nrmAt_succ a 32 j hlt)
        have hlast := nrmAt_lt a 32 (j + 1) ha (by omega) (by omega)
        by_cases hn : j < 32
        · have hni : (j : Int) < 32 := by omega
          obtain ⟨Y, hY⟩ : ∃ Y, bitN a (j : Int) = Y := ⟨_, rfl⟩
          have HY := Lib.hid hY
          have hX1 := Lib.hid (show 2 * X + Y = nrmAt a 32 (j + 1) by rw [HS.out, ← hX.out, if_pos hn, hY])
          have hX2 : 2 * X + Y < 4294967296 := by rw [hX1.out]; exact hlast
          clear hlast hY
          go_wp2_with fail
          refine (refBit a ha (j : Int) _).mono ?_
          rw [HY.out]
          rintro _ _ ⟨rfl, rfl⟩
          go_wp2_with fail
          go_round
          case rel => exact ⟨j + 1, 2 * X + Y, by omega, by go_num, by go_num, hX1, hX2⟩
          case measure => simp [intOf]; omega
        · exact absurd hlt hn
      · have hj' : j = 32 := by omega
        subst hj'
        have e : (X : Int) = (normN a n : Nat) := by rw [hX.out, ← nrmAt_end, hC]
        go_wp2_with fail
        refine bodyPost_ret (pfx_ret rfl _ _ w.heap.size (.int .u32 (normN a n)) (.int .i64 (cl n)) rfl ?_) rfl ?_
        · have hcl : ((cl n : Nat) : Int) = 32 := by rw [hC]; rfl
          rw [hcl]
          exact Blk.new w _ _
        · exact ⟨by first | rfl | (rw [hC]; rfl) | (rw [hC]; done) | (rw [hC]; rfl) | (simp only [hC]; rfl), (Below.refl _ _).alloc (Nat.le_refl _) _⟩
  · have h0 : ¬ (k : Int) < 0 := by omega
    have h1 : ¬ 32 < (k : Int) := by omega
    go_enter Tryd.func35, Tryd.ntmps35
    go_wp2_with fail
    go_loop [6, 7] (fun x i => ∃ (j X : Nat), j ≤ 32 ∧ i = .int .i64 j ∧ x = .int .i64 X ∧ Hid (X = nrmAt a k j) ∧ X < 4294967296) (fun _ i => 32 - (intOf i).toNat)
    case atStart => exact ⟨0, 0, by omega, rfl, rfl, Lib.hid (nrmAt_zero a _ ha).symm, by omega⟩
    case round =>
      obtain ⟨j, X, hj, rfl, rfl, hX, hXl⟩ := hrel
      by_cases hlt : j < 32
      · have hji : (j : Int) < 32 := by omega
        have HS := Lib.hid (nrmAt_succ a k j hlt)
        have hlast := nrmAt_lt a k (j + 1) ha (by omega) (by omega)
        by_cases hn : j < k
        · have hni : (j : Int) < (k : Int) := by omega
          obtain ⟨Y, hY⟩ : ∃ Y, bitN a (j : Int) = Y := ⟨_, rfl⟩
          have HY := Lib.hid hY
          have hX1 := Lib.hid (show 2 * X + Y = nrmAt a k (j + 1) by rw [HS.out, ← hX.out, if_pos hn, hY])
          have hX2 : 2 * X + Y < 4294967296 := by rw [hX1.out]; exact hlast
          clear hlast hY
          go_wp2_with fail
          refine (refBit a ha (j : Int) _).mono ?_
          rw [HY.out]
          rintro _ _ ⟨rfl, rfl⟩
          go_wp2_with fail
          go_round
          case rel => exact ⟨j + 1, 2 * X + Y, by omega, by go_num, by go_num, hX1, hX2⟩
          case measure => simp [intOf]; omega
        · have hni : ¬ (j : Int) < (k : Int) := by omega
          have hX1 := Lib.hid (show 2 * X = nrmAt a k (j + 1) by rw [HS.out, ← hX.out, if_neg hn]; omega)
          have hX2 : 2 * X < 4294967296 := by rw [hX1.out]; exact hlast
          clear hlast
          go_wp2_with fail
          go_round
          case rel => exact ⟨j + 1, 2 * X, by omega, by go_num, by go_num, hX1, hX2⟩
          case measure => simp [intOf]; omega
      · have hj' : j = 32 := by omega
        subst hj'
        have e : (X : Int) = (normN a (k : Int) : Nat) := by rw [hX.out, ← nrmAt_end, hC]
        go_wp2_with fail
        refine bodyPost_ret (pfx_ret rfl _ _ w.heap.size (.int .u32 (normN a (k : Int))) (.int .i64 (cl (k : Int))) rfl ?_) rfl ?_
        · have hcl : ((cl (k : Int) : Nat) : Int) = (k : Int) := by rw [hC]
          rw [hcl]
          exact Blk.new w _ _
        · exact ⟨by first | rfl | (rw [hC]; rfl) | (rw [hC]; done) | (rw [hC]; rfl) | (simp only [hC]; rfl), (Below.refl _ _).alloc (Nat.le_refl _) _⟩
set_option maxHeartbeats 1000000 in
set_option maxRecDepth 100000 in
theorem refRight (a : Nat) (ha : a < 4294967296) (n : Int) (w : World) :
    Calls Tryd.prog 36 #[.agg #[.int .u32 a, .int .i64 n]] w fun en w' => en = .returned (.bool (pRight a n)) ∧ Below w.heap.size w w' := by
  have hB := Blk.new w 24 #[.int .u32 a, .int .i64 n]
  have c0 := hB.cell 0
  have c1 := hB.cell 1
  have hgl := hB.lt
  have b0 := (Below.refl w.heap.size w).alloc (Nat.le_refl _) (.cells #[.int .u32 a, .int .i64 n] 24)
  obtain ⟨W, hW⟩ : ∃ W, w.alloc (.cells #[.int .u32 a, .int .i64 n] 24) = W := ⟨_, rfl⟩
  rw [hW] at c0 c1 hgl b0 hB
  obtain ⟨N, hN⟩ : ∃ N, normN a n = N := ⟨_, rfl⟩
  obtain ⟨C, hC⟩ : ∃ C, cl n = C := ⟨_, rfl⟩
  have HN := Lib.hid hN
  have HC := Lib.hid hC
  by_cases h1 : N = a
  · by_cases h2 : (C : Int) = n
    · have e : pRight a n = true := by
        have := cl_le n
        unfold pRight
        exact decide_eq_true ⟨by omega, by omega, by rw [hN, h1]⟩
      subst h1
      clear hN hC
      subst h2
      go_enter Tryd.func36, Tryd.ntmps36
      go_wp2_with fail
      try rw [hW]
      clear hW
      go_region_held3 (fun w' => Below W.heap.size W w' ∧ w'.cell? ⟨w.heap.size, 0, none⟩ = some (.int .u32 N) ∧ w'.cell? ⟨w.heap.size, 1, none⟩ = some (.int .i64 C))
        (first | (refine keep2c hgl b1 ?_; assumption) | ((repeat' apply And.intro) <;> first | (with_reducible exact Below.drew (Below.refl _ _)) | go_keep))
        ((go_at_call 35; refine (refNorm N ha (C : Int) _).mono ?_; rw [HN.out, HC.out]; rintro _ w1 ⟨rfl, b1⟩))
      all_goals
        have hbf : Below W.heap.size W w1 := And.left (by with_reducible assumption)
        try go_wp2_with fail
        go_ret
        exact ⟨ret_b e.symm, btr b0 hbf b0.size⟩
    · have e : pRight a n = false := by
        unfold pRight
        exact decide_eq_false fun hh => h2 (by rw [← hC, cl_of hh.1 hh.2.1]; omega)
      have ht : ((C : Int) == n) = false := by simpa using h2
      subst h1
      clear hN hC
      go_enter Tryd.func36, Tryd.ntmps36
      go_wp2_with fail
      try rw [hW]
      clear hW
      go_region_held3 (fun w' => Below W.heap.size W w' ∧ w'.cell? ⟨w.heap.size, 0, none⟩ = some (.int .u32 N) ∧ w'.cell? ⟨w.heap.size, 1, none⟩ = some (.int .i64 n))
        (first | (refine keep2c hgl b1 ?_; assumption) | ((repeat' apply And.intro) <;> first | (with_reducible exact Below.drew (Below.refl _ _)) | go_keep))
        ((go_at_call 35; refine (refNorm N ha n _).mono ?_; rw [HN.out, HC.out]; rintro _ w1 ⟨rfl, b1⟩))
      all_goals
        have hbf : Below W.heap.size W w1 := And.left (by with_reducible assumption)
        try go_wp2_with fail
        go_ret
        exact ⟨ret_b e.symm, btr b0 hbf b0.size⟩
  · have e : pRight a n = false := by
      unfold pRight
      exact decide_eq_false fun hh => h1 (by rw [← hN]; exact hh.2.2)
    have ht : ((N : Int) == a) = false := by simpa using (by omega : ¬ (N : Int) = a)
    clear hN hC
    go_enter Tryd.func36, Tryd.ntmps36
    go_wp2_with fail
    try rw [hW]
    clear hW
    go_region_held3 (fun w' => Below W.heap.size W w' ∧ w'.cell? ⟨w.heap.size, 0, none⟩ = some (.int .u32 a) ∧ w'.cell? ⟨w.heap.size, 1, none⟩ = some (.int .i64 n))
      (first | (refine keep2c hgl b1 ?_; assumption) | ((repeat' apply And.intro) <;> first | (with_reducible exact Below.drew (Below.refl _ _)) | go_keep))
      ((go_at_call 35; refine (refNorm a ha n _).mono ?_; rw [HN.out, HC.out]; rintro _ w1 ⟨rfl, b1⟩))
    all_goals
      have hbf : Below W.heap.size W w1 := And.left (by with_reducible assumption)
      try go_wp2_with fail
      go_ret
      exact ⟨ret_b e.symm, btr b0 hbf b0.size⟩
end Go.Proofs.YtnhkpnohadbcdaaDoor
