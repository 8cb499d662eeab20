/- Walks of layer 2 (prefix): the document's Compare; Common, both. No conditions. -/
import Derived.Test.YtnhkpnohadbcdaaDoorProg
import Derived.WalkKit
import Derived.WalkSpells
import Derived.WalkLawsBesides
import Derived.Outline
import Derived.Deep.QuietTactic
import Derived.BigQuiet
import Derived.Handy
import Derived.Lib.Hide
import Derived.Test.YtnhkpnohadbcdaaDoorPfxS
namespace Go.Proofs.YtnhkpnohadbcdaaDoor
open Go.RowKit
set_option maxHeartbeats 1000000 in
set_option maxRecDepth 100000 in
theorem ref02Compare (a : Nat) (n : Int) (b : Nat) (m : Int) (w : World) :
    Calls Tryd.prog 40 #[.agg #[.int .u32 a, .int .i64 n], .agg #[.int .u32 b, .int .i64 m]] w fun en w' => en = .returned (.int .i64 (pCmp a n b m)) ∧ Below w.heap.size w w' := by
  obtain ⟨W, hW, hP, hQ, b0⟩ := box2 w (.int .u32 a) (.int .i64 n) (.int .u32 b) (.int .i64 m)
  have c0 := hP.cell 0
  have c1 := hP.cell 1
  have d0 := hQ.cell 0
  have d1 := hQ.cell 1
  by_cases hlt : a < b
  · have e : pCmp a n b m = -1 := by unfold pCmp; rw [if_pos (.inl hlt)]
    have hi : (a : Int) < b := by omega
    have hi3 : ((a : Int) != b) = true := by simpa using (by omega : ¬ (a : Int) = b)
    rw [e]
    go_enter Tryd.func40, Tryd.ntmps40
    go_wp2_with fail
    go_ret
    exact ⟨rfl, by first | exact b0 | (rw [hW]; exact b0)⟩
  · by_cases hab : a = b
    · subst hab
      by_cases hnm : n < m
      · have e : pCmp a n a m = -1 := by unfold pCmp; rw [if_pos (.inr ⟨rfl, hnm⟩)]
        rw [e]
        go_enter Tryd.func40, Tryd.ntmps40
        go_wp2_with fail
        go_ret
        exact ⟨rfl, by first | exact b0 | (rw [hW]; exact b0)⟩
      · by_cases hn : n = m
        · subst hn
          have e : pCmp a n a n = 0 := by unfold pCmp; rw [if_neg (by omega), if_pos ⟨rfl, rfl⟩]
          rw [e]
          go_enter Tryd.func40, Tryd.ntmps40
          go_wp2_with fail
          go_ret
          exact ⟨rfl, by first | exact b0 | (rw [hW]; exact b0)⟩
        · have hgt : m < n := by omega
          have e : pCmp a n a m = 1 := by unfold pCmp; rw [if_neg (by omega), if_neg (by omega)]
          rw [e]
          go_enter Tryd.func40, Tryd.ntmps40
          go_wp2_with fail
          go_ret
          exact ⟨rfl, by first | exact b0 | (rw [hW]; exact b0)⟩
    · have e : pCmp a n b m = 1 := by unfold pCmp; rw [if_neg (by omega), if_neg (by omega)]
      have hi : ¬ (a : Int) < b := by omega
      have hi3 : ((a : Int) != b) = true := by simpa using (by omega : ¬ (a : Int) = b)
      rw [e]
      go_enter Tryd.func40, Tryd.ntmps40
      go_wp2_with fail
      go_ret
      exact ⟨rfl, by first | exact b0 | (rw [hW]; exact b0)⟩
/-- Two prefixes that are right: how many bits they have in common. -/
def comm (a : Nat) (n : Int) (b : Nat) (m : Int) : Nat := if pRight a n = true ∧ pRight b m = true then comN a b (min n.toNat m.toNat) else 0
def commA (a : Nat) (n : Int) (b : Nat) (m : Int) : Nat := if pRight a n = true ∧ pRight b m = true then normN a (comm a n b m : Nat) else 0
theorem comN_agree (a b k : Nat) (ha : a < 4294967296) (hb : b < 4294967296) : normN a (comN a b k : Nat) = normN b (comN a b k : Nat) := by
  induction k with
  | zero => show normN a ((0 : Nat) : Int) = normN b ((0 : Nat) : Int); rw [show ((0 : Nat) : Int) = 0 from rfl, normN_zero a ha, normN_zero b hb]
  | succ k ih =>
    unfold comN
    split
    · assumption
    · exact ih
theorem comN_step {a b k : Nat} (h : ¬ normN a ((k + 1 : Nat) : Int) = normN b ((k + 1 : Nat) : Int)) : comN a b (k + 1) = comN a b k := by
  rw [comN, if_neg h]
theorem comN_hit {a b k : Nat} (h : normN a ((k + 1 : Nat) : Int) = normN b ((k + 1 : Nat) : Int)) : comN a b (k + 1) = k + 1 := by
  rw [comN, if_pos h]
/-- Two prefixes by value, boxed, and a result. -/
theorem box3 (w : World) (x y u v r s : Value) : ∃ W, ((w.alloc (.cells #[x, y] 24)).alloc (.cells #[u, v] 24)).alloc (.cells #[r, s] 24) = W ∧ Blk W w.heap.size 24 #[x, y] ∧ Blk W (w.heap.size + 1) 24 #[u, v] ∧ Blk W (w.heap.size + 1 + 1) 24 #[r, s] ∧ Below w.heap.size w W := by
  obtain ⟨V, hV, h1, h2, hb⟩ := box2 w x y u v
  have hs : V.heap.size = w.heap.size + 1 + 1 := by rw [← hV]; simp
  refine ⟨_, rfl, ?_⟩
  rw [hV]
  refine ⟨h1.alloc _, h2.alloc _, ?_, hb.alloc hb.size _⟩
  have := Blk.new V 24 #[r, s]
  rw [hs] at this
  exact this
set_option maxHeartbeats 1000000 in
set_option maxRecDepth 100000 in
theorem prefixCommon_no (a : Nat) (ha : a < 4294967296) (n : Int) (b : Nat) (hb : b < 4294967296) (m : Int) (w : World) (h : ¬ (pRight a n = true ∧ pRight b m = true)) :
    Calls Tryd.prog 41 #[.agg #[.int .u32 a, .int .i64 n], .agg #[.int .u32 b, .int .i64 m]] w fun en w' => en = .returned (.agg #[.int .u32 0, .int .i64 0]) ∧ Below w.heap.size w w' := by
  obtain ⟨W, hW, hP, hQ, hR, b0⟩ := box3 w (.int .u32 a) (.int .i64 n) (.int .u32 b) (.int .i64 m) (.int .u32 0) (.int .i64 0)
  have c0 := hP.cell 0
  have c1 := hP.cell 1
  have d0 := hQ.cell 0
  have d1 := hQ.cell 1
  go_enter Tryd.func41, Tryd.ntmps41
  go_wp2_with fail
  try rw [hW]
  clear hW
  refine (prefixRight a ha n _).mono ?_
  rintro _ w1 ⟨rfl, b1⟩
  have b01 := btr b0 b1 b0.size
  have hP1 := hP.below b1 hP.lt
  have hQ1 := hQ.below b1 hQ.lt
  have hR1 := hR.below b1 hR.lt
  clear c0 c1 d0 d1
  have d0 := hQ1.cell 0
  have d1 := hQ1.cell 1
  have f0 := hR1.frozen 0
  have f1 := hR1.frozen 1
  have g0 := hR1.cell 0
  have g1 := hR1.cell 1
  cases hr : pRight a n
  · go_wp2_with fail
    have hBf := (hR1.set_ 0 (.int .u32 0)).set_ 1 (.int .i64 0)
    refine bodyPost_ret (pfx_ret rfl _ _ (w.heap.size + 1 + 1) (.int .u32 0) (.int .i64 0) rfl (by simpa using hBf)) rfl ?_
    exact ⟨rfl, (b01.setCell (by show w.heap.size ≤ w.heap.size + 1 + 1; omega) _).setCell (by show w.heap.size ≤ w.heap.size + 1 + 1; omega) _⟩
  · have hr2 : pRight b m = false := by cases h2 : pRight b m; rfl; exact absurd ⟨hr, h2⟩ h
    go_wp2_with fail
    refine (prefixRight b hb m _).mono ?_
    rw [hr2]
    rintro _ w2 ⟨rfl, b2⟩
    have b02 := btr b01 b2 b01.size
    have hR2 := hR1.below b2 hR1.lt
    clear f0 f1 g0 g1 d0 d1
    have f0 := hR2.frozen 0
    have f1 := hR2.frozen 1
    have g0 := hR2.cell 0
    have g1 := hR2.cell 1
    go_wp2_with fail
    have hBf := (hR2.set_ 0 (.int .u32 0)).set_ 1 (.int .i64 0)
    refine bodyPost_ret (pfx_ret rfl _ _ (w.heap.size + 1 + 1) (.int .u32 0) (.int .i64 0) rfl (by simpa using hBf)) rfl ?_
    exact ⟨rfl, (b02.setCell (by show w.heap.size ≤ w.heap.size + 1 + 1; omega) _).setCell (by show w.heap.size ≤ w.heap.size + 1 + 1; omega) _⟩
theorem xm_no {a b : Nat} {n : Int} (ha : a < 4294967296) (hb : b < 4294967296) (h : normN a n = normN b n) : (bits BinOp.and IntKind.u32 (bits BinOp.xor IntKind.u32 (a : Int) (b : Int)) (maskN n : Nat) != 0) = false := by
  rw [u32_xor_nat a b ha hb, u32_and_nat _ _ (Nat.xor_lt_two_pow (n := 32) (by omega) (by omega)) (maskN_lt n), (xor_norm a b n ha hb).2 h]
  rfl
theorem xm_yes {a b : Nat} {n : Int} (ha : a < 4294967296) (hb : b < 4294967296) (h : ¬ normN a n = normN b n) : (bits BinOp.and IntKind.u32 (bits BinOp.xor IntKind.u32 (a : Int) (b : Int)) (maskN n : Nat) != 0) = true := by
  rw [u32_xor_nat a b ha hb, u32_and_nat _ _ (Nat.xor_lt_two_pow (n := 32) (by omega) (by omega)) (maskN_lt n)]
  have : ¬ (a ^^^ b) &&& maskN n = 0 := fun hh => h ((xor_norm a b n ha hb).1 hh)
  simpa using (by omega : ¬ (((a ^^^ b) &&& maskN n : Nat) : Int) = 0)
set_option maxHeartbeats 4000000 in
set_option maxRecDepth 100000 in
theorem prefixCommon_yes (a : Nat) (ha : a < 4294967296) (n : Nat) (b : Nat) (hb : b < 4294967296) (m : Nat) (hn : n ≤ 32) (hm : m ≤ 32) (w : World) (h1 : pRight a (n : Int) = true) (h2 : pRight b (m : Int) = true) :
    Calls Tryd.prog 41 #[.agg #[.int .u32 a, .int .i64 n], .agg #[.int .u32 b, .int .i64 m]] w fun en w' => en = .returned (.agg #[.int .u32 (normN a (comN a b (min n m) : Nat)), .int .i64 (comN a b (min n m) : Nat)]) ∧ Below w.heap.size w w' := by
  obtain ⟨W, hW, hP, hQ, hR, b0⟩ := box3 w (.int .u32 a) (.int .i64 n) (.int .u32 b) (.int .i64 m) (.int .u32 0) (.int .i64 0)
  rcases Nat.lt_or_ge m n with hmn | hmn
  · have hmi : (m : Int) < n := by omega
    rw [Nat.min_eq_right (by omega : m ≤ n)]
    have c0 := hP.cell 0
    have c1 := hP.cell 1
    go_enter Tryd.func41, Tryd.ntmps41
    go_wp2_with fail
    try rw [hW]
    clear hW
    refine (prefixRight a ha n _).mono ?_
    rw [h1]
    rintro _ w1 ⟨rfl, b1⟩
    have b01 := btr b0 b1 b0.size
    have hP1 := hP.below b1 hP.lt
    have hQ1 := hQ.below b1 hQ.lt
    have hR1 := hR.below b1 hR.lt
    clear c0 c1
    have d0 := hQ1.cell 0
    have d1 := hQ1.cell 1
    go_wp2_with fail
    refine (prefixRight b hb m _).mono ?_
    rw [h2]
    rintro _ w2 ⟨rfl, b2⟩
    have b02 := btr b01 b2 b01.size
    have hP2 := hP1.below b2 hP1.lt
    have hQ2 := hQ1.below b2 hQ1.lt
    have hR2 := hR1.below b2 hR1.lt
    clear d0 d1 h1 h2
    have c0 : w2.cell? ⟨w.heap.size, 0, none⟩ = some (.int .u32 a) := hP2.cell 0
    have c1 : w2.cell? ⟨w.heap.size, 1, none⟩ = some (.int .i64 n) := hP2.cell 1
    have d0 : w2.cell? ⟨w.heap.size + 1, 0, none⟩ = some (.int .u32 b) := hQ2.cell 0
    have d1 : w2.cell? ⟨w.heap.size + 1, 1, none⟩ = some (.int .i64 m) := hQ2.cell 1
    go_wp2_with fail
    go_loopw [5] (fun x wr => ∃ (k q : Nat), x = .int .i64 k ∧ k ≤ 32 ∧ wr = w2.drewN q ∧ Hid (comN a b m = comN a b k)) (fun x _ => (intOf x).toNat)
    case atStart => exact ⟨m, 0, rfl, by omega, rfl, Lib.hid rfl⟩
    case round =>
      obtain ⟨k, q, rfl, hk, rfl, hI⟩ := hrel
      have HCL := Lib.hid (cl_nat hk)
      by_cases hk0 : 0 < k
      · have hki : (0 : Int) < k := by omega
        by_cases hag : normN a (k : Int) = normN b (k : Int)
        · have e : (bits BinOp.and IntKind.u32 (bits BinOp.xor IntKind.u32 (a : Int) (b : Int)) (maskN (k : Int) : Nat) != 0) = false := xm_no ha hb hag
          have HRES := Lib.hid (show comN a b m = k by
            rw [hI.out]
            obtain ⟨j, rfl⟩ : ∃ j, k = j + 1 := ⟨k - 1, by omega⟩
            exact comN_hit hag)
          clear hag
          go_wp2_with fail
          go_quiet ((go_at_call 30; exact quiet_add_left (prefixMask _ _)))
          go_wp2_with fail
          refine (prefixNorm a ha (k : Int) _).mono ?_
          rintro _ w5 ⟨rfl, b5⟩
          have b05 := btr (below_drewN b02 (q + nq)) b5 b02.size
          have hR5 := hR2.below ((below_drewN (Below.refl _ _) (q + nq)).trans (b5.mono (Nat.le_refl _))) hR2.lt
          have f0 := hR5.frozen 0
          have f1 := hR5.frozen 1
          have g0 := hR5.cell 0
          have g1 := hR5.cell 1
          go_wp2_with fail
          have hBf := (hR5.set_ 0 (.int .u32 (normN a (k : Int)))).set_ 1 (.int .i64 (cl (k : Int)))
          refine bodyPost_ret (pfx_ret rfl _ _ (w.heap.size + 1 + 1) (.int .u32 (normN a (k : Int))) (.int .i64 (cl (k : Int))) rfl (by simpa using hBf)) rfl ?_
          refine ⟨?_, (b05.setCell (by show w.heap.size ≤ w.heap.size + 1 + 1; omega) _).setCell (by show w.heap.size ≤ w.heap.size + 1 + 1; omega) _⟩
          rw [HCL.out, HRES.out]
        · have e : (bits BinOp.and IntKind.u32 (bits BinOp.xor IntKind.u32 (a : Int) (b : Int)) (maskN (k : Int) : Nat) != 0) = true := xm_yes ha hb hag
          have HN := Lib.hid (show comN a b m = comN a b (k - 1) by
            rw [hI.out]
            obtain ⟨j, rfl⟩ : ∃ j, k = j + 1 := ⟨k - 1, by omega⟩
            exact comN_step hag)
          clear hag
          go_wp2_with fail
          go_quiet ((go_at_call 30; exact quiet_add_left (prefixMask _ _)))
          go_wp2_with fail
          go_roundw
          case rel => exact ⟨k - 1, q + nq, by congr 1; omega, by omega, rfl, HN⟩
          case measure => simp [intOf]; omega
      · obtain rfl : k = 0 := by omega
        have HRES := Lib.hid (show comN a b m = 0 by rw [hI.out]; rfl)
        go_wp2_with fail
        go_quiet (fail)
        go_wp2_with fail
        refine (prefixNorm a ha ((0 : Nat) : Int) _).mono ?_
        rintro _ w5 ⟨rfl, b5⟩
        have b05 := btr (below_drewN b02 (q + nq)) b5 b02.size
        have hR5 := hR2.below ((below_drewN (Below.refl _ _) (q + nq)).trans (b5.mono (Nat.le_refl _))) hR2.lt
        have f0 := hR5.frozen 0
        have f1 := hR5.frozen 1
        have g0 := hR5.cell 0
        have g1 := hR5.cell 1
        go_wp2_with fail
        have hBf := (hR5.set_ 0 (.int .u32 (normN a ((0 : Nat) : Int)))).set_ 1 (.int .i64 (cl ((0 : Nat) : Int)))
        refine bodyPost_ret (pfx_ret rfl _ _ (w.heap.size + 1 + 1) (.int .u32 (normN a ((0 : Nat) : Int))) (.int .i64 (cl ((0 : Nat) : Int))) rfl (by simpa using hBf)) rfl ?_
        refine ⟨?_, (b05.setCell (by show w.heap.size ≤ w.heap.size + 1 + 1; omega) _).setCell (by show w.heap.size ≤ w.heap.size + 1 + 1; omega) _⟩
        rw [HCL.out, HRES.out]
  · have hmi : ¬ (m : Int) < n := by omega
    rw [Nat.min_eq_left hmn]
    have c0 := hP.cell 0
    have c1 := hP.cell 1
    go_enter Tryd.func41, Tryd.ntmps41
    go_wp2_with fail
    try rw [hW]
    clear hW
    refine (prefixRight a ha n _).mono ?_
    rw [h1]
    rintro _ w1 ⟨rfl, b1⟩
    have b01 := btr b0 b1 b0.size
    have hP1 := hP.below b1 hP.lt
    have hQ1 := hQ.below b1 hQ.lt
    have hR1 := hR.below b1 hR.lt
    clear c0 c1
    have d0 := hQ1.cell 0
    have d1 := hQ1.cell 1
    go_wp2_with fail
    refine (prefixRight b hb m _).mono ?_
    rw [h2]
    rintro _ w2 ⟨rfl, b2⟩
    have b02 := btr b01 b2 b01.size
    have hP2 := hP1.below b2 hP1.lt
    have hQ2 := hQ1.below b2 hQ1.lt
    have hR2 := hR1.below b2 hR1.lt
    clear d0 d1 h1 h2
    have c0 : w2.cell? ⟨w.heap.size, 0, none⟩ = some (.int .u32 a) := hP2.cell 0
    have c1 : w2.cell? ⟨w.heap.size, 1, none⟩ = some (.int .i64 n) := hP2.cell 1
    have d0 : w2.cell? ⟨w.heap.size + 1, 0, none⟩ = some (.int .u32 b) := hQ2.cell 0
    have d1 : w2.cell? ⟨w.heap.size + 1, 1, none⟩ = some (.int .i64 m) := hQ2.cell 1
    go_wp2_with fail
    go_loopw [5] (fun x wr => ∃ (k q : Nat), x = .int .i64 k ∧ k ≤ 32 ∧ wr = w2.drewN q ∧ Hid (comN a b n = comN a b k)) (fun x _ => (intOf x).toNat)
    case atStart => exact ⟨n, 0, rfl, by omega, rfl, Lib.hid rfl⟩
    case round =>
      obtain ⟨k, q, rfl, hk, rfl, hI⟩ := hrel
      have HCL := Lib.hid (cl_nat hk)
      by_cases hk0 : 0 < k
      · have hki : (0 : Int) < k := by omega
        by_cases hag : normN a (k : Int) = normN b (k : Int)
        · have e : (bits BinOp.and IntKind.u32 (bits BinOp.xor IntKind.u32 (a : Int) (b : Int)) (maskN (k : Int) : Nat) != 0) = false := xm_no ha hb hag
          have HRES := Lib.hid (show comN a b n = k by
            rw [hI.out]
            obtain ⟨j, rfl⟩ : ∃ j, k = j + 1 := ⟨k - 1, by omega⟩
            exact comN_hit hag)
          clear hag
          go_wp2_with fail
          go_quiet ((go_at_call 30; exact quiet_add_left (prefixMask _ _)))
          go_wp2_with fail
          refine (prefixNorm a ha (k : Int) _).mono ?_
          rintro _ w5 ⟨rfl, b5⟩
          have b05 := btr (below_drewN b02 (q + nq)) b5 b02.size
          have hR5 := hR2.below ((below_drewN (Below.refl _ _) (q + nq)).trans (b5.mono (Nat.le_refl _))) hR2.lt
          have f0 := hR5.frozen 0
          have f1 := hR5.frozen 1
          have g0 := hR5.cell 0
          have g1 := hR5.cell 1
          go_wp2_with fail
          have hBf := (hR5.set_ 0 (.int .u32 (normN a (k : Int)))).set_ 1 (.int .i64 (cl (k : Int)))
          refine bodyPost_ret (pfx_ret rfl _ _ (w.heap.size + 1 + 1) (.int .u32 (normN a (k : Int))) (.int .i64 (cl (k : Int))) rfl (by simpa using hBf)) rfl ?_
          refine ⟨?_, (b05.setCell (by show w.heap.size ≤ w.heap.size + 1 + 1; omega) _).setCell (by show w.heap.size ≤ w.heap.size + 1 + 1; omega) _⟩
          rw [HCL.out, HRES.out]
        · have e : (bits BinOp.and IntKind.u32 (bits BinOp.xor IntKind.u32 (a : Int) (b : Int)) (maskN (k : Int) : Nat) != 0) = true := xm_yes ha hb hag
          have HN := Lib.hid (show comN a b n = comN a b (k - 1) by
            rw [hI.out]
            obtain ⟨j, rfl⟩ : ∃ j, k = j + 1 := ⟨k - 1, by omega⟩
            exact comN_step hag)
          clear hag
          go_wp2_with fail
          go_quiet ((go_at_call 30; exact quiet_add_left (prefixMask _ _)))
          go_wp2_with fail
          go_roundw
          case rel => exact ⟨k - 1, q + nq, by congr 1; omega, by omega, rfl, HN⟩
          case measure => simp [intOf]; omega
      · obtain rfl : k = 0 := by omega
        have HRES := Lib.hid (show comN a b n = 0 by rw [hI.out]; rfl)
        go_wp2_with fail
        go_quiet (fail)
        go_wp2_with fail
        refine (prefixNorm a ha ((0 : Nat) : Int) _).mono ?_
        rintro _ w5 ⟨rfl, b5⟩
        have b05 := btr (below_drewN b02 (q + nq)) b5 b02.size
        have hR5 := hR2.below ((below_drewN (Below.refl _ _) (q + nq)).trans (b5.mono (Nat.le_refl _))) hR2.lt
        have f0 := hR5.frozen 0
        have f1 := hR5.frozen 1
        have g0 := hR5.cell 0
        have g1 := hR5.cell 1
        go_wp2_with fail
        have hBf := (hR5.set_ 0 (.int .u32 (normN a ((0 : Nat) : Int)))).set_ 1 (.int .i64 (cl ((0 : Nat) : Int)))
        refine bodyPost_ret (pfx_ret rfl _ _ (w.heap.size + 1 + 1) (.int .u32 (normN a ((0 : Nat) : Int))) (.int .i64 (cl ((0 : Nat) : Int))) rfl (by simpa using hBf)) rfl ?_
        refine ⟨?_, (b05.setCell (by show w.heap.size ≤ w.heap.size + 1 + 1; omega) _).setCell (by show w.heap.size ≤ w.heap.size + 1 + 1; omega) _⟩
        rw [HCL.out, HRES.out]
end Go.Proofs.YtnhkpnohadbcdaaDoor
