/- Walks of layer 2 (prefix): Holds, Covers, Compare. No conditions. -/
import Derived.Test.YtnhkpnohadbcdaaDoorProg
import Derived.WalkKit
import Derived.WalkSpells
import Derived.WalkLawsBesides
import Derived.Outline
import Derived.Deep.QuietTactic
import Derived.BigQuiet
import Derived.Handy
import Derived.Lib.Hide
import Derived.Deep.RegionHeld
import Derived.Deep.RegionHeld3
import Derived.Test.YtnhkpnohadbcdaaDoorPfx
namespace Go.Proofs.YtnhkpnohadbcdaaDoor
open Go.RowKit
theorem keep2c {w W W' : World} {g : Nat} {x y : Value} (hg : g < w.heap.size) (hb : Below W.heap.size W W') (h : Below w.heap.size w W ∧ W.cell? ⟨g, 0, none⟩ = some x ∧ W.cell? ⟨g, 1, none⟩ = some y) :
    Below w.heap.size w W' ∧ W'.cell? ⟨g, 0, none⟩ = some x ∧ W'.cell? ⟨g, 1, none⟩ = some y :=
  have hs := h.1.size
  ⟨btr h.1 hb hs, (hb.cell (show g < _ by omega)).trans h.2.1, (hb.cell (show g < _ by omega)).trans h.2.2⟩
set_option maxHeartbeats 8000000 in
set_option maxRecDepth 100000 in
set_option linter.unusedSimpArgs false in
theorem prefixHolds (a : Nat) (ha : a < 4294967296) (n : Int) (x : Nat) (hx : x < 4294967296) (w : World) :
    Calls Tryd.prog 37 #[.agg #[.int .u32 a, .int .i64 n], .int .u32 x] w fun en w' => en = .returned (.bool (pHolds a n x)) ∧ Below w.heap.size w w' := by
  have hB := Blk.new w 24 #[.int .u32 a, .int .i64 n]
  have c0 := hB.cell 0
  have c1 := hB.cell 1
  have hgl := hB.lt
  have b0 := (Below.refl w.heap.size w).alloc (Nat.le_refl _) (.cells #[.int .u32 a, .int .i64 n] 24)
  obtain ⟨W, hW⟩ : ∃ W, w.alloc (.cells #[.int .u32 a, .int .i64 n] 24) = W := ⟨_, rfl⟩
  rw [hW] at c0 c1 hgl b0 hB
  have hws := b0.size
  cases hr : pRight a n
  · have e : pHolds a n x = false := by unfold pHolds; rw [hr]; rfl
    rw [e]
    go_enter Tryd.func37, Tryd.ntmps37
    go_wp2_with fail
    try rw [hW]
    clear hW
    refine wp_region_held_drew (S := (fun w' => Below W.heap.size W w' ∧ w'.cell? ⟨w.heap.size, 0, none⟩ = some (.int .u32 a) ∧ w'.cell? ⟨w.heap.size, 1, none⟩ = some (.int .i64 n))) (by kernel_rfl) ?_ (fun hHeld => ?_)
    · first | (refine keep2c hgl b1 ?_; assumption) | ((repeat' apply And.intro) <;> first | (with_reducible exact Below.drew (Below.refl _ _)) | go_keep)
    refine wpAnyH_take (i := 0) (v := ?v0) rfl (by kernel_rfl) (by kernel_rfl) (by kernel_rfl) (by intro _ _ _ h; exact h) (Or.inl ⟨by rfl, ?hy0⟩) (by assumption) ?rest0
    case hy0 => (intro w hSw; (try dsimp only at hSw); go_simp; try with_reducible rfl)
    try simp only [Act.put, List.getElem_toArray, List.getElem_cons_succ, List.getElem_cons_zero, List.setIfInBounds_toArray, List.set_cons_zero, List.set_cons_succ]
    refine wpAnyH_ready (rs := [1]) (by kernel_rfl) (by simp) ?_
    refine AllReadyH.cons rfl (fun K hK => ?_) AllReadyH.nil
    go_simp
    go_wp2_with (go_at_call 24; refine (prefixRight a ha n _).mono ?_; rw [hr]; rintro _ w1 ⟨rfl, b1⟩)
    refine hK.out _ _ ?_ (fun hHeld => ?_)
    · try dsimp only
      first | (refine keep2c hgl b1 ?_; assumption) | ((repeat' apply And.intro) <;> first | (with_reducible exact Below.drew (Below.refl _ _)) | go_keep)
    clear hK K
    refine wpAnyH_take (i := 2) (v := ?v2) rfl (by kernel_rfl) (by kernel_rfl) (by kernel_rfl) (by intro _ _ _ h; exact h) (Or.inl ⟨by rfl, ?hy2⟩) (by assumption) ?rest2
    case hy2 => (intro w hSw; (try dsimp only at hSw); go_simp; try with_reducible rfl)
    try simp only [Act.put, List.getElem_toArray, List.getElem_cons_succ, List.getElem_cons_zero, List.setIfInBounds_toArray, List.set_cons_zero, List.set_cons_succ]
    refine wpAnyH_take (i := 3) (v := undef) rfl (by kernel_rfl) (by kernel_rfl) (by kernel_rfl) (by intro _ _ _ h; exact h) (Or.inr ⟨by rfl, rfl⟩) (by assumption) ?_
    try simp only [Act.put, List.getElem_toArray, List.getElem_cons_succ, List.getElem_cons_zero, List.setIfInBounds_toArray, List.set_cons_zero, List.set_cons_succ]
    refine wpAnyH_take (i := 4) (v := undef) rfl (by kernel_rfl) (by kernel_rfl) (by kernel_rfl) (by intro _ _ _ h; exact h) (Or.inr ⟨by rfl, rfl⟩) (by assumption) ?_
    try simp only [Act.put, List.getElem_toArray, List.getElem_cons_succ, List.getElem_cons_zero, List.setIfInBounds_toArray, List.set_cons_zero, List.set_cons_succ]
    refine wpAnyH_take (i := 5) (v := undef) rfl (by kernel_rfl) (by kernel_rfl) (by kernel_rfl) (by intro _ _ _ h; exact h) (Or.inr ⟨by rfl, rfl⟩) (by assumption) ?_
    try simp only [Act.put, List.getElem_toArray, List.getElem_cons_succ, List.getElem_cons_zero, List.setIfInBounds_toArray, List.set_cons_zero, List.set_cons_succ]
    refine wpAnyH_take (i := 6) (v := undef) rfl (by kernel_rfl) (by kernel_rfl) (by kernel_rfl) (by intro _ _ _ h; exact h) (Or.inr ⟨by rfl, rfl⟩) (by assumption) ?_
    try simp only [Act.put, List.getElem_toArray, List.getElem_cons_succ, List.getElem_cons_zero, List.setIfInBounds_toArray, List.set_cons_zero, List.set_cons_succ]
    refine wpAnyH_take (i := 7) (v := undef) rfl (by kernel_rfl) (by kernel_rfl) (by kernel_rfl) (by intro _ _ _ h; exact h) (Or.inr ⟨by rfl, rfl⟩) (by assumption) ?_
    try simp only [Act.put, List.getElem_toArray, List.getElem_cons_succ, List.getElem_cons_zero, List.setIfInBounds_toArray, List.set_cons_zero, List.set_cons_succ]
    refine wpAnyH_take (i := 8) (v := undef) rfl (by kernel_rfl) (by kernel_rfl) (by kernel_rfl) (by intro _ _ _ h; exact h) (Or.inr ⟨by rfl, rfl⟩) (by assumption) ?_
    try simp only [Act.put, List.getElem_toArray, List.getElem_cons_succ, List.getElem_cons_zero, List.setIfInBounds_toArray, List.set_cons_zero, List.set_cons_succ]
    refine wpAnyH_take (i := 9) (v := undef) rfl (by kernel_rfl) (by kernel_rfl) (by kernel_rfl) (by intro _ _ _ h; exact h) (Or.inr ⟨by rfl, rfl⟩) (by assumption) ?_
    try simp only [Act.put, List.getElem_toArray, List.getElem_cons_succ, List.getElem_cons_zero, List.setIfInBounds_toArray, List.set_cons_zero, List.set_cons_succ]
    refine wpAnyH_take (i := 10) (v := undef) rfl (by kernel_rfl) (by kernel_rfl) (by kernel_rfl) (by intro _ _ _ h; exact h) (Or.inr ⟨by rfl, rfl⟩) (by assumption) ?_
    try simp only [Act.put, List.getElem_toArray, List.getElem_cons_succ, List.getElem_cons_zero, List.setIfInBounds_toArray, List.set_cons_zero, List.set_cons_succ]
    refine wpAnyH_take (i := 11) (v := undef) rfl (by kernel_rfl) (by kernel_rfl) (by kernel_rfl) (by intro _ _ _ h; exact h) (Or.inr ⟨by rfl, rfl⟩) (by assumption) ?_
    try simp only [Act.put, List.getElem_toArray, List.getElem_cons_succ, List.getElem_cons_zero, List.setIfInBounds_toArray, List.set_cons_zero, List.set_cons_succ]
    refine wpAnyH_take (i := 12) (v := ?v12) rfl (by kernel_rfl) (by kernel_rfl) (by kernel_rfl) (by intro _ _ _ h; exact h) (Or.inl ⟨by rfl, ?hy12⟩) (by assumption) ?rest12
    case hy12 => (intro w hSw; (try dsimp only at hSw); go_simp; try with_reducible rfl)
    try simp only [Act.put, List.getElem_toArray, List.getElem_cons_succ, List.getElem_cons_zero, List.setIfInBounds_toArray, List.set_cons_zero, List.set_cons_succ]
    refine wpAnyH_take (i := 13) (v := ?v13) rfl (by kernel_rfl) (by kernel_rfl) (by kernel_rfl) (by intro _ _ _ h; exact h) (Or.inl ⟨by rfl, ?hy13⟩) (by assumption) ?rest13
    case hy13 => (intro w hSw; (try dsimp only at hSw); go_simp; try with_reducible rfl)
    try simp only [Act.put, List.getElem_toArray, List.getElem_cons_succ, List.getElem_cons_zero, List.setIfInBounds_toArray, List.set_cons_zero, List.set_cons_succ]
    refine wpAnyH_done (by kernel_rfl) ?_ _
    go_wp2_with fail
    go_ret
    exact ⟨rfl, btr b0 (And.left (by with_reducible assumption)) b0.size⟩
  · go_enter Tryd.func37, Tryd.ntmps37
    go_wp2_with fail
    try rw [hW]
    clear hW
    go_region_held3 (fun w' => Below W.heap.size W w' ∧ w'.cell? ⟨w.heap.size, 0, none⟩ = some (.int .u32 a) ∧ w'.cell? ⟨w.heap.size, 1, none⟩ = some (.int .i64 n))
      (first | (refine keep2c hgl b1 ?_; assumption) | ((repeat' apply And.intro) <;> first | (with_reducible exact Below.drew (Below.refl _ _)) | go_keep))
      (first
        | (go_at_call 24; refine (prefixRight a ha n _).mono ?_; rw [hr]; rintro _ w1 ⟨rfl, b1⟩)
        | (go_at_call 30; refine (prefixMask n _).mono ?_; rintro _ _ ⟨rfl, rfl⟩))
    all_goals
      have hbf : Below W.heap.size W w1 := And.left (by with_reducible assumption)
      try go_wp2_with fail
      have e1 : (bits BinOp.and IntKind.u32 (bits BinOp.xor IntKind.u32 (a : Int) (x : Int)) (maskN n : Nat) == 0) = pHolds a n x := by
        rw [u32_xor_nat a x ha hx, u32_and_nat _ _ (Nat.xor_lt_two_pow (n := 32) (by omega) (by omega)) (maskN_lt n), pHolds, hr, Bool.true_and]
        obtain ⟨k, rfl, hk, hn⟩ := pRight_of hr
        rw [Bool.eq_iff_iff, beq_iff_eq, decide_eq_true_iff]
        have h1 := xor_norm a x (k : Int) ha hx
        rw [hn] at h1
        constructor
        · intro h
          exact (h1.1 (by exact_mod_cast h)).symm
        · intro h
          exact_mod_cast h1.2 h.symm
      rw [e1]
      go_ret
      exact ⟨rfl, btr b0 hbf b0.size⟩
/-- Two prefixes by value, boxed. -/
theorem box2 (w : World) (x y u v : Value) : ∃ W, (w.alloc (.cells #[x, y] 24)).alloc (.cells #[u, v] 24) = W ∧ Blk W w.heap.size 24 #[x, y] ∧ Blk W (w.heap.size + 1) 24 #[u, v] ∧ Below w.heap.size w W := by
  refine ⟨_, rfl, (Blk.new w 24 #[x, y]).alloc _, ?_, ((Below.refl w.heap.size w).alloc (Nat.le_refl _) _).alloc (by simp) _⟩
  have h := Blk.new (w.alloc (.cells #[x, y] 24)) 24 #[u, v]
  rw [World.size_alloc] at h
  exact h
set_option maxHeartbeats 1000000 in
set_option maxRecDepth 100000 in
theorem prefixCovers (a : Nat) (ha : a < 4294967296) (n : Int) (b : Nat) (hb : b < 4294967296) (m : Int) (w : World) :
    Calls Tryd.prog 29 #[.agg #[.int .u32 a, .int .i64 n], .agg #[.int .u32 b, .int .i64 m]] w fun en w' => en = .returned (.bool (pCovers a n b m)) ∧ Below w.heap.size w w' := by
  obtain ⟨W, hW, hP, hQ, b0⟩ := box2 w (.int .u32 a) (.int .i64 n) (.int .u32 b) (.int .i64 m)
  have c0 := hP.cell 0
  have c1 := hP.cell 1
  have d0 := hQ.cell 0
  have d1 := hQ.cell 1
  go_enter Tryd.func29, Tryd.ntmps29
  go_wp2_with fail
  try rw [hW]
  clear hW
  refine (prefixRight b hb m _).mono ?_
  rintro _ w1 ⟨rfl, b1⟩
  have hP1 := hP.below b1 hP.lt
  have hQ1 := hQ.below b1 hQ.lt
  have x0 := hP1.cell 0
  have x1 := hP1.cell 1
  have y0 := hQ1.cell 0
  have y1 := hQ1.cell 1
  have b01 := btr b0 b1 b0.size
  clear c0 c1 d0 d1 hP hQ
  cases hr : pRight b m
  · have e : pCovers a n b m = false := by unfold pCovers; rw [hr]; rfl
    go_wp2_with fail
    go_ret
    exact ⟨ret_b e.symm, b01⟩
  · by_cases hnm : n ≤ m
    · have e : pCovers a n b m = pHolds a n b := by unfold pCovers; rw [hr, decide_eq_true hnm]; rfl
      go_wp2_with fail
      refine (prefixHolds a ha n b hb _).mono ?_
      rintro _ w2 ⟨rfl, b2⟩
      go_wp2_with fail
      go_ret
      exact ⟨ret_b e.symm, btr b01 b2 b01.size⟩
    · have e : pCovers a n b m = false := by unfold pCovers; rw [decide_eq_false hnm]; simp
      have hd : decide (n ≤ m) = false := decide_eq_false hnm
      go_wp2_with fail
      go_ret
      exact ⟨ret_b e.symm, b01⟩
set_option maxHeartbeats 1000000 in
set_option maxRecDepth 100000 in
theorem prefixCompare (a : Nat) (n : Int) (b : Nat) (m : Int) (w : World) :
    Calls Tryd.prog 28 #[.agg #[.int .u32 a, .int .i64 n], .agg #[.int .u32 b, .int .i64 m]] w fun en w' => en = .returned (.int .i64 (pCmp a n b m)) ∧ Below w.heap.size w w' := by
  obtain ⟨W, hW, hP, hQ, b0⟩ := box2 w (.int .u32 a) (.int .i64 n) (.int .u32 b) (.int .i64 m)
  have c0 := hP.cell 0
  have c1 := hP.cell 1
  have d0 := hQ.cell 0
  have d1 := hQ.cell 1
  by_cases hlt : a < b
  · have e : pCmp a n b m = -1 := by unfold pCmp; rw [if_pos (.inl hlt)]
    have hi : (a : Int) < b := by omega
    rw [e]
    go_enter Tryd.func28, Tryd.ntmps28
    go_wp2_with fail
    go_ret
    exact ⟨rfl, by first | exact b0 | (rw [hW]; exact b0)⟩
  · by_cases hab : a = b
    · subst hab
      by_cases hnm : n < m
      · have e : pCmp a n a m = -1 := by unfold pCmp; rw [if_pos (.inr ⟨rfl, hnm⟩)]
        rw [e]
        go_enter Tryd.func28, Tryd.ntmps28
        go_wp2_with fail
        go_ret
        exact ⟨rfl, by first | exact b0 | (rw [hW]; exact b0)⟩
      · by_cases hn : n = m
        · subst hn
          have e : pCmp a n a n = 0 := by unfold pCmp; rw [if_neg (by omega), if_pos ⟨rfl, rfl⟩]
          rw [e]
          go_enter Tryd.func28, Tryd.ntmps28
          go_wp2_with fail
          go_ret
          exact ⟨rfl, by first | exact b0 | (rw [hW]; exact b0)⟩
        · have e : pCmp a n a m = 1 := by unfold pCmp; rw [if_neg (by omega), if_neg (by omega)]
          rw [e]
          go_enter Tryd.func28, Tryd.ntmps28
          go_wp2_with fail
          go_ret
          exact ⟨rfl, by first | exact b0 | (rw [hW]; exact b0)⟩
    · have e : pCmp a n b m = 1 := by unfold pCmp; rw [if_neg (by omega), if_neg (by omega)]
      have hi : ¬ (a : Int) < b := by omega
      have hi2 : ((a : Int) == b) = false := by simpa using (by omega : ¬ (a : Int) = b)
      rw [e]
      go_enter Tryd.func28, Tryd.ntmps28
      go_wp2_with fail
      go_ret
      exact ⟨rfl, by first | exact b0 | (rw [hW]; exact b0)⟩
end Go.Proofs.YtnhkpnohadbcdaaDoor
