/- Walks of the document's layer 2 (prefix): Holds, Covers, Compare. No conditions. -/
import Derived.Test.YtnhkpnohadbcdaaDoorProg
import Derived.WalkKit
import Derived.WalkSpells
import Derived.WalkLawsBesides
import Derived.Outline
import Derived.Deep.QuietTactic
import Derived.BigQuiet
import Derived.Handy
import Derived.Lib.Hide
import Derived.Deep.RegionHeld
import Derived.Deep.RegionHeld3
import Derived.Test.YtnhkpnohadbcdaaDoorPfxR
namespace Go.Proofs.YtnhkpnohadbcdaaDoor
open Go.RowKit
theorem held_no {a : Nat} {n : Int} {x : Nat} (hr : pRight a n = true) (h : normN x n = a) : pHolds a n x = true := by
  unfold pHolds; rw [hr, decide_eq_true h]; rfl
set_option maxHeartbeats 2000000 in
set_option maxRecDepth 100000 in
set_option linter.unusedSimpArgs false in
theorem ref02Holds_no (a : Nat) (ha : a < 4294967296) (n : Int) (x : Nat) (w : World) (hr : pRight a n = false) :
    Calls Tryd.prog 38 #[.agg #[.int .u32 a, .int .i64 n], .int .u32 x] w fun en w' => en = .returned (.bool false) ∧ Below w.heap.size w w' := by
  have hB := Blk.new w 24 #[.int .u32 a, .int .i64 n]
  have c0 := hB.cell 0
  have c1 := hB.cell 1
  have hgl := hB.lt
  have b0 := (Below.refl w.heap.size w).alloc (Nat.le_refl _) (.cells #[.int .u32 a, .int .i64 n] 24)
  obtain ⟨W, hW⟩ : ∃ W, w.alloc (.cells #[.int .u32 a, .int .i64 n] 24) = W := ⟨_, rfl⟩
  rw [hW] at c0 c1 hgl b0 hB
  go_enter Tryd.func38, Tryd.ntmps38
  go_wp2_with fail
  try rw [hW]
  clear hW
  refine wp_region_held_drew (S := (fun w' => Below W.heap.size W w' ∧ w'.cell? ⟨w.heap.size, 0, none⟩ = some (.int .u32 a) ∧ w'.cell? ⟨w.heap.size, 1, none⟩ = some (.int .i64 n))) (by kernel_rfl) ?_ (fun hHeld => ?_)
  · first | (refine keep2c hgl b1 ?_; assumption) | ((repeat' apply And.intro) <;> first | (with_reducible exact Below.drew (Below.refl _ _)) | go_keep)
  refine wpAnyH_take (i := 0) (v := ?v0) rfl (by kernel_rfl) (by kernel_rfl) (by kernel_rfl) (by intro _ _ _ h; exact h) (Or.inl ⟨by rfl, ?hy0⟩) (by assumption) ?rest0
  case hy0 => (intro w hSw; (try dsimp only at hSw); go_simp; try with_reducible rfl)
  try simp only [Act.put, List.getElem_toArray, List.getElem_cons_succ, List.getElem_cons_zero, List.setIfInBounds_toArray, List.set_cons_zero, List.set_cons_succ]
  refine wpAnyH_ready (rs := [1]) (by kernel_rfl) (by simp) ?_
  refine AllReadyH.cons rfl (fun K hK => ?_) AllReadyH.nil
  go_simp
  go_wp2_with (go_at_call 36; refine (refRight a ha n _).mono ?_; rw [hr]; rintro _ w1 ⟨rfl, b1⟩)
  refine hK.out _ _ ?_ (fun hHeld => ?_)
  · try dsimp only
    first | (refine keep2c hgl b1 ?_; assumption) | ((repeat' apply And.intro) <;> first | (with_reducible exact Below.drew (Below.refl _ _)) | go_keep)
  clear hK K
  refine wpAnyH_take (i := 2) (v := ?v2) rfl (by kernel_rfl) (by kernel_rfl) (by kernel_rfl) (by intro _ _ _ h; exact h) (Or.inl ⟨by rfl, ?hy2⟩) (by assumption) ?rest2
  case hy2 => (intro w hSw; (try dsimp only at hSw); go_simp; try with_reducible rfl)
  try simp only [Act.put, List.getElem_toArray, List.getElem_cons_succ, List.getElem_cons_zero, List.setIfInBounds_toArray, List.set_cons_zero, List.set_cons_succ]
  refine wpAnyH_take (i := 3) (v := undef) rfl (by kernel_rfl) (by kernel_rfl) (by kernel_rfl) (by intro _ _ _ h; exact h) (Or.inr ⟨by rfl, rfl⟩) (by assumption) ?_
  try simp only [Act.put, List.getElem_toArray, List.getElem_cons_succ, List.getElem_cons_zero, List.setIfInBounds_toArray, List.set_cons_zero, List.set_cons_succ]
  refine wpAnyH_take (i := 4) (v := undef) rfl (by kernel_rfl) (by kernel_rfl) (by kernel_rfl) (by intro _ _ _ h; exact h) (Or.inr ⟨by rfl, rfl⟩) (by assumption) ?_
  try simp only [Act.put, List.getElem_toArray, List.getElem_cons_succ, List.getElem_cons_zero, List.setIfInBounds_toArray, List.set_cons_zero, List.set_cons_succ]
  refine wpAnyH_take (i := 5) (v := undef) rfl (by kernel_rfl) (by kernel_rfl) (by kernel_rfl) (by intro _ _ _ h; exact h) (Or.inr ⟨by rfl, rfl⟩) (by assumption) ?_
  try simp only [Act.put, List.getElem_toArray, List.getElem_cons_succ, List.getElem_cons_zero, List.setIfInBounds_toArray, List.set_cons_zero, List.set_cons_succ]
  refine wpAnyH_take (i := 6) (v := undef) rfl (by kernel_rfl) (by kernel_rfl) (by kernel_rfl) (by intro _ _ _ h; exact h) (Or.inr ⟨by rfl, rfl⟩) (by assumption) ?_
  try simp only [Act.put, List.getElem_toArray, List.getElem_cons_succ, List.getElem_cons_zero, List.setIfInBounds_toArray, List.set_cons_zero, List.set_cons_succ]
  refine wpAnyH_take (i := 7) (v := undef) rfl (by kernel_rfl) (by kernel_rfl) (by kernel_rfl) (by intro _ _ _ h; exact h) (Or.inr ⟨by rfl, rfl⟩) (by assumption) ?_
  try simp only [Act.put, List.getElem_toArray, List.getElem_cons_succ, List.getElem_cons_zero, List.setIfInBounds_toArray, List.set_cons_zero, List.set_cons_succ]
  refine wpAnyH_take (i := 8) (v := undef) rfl (by kernel_rfl) (by kernel_rfl) (by kernel_rfl) (by intro _ _ _ h; exact h) (Or.inr ⟨by rfl, rfl⟩) (by assumption) ?_
  try simp only [Act.put, List.getElem_toArray, List.getElem_cons_succ, List.getElem_cons_zero, List.setIfInBounds_toArray, List.set_cons_zero, List.set_cons_succ]
  refine wpAnyH_take (i := 9) (v := ?v9) rfl (by kernel_rfl) (by kernel_rfl) (by kernel_rfl) (by intro _ _ _ h; exact h) (Or.inl ⟨by rfl, ?hy9⟩) (by assumption) ?rest9
  case hy9 => (intro w hSw; (try dsimp only at hSw); go_simp; try with_reducible rfl)
  try simp only [Act.put, List.getElem_toArray, List.getElem_cons_succ, List.getElem_cons_zero, List.setIfInBounds_toArray, List.set_cons_zero, List.set_cons_succ]
  refine wpAnyH_take (i := 10) (v := ?v10) rfl (by kernel_rfl) (by kernel_rfl) (by kernel_rfl) (by intro _ _ _ h; exact h) (Or.inl ⟨by rfl, ?hy10⟩) (by assumption) ?rest10
  case hy10 => (intro w hSw; (try dsimp only at hSw); go_simp; try with_reducible rfl)
  try simp only [Act.put, List.getElem_toArray, List.getElem_cons_succ, List.getElem_cons_zero, List.setIfInBounds_toArray, List.set_cons_zero, List.set_cons_succ]
  refine wpAnyH_done (by kernel_rfl) ?_ _
  go_wp2_with fail
  go_ret
  exact ⟨rfl, btr b0 (And.left (by with_reducible assumption)) b0.size⟩
/-- Where the prefix is right: held against the right prefix of the number. -/
theorem ref02Holds_yes (a : Nat) (ha : a < 4294967296) (k : Nat) (hk : k ≤ 32) (x : Nat) (hx : x < 4294967296) (w : World) (hr : pRight a (k : Int) = true) :
    Calls Tryd.prog 38 #[.agg #[.int .u32 a, .int .i64 k], .int .u32 x] w fun en w' => en = .returned (.bool (pHolds a (k : Int) x)) ∧ Below w.heap.size w w' := by
  obtain ⟨N, hN⟩ : ∃ N, normN x (k : Int) = N := ⟨_, rfl⟩
  have HN := Lib.hid hN
  have HC := Lib.hid (cl_nat hk)
  have HR := Lib.hid hr
  have key : ∀ (v : Bool) (hv : ((N : Int) == a) = v) (e : pHolds a (k : Int) x = v), Calls Tryd.prog 38 #[.agg #[.int .u32 a, .int .i64 k], .int .u32 x] w fun en w' => en = .returned (.bool v) ∧ Below w.heap.size w w' := by
    intro v hv e
    clear e hN hr
    have hB := Blk.new w 24 #[.int .u32 a, .int .i64 k]
    have c0 := hB.cell 0
    have c1 := hB.cell 1
    have hgl := hB.lt
    have b0 := (Below.refl w.heap.size w).alloc (Nat.le_refl _) (.cells #[.int .u32 a, .int .i64 k] 24)
    obtain ⟨W, hW⟩ : ∃ W, w.alloc (.cells #[.int .u32 a, .int .i64 k] 24) = W := ⟨_, rfl⟩
    rw [hW] at c0 c1 hgl b0 hB
    have e2 : ((k : Int) == (k : Int)) = true := beq_self_eq_true _
    cases v
    · go_enter Tryd.func38, Tryd.ntmps38
      go_wp2_with fail
      try rw [hW]
      clear hW
      go_region_held3 (fun w' => Below W.heap.size W w' ∧ w'.cell? ⟨w.heap.size, 0, none⟩ = some (.int .u32 a) ∧ w'.cell? ⟨w.heap.size, 1, none⟩ = some (.int .i64 k))
        (first | (refine keep2c hgl b2 ?_; assumption) | (refine keep2c hgl b1 ?_; assumption) | ((repeat' apply And.intro) <;> first | (with_reducible exact Below.drew (Below.refl _ _)) | go_keep))
        (first
          | (go_at_call 36; refine (refRight a ha k _).mono ?_; rw [HR.out]; rintro _ w1 ⟨rfl, b1⟩)
          | (go_at_call 35; refine (refNorm x hx k _).mono ?_; rw [HN.out, HC.out]; rintro _ w2 ⟨rfl, b2⟩))
      all_goals
        have hbf := And.left (by with_reducible assumption : Below W.heap.size W w2 ∧ _)
        try go_wp2_with fail
        go_ret
        exact ⟨rfl, btr b0 hbf b0.size⟩
    · have hNa : N = a := by
        have : (N : Int) = a := by simpa using hv
        omega
      subst hNa
      clear hv
      go_enter Tryd.func38, Tryd.ntmps38
      go_wp2_with fail
      try rw [hW]
      clear hW
      go_region_held3 (fun w' => Below W.heap.size W w' ∧ w'.cell? ⟨w.heap.size, 0, none⟩ = some (.int .u32 N) ∧ w'.cell? ⟨w.heap.size, 1, none⟩ = some (.int .i64 k))
        (first | (refine keep2c hgl b2 ?_; assumption) | (refine keep2c hgl b1 ?_; assumption) | ((repeat' apply And.intro) <;> first | (with_reducible exact Below.drew (Below.refl _ _)) | go_keep))
        (first
          | (go_at_call 36; refine (refRight N ha k _).mono ?_; rw [HR.out]; rintro _ w1 ⟨rfl, b1⟩)
          | (go_at_call 35; refine (refNorm x hx k _).mono ?_; rw [HN.out, HC.out]; rintro _ w2 ⟨rfl, b2⟩))
      all_goals
        have hbf := And.left (by with_reducible assumption : Below W.heap.size W w2 ∧ _)
        try go_wp2_with fail
        go_ret
        exact ⟨rfl, btr b0 hbf b0.size⟩
  by_cases h : N = a
  · have e := held_no hr (hN.trans h)
    rw [e]
    exact key true (by rw [h]; exact beq_self_eq_true _) e
  · have e : pHolds a (k : Int) x = false := by unfold pHolds; rw [hN, decide_eq_false h]; simp
    rw [e]
    exact key false (beq_eq_false_iff_ne.2 (by omega)) e
theorem ref02Holds (a : Nat) (ha : a < 4294967296) (n : Int) (x : Nat) (hx : x < 4294967296) (w : World) :
    Calls Tryd.prog 38 #[.agg #[.int .u32 a, .int .i64 n], .int .u32 x] w fun en w' => en = .returned (.bool (pHolds a n x)) ∧ Below w.heap.size w w' := by
  cases hr : pRight a n
  · have e : pHolds a n x = false := by unfold pHolds; rw [hr]; rfl
    rw [e]
    exact ref02Holds_no a ha n x w hr
  · obtain ⟨k, rfl, hk, _⟩ := pRight_of hr
    exact ref02Holds_yes a ha k hk x hx w hr
set_option maxHeartbeats 1000000 in
set_option maxRecDepth 100000 in
theorem ref02Covers (a : Nat) (ha : a < 4294967296) (n : Int) (b : Nat) (hb : b < 4294967296) (m : Int) (w : World) :
    Calls Tryd.prog 39 #[.agg #[.int .u32 a, .int .i64 n], .agg #[.int .u32 b, .int .i64 m]] w fun en w' => en = .returned (.bool (pCovers a n b m)) ∧ Below w.heap.size w w' := by
  obtain ⟨W, hW, hP, hQ, b0⟩ := box2 w (.int .u32 a) (.int .i64 n) (.int .u32 b) (.int .i64 m)
  have c0 := hP.cell 0
  have c1 := hP.cell 1
  have d0 := hQ.cell 0
  have d1 := hQ.cell 1
  go_enter Tryd.func39, Tryd.ntmps39
  go_wp2_with fail
  try rw [hW]
  clear hW
  refine (refRight b hb m _).mono ?_
  rintro _ w1 ⟨rfl, b1⟩
  have hP1 := hP.below b1 hP.lt
  have hQ1 := hQ.below b1 hQ.lt
  have x0 := hP1.cell 0
  have x1 := hP1.cell 1
  have y0 := hQ1.cell 0
  have y1 := hQ1.cell 1
  have b01 := btr b0 b1 b0.size
  clear c0 c1 d0 d1 hP hQ
  cases hr : pRight b m
  · have e : pCovers a n b m = false := by unfold pCovers; rw [hr]; rfl
    go_wp2_with fail
    go_ret
    exact ⟨ret_b e.symm, b01⟩
  · by_cases hnm : n ≤ m
    · have e : pCovers a n b m = pHolds a n b := by unfold pCovers; rw [hr, decide_eq_true hnm]; rfl
      go_wp2_with fail
      refine (ref02Holds a ha n b hb _).mono ?_
      rintro _ w2 ⟨rfl, b2⟩
      go_wp2_with fail
      go_ret
      exact ⟨ret_b e.symm, btr b01 b2 b01.size⟩
    · have e : pCovers a n b m = false := by unfold pCovers; rw [decide_eq_false hnm]; simp
      have hd : decide (n ≤ m) = false := decide_eq_false hnm
      go_wp2_with fail
      go_ret
      exact ⟨ret_b e.symm, b01⟩
end Go.Proofs.YtnhkpnohadbcdaaDoor
