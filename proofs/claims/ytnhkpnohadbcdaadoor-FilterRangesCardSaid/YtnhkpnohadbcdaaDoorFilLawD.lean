/- The walk of the law FilterRanges. Conditions: the table of digits (DigTab). -/
import Derived.Test.YtnhkpnohadbcdaaDoorProg
import Derived.WalkKit
import Derived.WalkSpells
import Derived.WalkLawsBesides
import Derived.Outline
import Derived.Deep.QuietTactic
import Derived.BigQuiet
import Derived.Handy
import Derived.Lib.Hide
import Derived.Test.YtnhkpnohadbcdaaDoorFilLawA
import Derived.Test.YtnhkpnohadbcdaaDoorFilI
namespace Go.Proofs.YtnhkpnohadbcdaaDoor
open Go.RowKit
set_option linter.unusedSimpArgs false
set_option maxHeartbeats 2000000 in
set_option maxRecDepth 100000 in
theorem lawFilterRanges (w : World) (a : Nat) (n lo hi : Int) (ha : a < 4294967296) (A : Option Addr) (m c : Nat) (ms : List Rg) (h : RR w A m ms) (_ : m ≤ c) (_ : c ≤ maxLen) (b : Nat) (k : Int) (hb : b < 4294967296) (_ : (Lit.int .i64 k).wf = true) (ht : DigTab w) :
    Calls Tryd.prog 12 #[.agg #[.int .u32 a, .int .i64 n, .int .i64 lo, .int .i64 hi], .slice A m c, .agg #[.int .u32 b, .int .i64 k]] w fun en w' => en = .returned (.bool true) ∧ Below w.heap.size w w' := by
  obtain ⟨W, hW, hX, hP, b0⟩ := box2c w #[.int .u32 a, .int .i64 n, .int .i64 lo, .int .i64 hi] #[.int .u32 b, .int .i64 k] 47 24
  by_cases hl : 80 < m
  · have e1 : decide (80 < (m : Int)) = true := decide_eq_true (by omega)
    go_enter Tryd.func12, Tryd.ntmps12
    go_wp2_with fail
    try rw [hW]
    refine (awake12 _ (ht.call b0)).mono ?_
    rintro _ w1 ⟨rfl, b1⟩
    have b01 := btr b0 b1 b0.size
    go_wp2_with fail
    go_ret
    exact ⟨rfl, b01⟩
  have e1 : decide (80 < (m : Int)) = false := decide_eq_false (by omega)
  obtain ⟨r1, hr1⟩ : ∃ r, rgRight a n lo hi = r := ⟨_, rfl⟩
  obtain ⟨r2, hr2⟩ : ∃ r, rgIn a n lo hi b k = r := ⟨_, rfl⟩
  obtain ⟨r3, hr3⟩ : ∃ r, rgAny ms b k = r := ⟨_, rfl⟩
  have K1 := Lib.hid (fun v => filterRight a ha n lo hi v)
  have K2 := Lib.hid (fun v => ref12Right a ha n lo hi v)
  have K3 := Lib.hid (fun v => filterIn a ha n lo hi b hb k v)
  have K4 := Lib.hid (fun v => ref12In a ha n lo hi b hb k v)
  have K5 := Lib.hid (fun v (hv : RR v A m ms) => filterAny A m c ms b hb k v hv (by omega))
  have K6 := Lib.hid (fun v (hv : RR v A m ms) => ref12Any A m c ms b hb k v hv (by omega))
  rw [hr1] at K1 K2
  rw [hr2] at K3 K4
  rw [hr3] at K5 K6
  clear hr1 hr2 hr3
  have hxl := hX.lt
  have hpl := hP.lt
  go_enter Tryd.func12, Tryd.ntmps12
  go_upto_region 3 with fail
  try rw [hW]
  clear hW
  have c_hX0 := hX.cell 0
  have c_hX1 := hX.cell 1
  have c_hX2 := hX.cell 2
  have c_hX3 := hX.cell 3
  have c_hP0 := hP.cell 0
  have c_hP1 := hP.cell 1
  refine wp_region_held_drew (S := (fun w' => Below W.heap.size W w' ∧ ∀ b o, b < W.heap.size → w'.cell? ⟨b, o, none⟩ = W.cell? ⟨b, o, none⟩)) (by kernel_rfl) ?_ (fun hHeld => ?_)
  · (first | exact heldB_keep b7 hHeld | exact heldB_keep b6 hHeld | exact heldB_keep b5 hHeld | exact heldB_keep b4 hHeld | exact heldB_keep b3 hHeld | exact heldB_keep b2 hHeld | exact heldB_keep b1 hHeld | exact heldB_refl _)
  refine wpAnyH_take (i := 0) (v := ?q1v0) rfl (by kernel_rfl) (by kernel_rfl) (by kernel_rfl) (by intro _ _ _ h; exact h) (Or.inl ⟨by rfl, ?q1hy0⟩) (by assumption) ?q1rest0
  case q1hy0 => (intro w hSw; (try dsimp only at hSw); go_simp; try with_reducible rfl)
  try simp only [Act.put, List.getElem_toArray, List.getElem_cons_succ, List.getElem_cons_zero, List.setIfInBounds_toArray, List.set_cons_zero, List.set_cons_succ]
  refine wpAnyH_take (i := 2) (v := ?q1v2) rfl (by kernel_rfl) (by kernel_rfl) (by kernel_rfl) (by intro _ _ _ h; exact h) (Or.inl ⟨by rfl, ?q1hy2⟩) (by assumption) ?q1rest2
  case q1hy2 => (intro w hSw; (try dsimp only at hSw); go_simp; try with_reducible rfl)
  try simp only [Act.put, List.getElem_toArray, List.getElem_cons_succ, List.getElem_cons_zero, List.setIfInBounds_toArray, List.set_cons_zero, List.set_cons_succ]
  refine wpAnyH_ready (rs := [1]) (by kernel_rfl) (by simp) ?_
  refine AllReadyH.cons rfl (fun K hK => ?_) AllReadyH.nil
  go_simp
  go_wp2_with (go_at_call 60; refine (K1.out _).mono ?_; rintro _ w1 ⟨rfl, b1⟩)
  refine hK.out _ _ ?_ (fun hHeld => ?_)
  · try dsimp only
    (first | exact heldB_keep b7 hHeld | exact heldB_keep b6 hHeld | exact heldB_keep b5 hHeld | exact heldB_keep b4 hHeld | exact heldB_keep b3 hHeld | exact heldB_keep b2 hHeld | exact heldB_keep b1 hHeld | exact heldB_refl _)
  clear hK K
  refine wpAnyH_ready (rs := [3]) (by kernel_rfl) (by simp) ?_
  refine AllReadyH.cons rfl (fun K hK => ?_) AllReadyH.nil
  go_simp
  go_wp2_with (go_at_call 52; refine (K2.out _).mono ?_; rintro _ w2 ⟨rfl, b2⟩)
  refine hK.out _ _ ?_ (fun hHeld => ?_)
  · try dsimp only
    (first | exact heldB_keep b7 hHeld | exact heldB_keep b6 hHeld | exact heldB_keep b5 hHeld | exact heldB_keep b4 hHeld | exact heldB_keep b3 hHeld | exact heldB_keep b2 hHeld | exact heldB_keep b1 hHeld | exact heldB_refl _)
  clear hK K
  refine wpAnyH_take (i := 4) (v := ?q1v4) rfl (by kernel_rfl) (by kernel_rfl) (by kernel_rfl) (by intro _ _ _ h; exact h) (Or.inl ⟨by rfl, ?q1hy4⟩) (by assumption) ?q1rest4
  case q1hy4 => (intro w hSw; (try dsimp only at hSw); go_simp; try with_reducible rfl)
  try simp only [Act.put, List.getElem_toArray, List.getElem_cons_succ, List.getElem_cons_zero, List.setIfInBounds_toArray, List.set_cons_zero, List.set_cons_succ]
  refine wpAnyH_take (i := 5) (v := ?q1v5) rfl (by kernel_rfl) (by kernel_rfl) (by kernel_rfl) (by intro _ _ _ h; exact h) (Or.inl ⟨by rfl, ?q1hy5⟩) (by assumption) ?q1rest5
  case q1hy5 => (intro w hSw; (try dsimp only at hSw); go_simp; try with_reducible rfl)
  try simp only [Act.put, List.getElem_toArray, List.getElem_cons_succ, List.getElem_cons_zero, List.setIfInBounds_toArray, List.set_cons_zero, List.set_cons_succ]
  refine wpAnyH_take (i := 6) (v := ?q1v6) rfl (by kernel_rfl) (by kernel_rfl) (by kernel_rfl) (by intro _ _ _ h; exact h) (Or.inl ⟨by rfl, ?q1hy6⟩) (by assumption) ?q1rest6
  case q1hy6 => (intro w hSw; (try dsimp only at hSw); go_simp; try with_reducible rfl)
  try simp only [Act.put, List.getElem_toArray, List.getElem_cons_succ, List.getElem_cons_zero, List.setIfInBounds_toArray, List.set_cons_zero, List.set_cons_succ]
  refine wpAnyH_take (i := 7) (v := ?q1v7) rfl (by kernel_rfl) (by kernel_rfl) (by kernel_rfl) (by intro _ _ _ h; exact h) (Or.inl ⟨by rfl, ?q1hy7⟩) (by assumption) ?q1rest7
  case q1hy7 => (intro w hSw; (try dsimp only at hSw); go_simp; try with_reducible rfl)
  try simp only [Act.put, List.getElem_toArray, List.getElem_cons_succ, List.getElem_cons_zero, List.setIfInBounds_toArray, List.set_cons_zero, List.set_cons_succ]
  refine wpAnyH_take (i := 9) (v := ?q1v9) rfl (by kernel_rfl) (by kernel_rfl) (by kernel_rfl) (by intro _ _ _ h; exact h) (Or.inl ⟨by rfl, ?q1hy9⟩) (by assumption) ?q1rest9
  case q1hy9 => (intro w hSw; (try dsimp only at hSw); go_simp; try with_reducible rfl)
  try simp only [Act.put, List.getElem_toArray, List.getElem_cons_succ, List.getElem_cons_zero, List.setIfInBounds_toArray, List.set_cons_zero, List.set_cons_succ]
  refine wpAnyH_take (i := 10) (v := ?q1v10) rfl (by kernel_rfl) (by kernel_rfl) (by kernel_rfl) (by intro _ _ _ h; exact h) (Or.inl ⟨by rfl, ?q1hy10⟩) (by assumption) ?q1rest10
  case q1hy10 => (intro w hSw; (try dsimp only at hSw); go_simp; try with_reducible rfl)
  try simp only [Act.put, List.getElem_toArray, List.getElem_cons_succ, List.getElem_cons_zero, List.setIfInBounds_toArray, List.set_cons_zero, List.set_cons_succ]
  refine wpAnyH_ready (rs := [8]) (by kernel_rfl) (by simp) ?_
  refine AllReadyH.cons rfl (fun K hK => ?_) AllReadyH.nil
  go_simp
  go_wp2_with (go_at_call 53; refine (K3.out _).mono ?_; rintro _ w3 ⟨rfl, b3⟩)
  refine hK.out _ _ ?_ (fun hHeld => ?_)
  · try dsimp only
    (first | exact heldB_keep b7 hHeld | exact heldB_keep b6 hHeld | exact heldB_keep b5 hHeld | exact heldB_keep b4 hHeld | exact heldB_keep b3 hHeld | exact heldB_keep b2 hHeld | exact heldB_keep b1 hHeld | exact heldB_refl _)
  clear hK K
  refine wpAnyH_ready (rs := [11]) (by kernel_rfl) (by simp) ?_
  refine AllReadyH.cons rfl (fun K hK => ?_) AllReadyH.nil
  go_simp
  go_wp2_with (go_at_call 61; refine (K4.out _).mono ?_; rintro _ w4 ⟨rfl, b4⟩)
  refine hK.out _ _ ?_ (fun hHeld => ?_)
  · try dsimp only
    (first | exact heldB_keep b7 hHeld | exact heldB_keep b6 hHeld | exact heldB_keep b5 hHeld | exact heldB_keep b4 hHeld | exact heldB_keep b3 hHeld | exact heldB_keep b2 hHeld | exact heldB_keep b1 hHeld | exact heldB_refl _)
  clear hK K
  refine wpAnyH_take (i := 12) (v := ?q1v12) rfl (by kernel_rfl) (by kernel_rfl) (by kernel_rfl) (by intro _ _ _ h; exact h) (Or.inl ⟨by rfl, ?q1hy12⟩) (by assumption) ?q1rest12
  case q1hy12 => (intro w hSw; (try dsimp only at hSw); go_simp; try with_reducible rfl)
  try simp only [Act.put, List.getElem_toArray, List.getElem_cons_succ, List.getElem_cons_zero, List.setIfInBounds_toArray, List.set_cons_zero, List.set_cons_succ]
  refine wpAnyH_take (i := 13) (v := ?q1v13) rfl (by kernel_rfl) (by kernel_rfl) (by kernel_rfl) (by intro _ _ _ h; exact h) (Or.inl ⟨by rfl, ?q1hy13⟩) (by assumption) ?q1rest13
  case q1hy13 => (intro w hSw; (try dsimp only at hSw); go_simp; try with_reducible rfl)
  try simp only [Act.put, List.getElem_toArray, List.getElem_cons_succ, List.getElem_cons_zero, List.setIfInBounds_toArray, List.set_cons_zero, List.set_cons_succ]
  refine wpAnyH_take (i := 14) (v := ?q1v14) rfl (by kernel_rfl) (by kernel_rfl) (by kernel_rfl) (by intro _ _ _ h; exact h) (Or.inl ⟨by rfl, ?q1hy14⟩) (by assumption) ?q1rest14
  case q1hy14 => (intro w hSw; (try dsimp only at hSw); go_simp; try with_reducible rfl)
  try simp only [Act.put, List.getElem_toArray, List.getElem_cons_succ, List.getElem_cons_zero, List.setIfInBounds_toArray, List.set_cons_zero, List.set_cons_succ]
  refine wpAnyH_take (i := 15) (v := ?q1v15) rfl (by kernel_rfl) (by kernel_rfl) (by kernel_rfl) (by intro _ _ _ h; exact h) (Or.inl ⟨by rfl, ?q1hy15⟩) (by assumption) ?q1rest15
  case q1hy15 => (intro w hSw; (try dsimp only at hSw); go_simp; try with_reducible rfl)
  try simp only [Act.put, List.getElem_toArray, List.getElem_cons_succ, List.getElem_cons_zero, List.setIfInBounds_toArray, List.set_cons_zero, List.set_cons_succ]
  refine wpAnyH_take (i := 16) (v := ?q1v16) rfl (by kernel_rfl) (by kernel_rfl) (by kernel_rfl) (by intro _ _ _ h; exact h) (Or.inl ⟨by rfl, ?q1hy16⟩) (by assumption) ?q1rest16
  case q1hy16 => (intro w hSw; (try dsimp only at hSw); go_simp; try with_reducible rfl)
  try simp only [Act.put, List.getElem_toArray, List.getElem_cons_succ, List.getElem_cons_zero, List.setIfInBounds_toArray, List.set_cons_zero, List.set_cons_succ]
  refine wpAnyH_take (i := 18) (v := ?q1v18) rfl (by kernel_rfl) (by kernel_rfl) (by kernel_rfl) (by intro _ _ _ h; exact h) (Or.inl ⟨by rfl, ?q1hy18⟩) (by assumption) ?q1rest18
  case q1hy18 => (intro w hSw; (try dsimp only at hSw); go_simp; try with_reducible rfl)
  try simp only [Act.put, List.getElem_toArray, List.getElem_cons_succ, List.getElem_cons_zero, List.setIfInBounds_toArray, List.set_cons_zero, List.set_cons_succ]
  refine wpAnyH_take (i := 19) (v := ?q1v19) rfl (by kernel_rfl) (by kernel_rfl) (by kernel_rfl) (by intro _ _ _ h; exact h) (Or.inl ⟨by rfl, ?q1hy19⟩) (by assumption) ?q1rest19
  case q1hy19 => (intro w hSw; (try dsimp only at hSw); go_simp; try with_reducible rfl)
  try simp only [Act.put, List.getElem_toArray, List.getElem_cons_succ, List.getElem_cons_zero, List.setIfInBounds_toArray, List.set_cons_zero, List.set_cons_succ]
  refine wpAnyH_ready (rs := [17]) (by kernel_rfl) (by simp) ?_
  refine AllReadyH.cons rfl (fun K hK => ?_) AllReadyH.nil
  go_simp
  go_wp2_with (go_at_call 62; refine (K5.out _ (h.below (btr b0 hHeld.1 b0.size))).mono ?_; rintro _ w5 ⟨rfl, b5⟩)
  refine hK.out _ _ ?_ (fun hHeld => ?_)
  · try dsimp only
    (first | exact heldB_keep b7 hHeld | exact heldB_keep b6 hHeld | exact heldB_keep b5 hHeld | exact heldB_keep b4 hHeld | exact heldB_keep b3 hHeld | exact heldB_keep b2 hHeld | exact heldB_keep b1 hHeld | exact heldB_refl _)
  clear hK K
  refine wpAnyH_ready (rs := [20]) (by kernel_rfl) (by simp) ?_
  refine AllReadyH.cons rfl (fun K hK => ?_) AllReadyH.nil
  go_simp
  go_wp2_with (go_at_call 63; refine (K6.out _ (h.below (btr b0 hHeld.1 b0.size))).mono ?_; rintro _ w6 ⟨rfl, b6⟩)
  refine hK.out _ _ ?_ (fun hHeld => ?_)
  · try dsimp only
    (first | exact heldB_keep b7 hHeld | exact heldB_keep b6 hHeld | exact heldB_keep b5 hHeld | exact heldB_keep b4 hHeld | exact heldB_keep b3 hHeld | exact heldB_keep b2 hHeld | exact heldB_keep b1 hHeld | exact heldB_refl _)
  clear hK K
  refine wpAnyH_take (i := 21) (v := ?q1v21) rfl (by kernel_rfl) (by kernel_rfl) (by kernel_rfl) (by intro _ _ _ h; exact h) (Or.inl ⟨by rfl, ?q1hy21⟩) (by assumption) ?q1rest21
  case q1hy21 => (intro w hSw; (try dsimp only at hSw); go_simp; try with_reducible rfl)
  try simp only [Act.put, List.getElem_toArray, List.getElem_cons_succ, List.getElem_cons_zero, List.setIfInBounds_toArray, List.set_cons_zero, List.set_cons_succ]
  refine wpAnyH_take (i := 22) (v := ?q1v22) rfl (by kernel_rfl) (by kernel_rfl) (by kernel_rfl) (by intro _ _ _ h; exact h) (Or.inl ⟨by rfl, ?q1hy22⟩) (by assumption) ?q1rest22
  case q1hy22 => (intro w hSw; (try dsimp only at hSw); go_simp; try with_reducible rfl)
  try simp only [Act.put, List.getElem_toArray, List.getElem_cons_succ, List.getElem_cons_zero, List.setIfInBounds_toArray, List.set_cons_zero, List.set_cons_succ]
  refine wpAnyH_take (i := 23) (v := ?q1v23) rfl (by kernel_rfl) (by kernel_rfl) (by kernel_rfl) (by intro _ _ _ h; exact h) (Or.inl ⟨by rfl, ?q1hy23⟩) (by assumption) ?q1rest23
  case q1hy23 => (intro w hSw; (try dsimp only at hSw); go_simp; try with_reducible rfl)
  try simp only [Act.put, List.getElem_toArray, List.getElem_cons_succ, List.getElem_cons_zero, List.setIfInBounds_toArray, List.set_cons_zero, List.set_cons_succ]
  refine wpAnyH_ready (rs := [24]) (by kernel_rfl) (by simp) ?_
  refine AllReadyH.cons rfl (fun K hK => ?_) AllReadyH.nil
  go_simp
  go_wp2_with (go_at_call 43; refine (awake12 _ (ht.call (btr b0 hHeld.1 b0.size))).mono ?_; rintro _ w7 ⟨rfl, b7⟩)
  refine hK.out _ _ ?_ (fun hHeld => ?_)
  · try dsimp only
    (first | exact heldB_keep b7 hHeld | exact heldB_keep b6 hHeld | exact heldB_keep b5 hHeld | exact heldB_keep b4 hHeld | exact heldB_keep b3 hHeld | exact heldB_keep b2 hHeld | exact heldB_keep b1 hHeld | exact heldB_refl _)
  clear hK K
  refine wpAnyH_take (i := 25) (v := ?q1v25) rfl (by kernel_rfl) (by kernel_rfl) (by kernel_rfl) (by intro _ _ _ h; exact h) (Or.inl ⟨by rfl, ?q1hy25⟩) (by assumption) ?q1rest25
  case q1hy25 => (intro w hSw; (try dsimp only at hSw); go_simp; try with_reducible rfl)
  try simp only [Act.put, List.getElem_toArray, List.getElem_cons_succ, List.getElem_cons_zero, List.setIfInBounds_toArray, List.set_cons_zero, List.set_cons_succ]
  refine wpAnyH_take (i := 26) (v := ?q1v26) rfl (by kernel_rfl) (by kernel_rfl) (by kernel_rfl) (by intro _ _ _ h; exact h) (Or.inl ⟨by rfl, ?q1hy26⟩) (by assumption) ?q1rest26
  case q1hy26 => (intro w hSw; (try dsimp only at hSw); go_simp; try with_reducible rfl)
  try simp only [Act.put, List.getElem_toArray, List.getElem_cons_succ, List.getElem_cons_zero, List.setIfInBounds_toArray, List.set_cons_zero, List.set_cons_succ]
  refine wpAnyH_done (by kernel_rfl) ?_ _
  have bh7 := hHeld.1
  clear hHeld
  clear c_hX0 c_hX1 c_hX2 c_hX3 c_hP0 c_hP1
  have b0h7 := btr b0 bh7 b0.size
  have hX_h7 := hX.below bh7 hX.lt
  have hP_h7 := hP.below bh7 hP.lt
  have c_hX0 := hX_h7.cell 0
  have c_hX1 := hX_h7.cell 1
  have c_hX2 := hX_h7.cell 2
  have c_hX3 := hX_h7.cell 3
  have c_hP0 := hP_h7.cell 0
  have c_hP1 := hP_h7.cell 1
  go_wp2_with fail
  go_ret
  exact ⟨rfl, b0h7⟩
end Go.Proofs.YtnhkpnohadbcdaaDoor
