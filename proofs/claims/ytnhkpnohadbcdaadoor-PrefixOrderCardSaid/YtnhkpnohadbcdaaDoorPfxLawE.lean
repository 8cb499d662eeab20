/- The walk of the law PrefixOrder. Conditions: the table of digits (DigTab). -/
import Derived.Test.YtnhkpnohadbcdaaDoorProg
import Derived.WalkKit
import Derived.WalkSpells
import Derived.WalkLawsBesides
import Derived.Outline
import Derived.Deep.QuietTactic
import Derived.BigQuiet
import Derived.Handy
import Derived.Lib.Hide
import Derived.Deep.RegionHeld
import Derived.Deep.RegionHeld3
import Derived.Test.YtnhkpnohadbcdaaDoorPfxPut
import Derived.Test.YtnhkpnohadbcdaaDoorPfxU
namespace Go.Proofs.YtnhkpnohadbcdaaDoor
open Go.RowKit
theorem cmp_tri (a : Nat) (n : Int) (b : Nat) (m : Int) : (pCmp a n b m = 1 ∧ pCmp b m a n = -1 ∧ ¬ (a = b ∧ n = m)) ∨ (pCmp a n b m = -1 ∧ pCmp b m a n = 1 ∧ ¬ (a = b ∧ n = m)) ∨ (pCmp a n b m = 0 ∧ pCmp b m a n = 0 ∧ a = b ∧ n = m) := by
  unfold pCmp; repeat' split
  all_goals omega
theorem cmp_trans {a : Nat} {n : Int} {b : Nat} {m : Int} {c : Nat} {k : Int} (h1 : pCmp a n b m ≤ 0) (h2 : pCmp b m c k ≤ 0) : pCmp a n c k ≤ 0 := by
  revert h1 h2; unfold pCmp; repeat' split
  all_goals omega
theorem covers_refl (a : Nat) (n : Int) : pCovers a n a n = pRight a n := by
  unfold pCovers pHolds
  cases h : pRight a n
  · rfl
  · obtain ⟨k, rfl, _, e⟩ := pRight_of h
    simp [e]
theorem covers_of {a : Nat} {n : Int} {b : Nat} {m : Int} (h : pCovers a n b m = true) : pRight b m = true ∧ pRight a n = true ∧ n ≤ m ∧ normN b n = a := by
  unfold pCovers pHolds at h
  simp only [Bool.and_eq_true, decide_eq_true_eq] at h
  exact ⟨h.1.1, h.2.1, h.1.2, h.2.2⟩
theorem covers_mk {a : Nat} {n : Int} {b : Nat} {m : Int} (h : pRight b m = true ∧ pRight a n = true ∧ n ≤ m ∧ normN b n = a) : pCovers a n b m = true := by
  unfold pCovers pHolds
  simp [h.1, h.2.1, h.2.2.1, h.2.2.2]
theorem covers_trans {a : Nat} {n : Int} {b : Nat} {m : Int} {c : Nat} {k : Int} (h1 : pCovers a n b m = true) (h2 : pCovers b m c k = true) : pCovers a n c k = true := by
  have h1 := covers_of h1
  have h2 := covers_of h2
  refine covers_mk ⟨h2.1, h1.2.1, by omega, ?_⟩
  obtain ⟨x, rfl, hx, _⟩ := pRight_of h1.2.1
  obtain ⟨y, rfl, hy, _⟩ := pRight_of h1.1
  rw [← h1.2.2.2, ← h2.2.2.2, normN_norm]
  rw [cl_nat hx, cl_nat hy]; omega
theorem covers_anti {a : Nat} {n : Int} {b : Nat} {m : Int} (h1 : pCovers a n b m = true) (h2 : pCovers b m a n = true) : a = b ∧ n = m := by
  have h1 := covers_of h1
  have h2 := covers_of h2
  have e : n = m := by omega
  subst e
  obtain ⟨x, rfl, hx, e⟩ := pRight_of h1.1
  exact ⟨h1.2.2.2.symm.trans e, rfl⟩
theorem covers_cmp {a : Nat} {n : Int} {b : Nat} {m : Int} (h1 : pCovers a n b m = true) : pCmp a n b m ≤ 0 := by
  have h1 := covers_of h1
  have := normN_le b n
  unfold pCmp; repeat' split
  all_goals omega
theorem keep33 {w W W' : World} {g : Nat} {x y u v r s : Value} (hg : g + 1 + 1 < w.heap.size) (hb : Below W.heap.size W W') (h : Below w.heap.size w W ∧ W.cell? ⟨g, 0, none⟩ = some x ∧ W.cell? ⟨g, 1, none⟩ = some y ∧ W.cell? ⟨g + 1, 0, none⟩ = some u ∧ W.cell? ⟨g + 1, 1, none⟩ = some v ∧ W.cell? ⟨g + 1 + 1, 0, none⟩ = some r ∧ W.cell? ⟨g + 1 + 1, 1, none⟩ = some s) :
    Below w.heap.size w W' ∧ W'.cell? ⟨g, 0, none⟩ = some x ∧ W'.cell? ⟨g, 1, none⟩ = some y ∧ W'.cell? ⟨g + 1, 0, none⟩ = some u ∧ W'.cell? ⟨g + 1, 1, none⟩ = some v ∧ W'.cell? ⟨g + 1 + 1, 0, none⟩ = some r ∧ W'.cell? ⟨g + 1 + 1, 1, none⟩ = some s :=
  have hs := h.1.size
  ⟨btr h.1 hb hs, (hb.cell (show g < _ by omega)).trans h.2.1, (hb.cell (show g < _ by omega)).trans h.2.2.1, (hb.cell (show g + 1 < _ by omega)).trans h.2.2.2.1, (hb.cell (show g + 1 < _ by omega)).trans h.2.2.2.2.1, (hb.cell (show g + 1 + 1 < _ by omega)).trans h.2.2.2.2.2.1, (hb.cell (show g + 1 + 1 < _ by omega)).trans h.2.2.2.2.2.2⟩
set_option maxHeartbeats 16000000 in
set_option maxRecDepth 100000 in
set_option linter.unusedSimpArgs false in
theorem prefixOrder_gt (w : World) (a : Nat) (n : Int) (ha : a < 4294967296) (b : Nat) (hb : b < 4294967296) (m : Int) (c : Nat) (k : Int) (_ : c < 4294967296) (ht : DigTab w)
    (h1 : pCmp a n b m = 1) (h1r : pCmp b m a n = -1) (hne : ¬ (a = b ∧ n = m))
    (_ : True) :
    Calls Tryd.prog 5 #[.agg #[.int .u32 a, .int .i64 n], .agg #[.int .u32 b, .int .i64 m], .agg #[.int .u32 c, .int .i64 k]] w fun en w' => en = .returned (.bool true) ∧ Below w.heap.size w w' := by
  obtain ⟨P, hP⟩ : ∃ P, pCmp b m c k = P := ⟨_, rfl⟩
  obtain ⟨Q, hQ⟩ : ∃ Q, pCmp a n c k = Q := ⟨_, rfl⟩
  have hwr : IntKind.i64.wrap 1 = 1 := by decide
  obtain ⟨R, hR⟩ : ∃ R, pRight a n = R := ⟨_, rfl⟩
  have hC := (covers_refl a n).trans hR
  have eab : ((a : Int) == (b : Int) && n == m) = false := by
    rw [Bool.and_eq_false_iff, beq_eq_false_iff_ne, beq_eq_false_iff_ne]
    omega
  obtain ⟨U, hU⟩ : ∃ U, pCovers a n c k = U := ⟨_, rfl⟩
  obtain ⟨X, hX⟩ : ∃ X, pCovers a n b m = X := ⟨_, rfl⟩
  obtain ⟨Y, hY⟩ : ∃ Y, pCovers b m c k = Y := ⟨_, rfl⟩
  obtain ⟨Z, hZ⟩ : ∃ Z, pCovers b m a n = Z := ⟨_, rfl⟩
  have f1 : X = true → Y = true → U = true := fun e f => hU ▸ covers_trans (hX.trans e) (hY.trans f)
  have f2 : X = true → Z = true → False := fun e f => hne (covers_anti (hX.trans e) (hZ.trans f))
  have f3 : X = false := by
    cases X
    · rfl
    · exact absurd (covers_cmp hX) (by rw [h1]; decide)
  have H1 := Lib.hid h1
  have H1r := Lib.hid h1r
  have HX := Lib.hid hX
  have HY := Lib.hid hY
  have HZ := Lib.hid hZ
  have HQ := Lib.hid hQ
  clear h1r hX hY hZ hQ
  have HP := Lib.hid hP
  have HR := Lib.hid hR
  have HC := Lib.hid hC
  have HU := Lib.hid hU
  clear h1 hP hR hC hU
  go_enter Tryd.func5, Tryd.ntmps5
  go_wp2_with fail
  obtain ⟨W, hW, hD, hE, hF, b0⟩ := box3 w (.int .u32 a) (.int .i64 n) (.int .u32 b) (.int .i64 m) (.int .u32 c) (.int .i64 k)
  rw [hW]
  clear hW
  have hgl := hF.lt
  have d0 := hD.cell 0
  have d1 := hD.cell 1
  have e0 := hE.cell 0
  have e1 := hE.cell 1
  have g0 := hF.cell 0
  have g1 := hF.cell 1
  have t0 := ht.call b0
  refine wp_region_held_drew (S := (fun w' => Below W.heap.size W w' ∧ w'.cell? ⟨w.heap.size, 0, none⟩ = some (.int .u32 a) ∧ w'.cell? ⟨w.heap.size, 1, none⟩ = some (.int .i64 n) ∧ w'.cell? ⟨w.heap.size + 1, 0, none⟩ = some (.int .u32 b) ∧ w'.cell? ⟨w.heap.size + 1, 1, none⟩ = some (.int .i64 m) ∧ w'.cell? ⟨w.heap.size + 1 + 1, 0, none⟩ = some (.int .u32 c) ∧ w'.cell? ⟨w.heap.size + 1 + 1, 1, none⟩ = some (.int .i64 k))) (by kernel_rfl) ?_ (fun hHeld => ?_)
  · first | (refine keep33 hgl b3 ?_; assumption) | (refine keep33 hgl b2 ?_; assumption) | (refine keep33 hgl b1 ?_; assumption) | ((repeat' apply And.intro) <;> first | (with_reducible exact Below.drew (Below.refl _ _)) | (with_reducible assumption) | go_keep)
  refine wpAnyH_take (i := 0) (v := ?pv0) rfl (by kernel_rfl) (by kernel_rfl) (by kernel_rfl) (by intro _ _ _ h; exact h) (Or.inl ⟨by rfl, ?phy0⟩) (by assumption) ?prest0
  case phy0 => (intro w hSw; (try dsimp only at hSw); go_simp; try with_reducible rfl)
  try simp only [Act.put, List.getElem_toArray, List.getElem_cons_succ, List.getElem_cons_zero, List.setIfInBounds_toArray, List.set_cons_zero, List.set_cons_succ]
  refine wpAnyH_take (i := 1) (v := ?pv1) rfl (by kernel_rfl) (by kernel_rfl) (by kernel_rfl) (by intro _ _ _ h; exact h) (Or.inl ⟨by rfl, ?phy1⟩) (by assumption) ?prest1
  case phy1 => (intro w hSw; (try dsimp only at hSw); go_simp; try with_reducible rfl)
  try simp only [Act.put, List.getElem_toArray, List.getElem_cons_succ, List.getElem_cons_zero, List.setIfInBounds_toArray, List.set_cons_zero, List.set_cons_succ]
  refine wpAnyH_take (i := 3) (v := ?pv3) rfl (by kernel_rfl) (by kernel_rfl) (by kernel_rfl) (by intro _ _ _ h; exact h) (Or.inl ⟨by rfl, ?phy3⟩) (by assumption) ?prest3
  case phy3 => (intro w hSw; (try dsimp only at hSw); go_simp; try with_reducible rfl)
  try simp only [Act.put, List.getElem_toArray, List.getElem_cons_succ, List.getElem_cons_zero, List.setIfInBounds_toArray, List.set_cons_zero, List.set_cons_succ]
  refine wpAnyH_take (i := 4) (v := ?pv4) rfl (by kernel_rfl) (by kernel_rfl) (by kernel_rfl) (by intro _ _ _ h; exact h) (Or.inl ⟨by rfl, ?phy4⟩) (by assumption) ?prest4
  case phy4 => (intro w hSw; (try dsimp only at hSw); go_simp; try with_reducible rfl)
  try simp only [Act.put, List.getElem_toArray, List.getElem_cons_succ, List.getElem_cons_zero, List.setIfInBounds_toArray, List.set_cons_zero, List.set_cons_succ]
  refine wpAnyH_take (i := 6) (v := ?pv6) rfl (by kernel_rfl) (by kernel_rfl) (by kernel_rfl) (by intro _ _ _ h; exact h) (Or.inl ⟨by rfl, ?phy6⟩) (by assumption) ?prest6
  case phy6 => (intro w hSw; (try dsimp only at hSw); go_simp; try with_reducible rfl)
  try simp only [Act.put, List.getElem_toArray, List.getElem_cons_succ, List.getElem_cons_zero, List.setIfInBounds_toArray, List.set_cons_zero, List.set_cons_succ]
  refine wpAnyH_take (i := 7) (v := ?pv7) rfl (by kernel_rfl) (by kernel_rfl) (by kernel_rfl) (by intro _ _ _ h; exact h) (Or.inl ⟨by rfl, ?phy7⟩) (by assumption) ?prest7
  case phy7 => (intro w hSw; (try dsimp only at hSw); go_simp; try with_reducible rfl)
  try simp only [Act.put, List.getElem_toArray, List.getElem_cons_succ, List.getElem_cons_zero, List.setIfInBounds_toArray, List.set_cons_zero, List.set_cons_succ]
  refine wpAnyH_ready (rs := [2]) (by kernel_rfl) (by simp) ?_
  refine AllReadyH.cons rfl (fun K hK => ?_) AllReadyH.nil
  go_simp
  go_wp2_with (go_at_call 28; refine (prefixCompare a n b m _).mono ?_; rw [H1.out]; rintro _ w1 ⟨rfl, b1⟩)
  refine hK.out _ _ ?_ (fun hHeld => ?_)
  · try dsimp only
    first | (refine keep33 hgl b3 ?_; assumption) | (refine keep33 hgl b2 ?_; assumption) | (refine keep33 hgl b1 ?_; assumption) | ((repeat' apply And.intro) <;> first | (with_reducible exact Below.drew (Below.refl _ _)) | (with_reducible assumption) | go_keep)
  clear hK K
  refine wpAnyH_ready (rs := [5]) (by kernel_rfl) (by simp) ?_
  refine AllReadyH.cons rfl (fun K hK => ?_) AllReadyH.nil
  go_simp
  go_wp2_with (go_at_call 28; refine (prefixCompare b m c k _).mono ?_; rw [HP.out]; rintro _ w2 ⟨rfl, b2⟩)
  refine hK.out _ _ ?_ (fun hHeld => ?_)
  · try dsimp only
    first | (refine keep33 hgl b3 ?_; assumption) | (refine keep33 hgl b2 ?_; assumption) | (refine keep33 hgl b1 ?_; assumption) | ((repeat' apply And.intro) <;> first | (with_reducible exact Below.drew (Below.refl _ _)) | (with_reducible assumption) | go_keep)
  clear hK K
  refine wpAnyH_ready (rs := [8]) (by kernel_rfl) (by simp) ?_
  refine AllReadyH.cons rfl (fun K hK => ?_) AllReadyH.nil
  go_simp
  go_wp2_with (go_at_call 28; refine (prefixCompare a n c k _).mono ?_; rw [HQ.out]; rintro _ w3 ⟨rfl, b3⟩)
  refine hK.out _ _ ?_ (fun hHeld => ?_)
  · try dsimp only
    first | (refine keep33 hgl b3 ?_; assumption) | (refine keep33 hgl b2 ?_; assumption) | (refine keep33 hgl b1 ?_; assumption) | ((repeat' apply And.intro) <;> first | (with_reducible exact Below.drew (Below.refl _ _)) | (with_reducible assumption) | go_keep)
  clear hK K
  refine wpAnyH_take (i := 9) (v := ?pv9) rfl (by kernel_rfl) (by kernel_rfl) (by kernel_rfl) (by intro _ _ _ h; exact h) (Or.inl ⟨by rfl, ?phy9⟩) (by assumption) ?prest9
  case phy9 => (intro w hSw; (try dsimp only at hSw); go_simp; try with_reducible rfl)
  try simp only [Act.put, List.getElem_toArray, List.getElem_cons_succ, List.getElem_cons_zero, List.setIfInBounds_toArray, List.set_cons_zero, List.set_cons_succ]
  refine wpAnyH_take (i := 10) (v := ?pv10) rfl (by kernel_rfl) (by kernel_rfl) (by kernel_rfl) (by intro _ _ _ h; exact h) (Or.inl ⟨by rfl, ?phy10⟩) (by assumption) ?prest10
  case phy10 => (intro w hSw; (try dsimp only at hSw); go_simp; try with_reducible rfl)
  try simp only [Act.put, List.getElem_toArray, List.getElem_cons_succ, List.getElem_cons_zero, List.setIfInBounds_toArray, List.set_cons_zero, List.set_cons_succ]
  refine wpAnyH_take (i := 11) (v := ?pv11) rfl (by kernel_rfl) (by kernel_rfl) (by kernel_rfl) (by intro _ _ _ h; exact h) (Or.inl ⟨by rfl, ?phy11⟩) (by assumption) ?prest11
  case phy11 => (intro w hSw; (try dsimp only at hSw); go_simp; try with_reducible rfl)
  try simp only [Act.put, List.getElem_toArray, List.getElem_cons_succ, List.getElem_cons_zero, List.setIfInBounds_toArray, List.set_cons_zero, List.set_cons_succ]
  refine wpAnyH_done (by kernel_rfl) ?_ _
  go_wp2_with fail
  obtain ⟨hs4, x0, x1, y0, y1, z0, z1⟩ := hHeld
  have b03 := btr b0 hs4 b0.size
  have t3 := ht.call b03
  have hg3 : w.heap.size + 1 + 1 < w3.heap.size := by have := hs4.size; omega
  have hD3 := hD.below hs4 hD.lt
  have hE3 := hE.below hs4 hE.lt
  have hF3 := hF.below hs4 hF.lt
  clear hs4
  refine wp_region_held_drew (S := (fun w' => Below w3.heap.size w3 w' ∧ w'.cell? ⟨w.heap.size, 0, none⟩ = some (.int .u32 a) ∧ w'.cell? ⟨w.heap.size, 1, none⟩ = some (.int .i64 n) ∧ w'.cell? ⟨w.heap.size + 1, 0, none⟩ = some (.int .u32 b) ∧ w'.cell? ⟨w.heap.size + 1, 1, none⟩ = some (.int .i64 m) ∧ w'.cell? ⟨w.heap.size + 1 + 1, 0, none⟩ = some (.int .u32 c) ∧ w'.cell? ⟨w.heap.size + 1 + 1, 1, none⟩ = some (.int .i64 k))) (by kernel_rfl) ?_ (fun hHeld => ?_)
  · first | (refine keep33 hg3 b6 ?_; assumption) | (refine keep33 hg3 b5 ?_; assumption) | (refine keep33 hg3 b4 ?_; assumption) | ((repeat' apply And.intro) <;> first | (with_reducible exact Below.drew (Below.refl _ _)) | (with_reducible assumption) | go_keep)
  refine wpAnyH_take (i := 0) (v := ?qv0) rfl (by kernel_rfl) (by kernel_rfl) (by kernel_rfl) (by intro _ _ _ h; exact h) (Or.inl ⟨by rfl, ?qhy0⟩) (by assumption) ?qrest0
  case qhy0 => (intro w hSw; (try dsimp only at hSw); go_simp; try with_reducible rfl)
  try simp only [Act.put, List.getElem_toArray, List.getElem_cons_succ, List.getElem_cons_zero, List.setIfInBounds_toArray, List.set_cons_zero, List.set_cons_succ]
  refine wpAnyH_take (i := 1) (v := ?qv1) rfl (by kernel_rfl) (by kernel_rfl) (by kernel_rfl) (by intro _ _ _ h; exact h) (Or.inl ⟨by rfl, ?qhy1⟩) (by assumption) ?qrest1
  case qhy1 => (intro w hSw; (try dsimp only at hSw); go_simp; try with_reducible rfl)
  try simp only [Act.put, List.getElem_toArray, List.getElem_cons_succ, List.getElem_cons_zero, List.setIfInBounds_toArray, List.set_cons_zero, List.set_cons_succ]
  refine wpAnyH_take (i := 2) (v := ?qv2) rfl (by kernel_rfl) (by kernel_rfl) (by kernel_rfl) (by intro _ _ _ h; exact h) (Or.inl ⟨by rfl, ?qhy2⟩) (by assumption) ?qrest2
  case qhy2 => (intro w hSw; (try dsimp only at hSw); go_simp; try with_reducible rfl)
  try simp only [Act.put, List.getElem_toArray, List.getElem_cons_succ, List.getElem_cons_zero, List.setIfInBounds_toArray, List.set_cons_zero, List.set_cons_succ]
  refine wpAnyH_ready (rs := [3]) (by kernel_rfl) (by simp) ?_
  refine AllReadyH.cons rfl (fun K hK => ?_) AllReadyH.nil
  go_simp
  go_wp2_with (go_at_call 28; refine (prefixCompare b m a n _).mono ?_; rw [H1r.out]; rintro _ w4 ⟨rfl, b4⟩)
  refine hK.out _ _ ?_ (fun hHeld => ?_)
  · try dsimp only
    first | (refine keep33 hg3 b6 ?_; assumption) | (refine keep33 hg3 b5 ?_; assumption) | (refine keep33 hg3 b4 ?_; assumption) | ((repeat' apply And.intro) <;> first | (with_reducible exact Below.drew (Below.refl _ _)) | (with_reducible assumption) | go_keep)
  clear hK K
  refine wpAnyH_take (i := 4) (v := ?qv4) rfl (by kernel_rfl) (by kernel_rfl) (by kernel_rfl) (by intro _ _ _ h; exact h) (Or.inl ⟨by rfl, ?qhy4⟩) (by assumption) ?qrest4
  case qhy4 => (intro w hSw; (try dsimp only at hSw); go_simp; try with_reducible rfl)
  try simp only [Act.put, List.getElem_toArray, List.getElem_cons_succ, List.getElem_cons_zero, List.setIfInBounds_toArray, List.set_cons_zero, List.set_cons_succ]
  refine wpAnyH_take (i := 5) (v := ?qv5) rfl (by kernel_rfl) (by kernel_rfl) (by kernel_rfl) (by intro _ _ _ h; exact h) (Or.inl ⟨by rfl, ?qhy5⟩) (by assumption) ?qrest5
  case qhy5 => (intro w hSw; (try dsimp only at hSw); go_simp; try with_reducible rfl)
  try simp only [Act.put, List.getElem_toArray, List.getElem_cons_succ, List.getElem_cons_zero, List.setIfInBounds_toArray, List.set_cons_zero, List.set_cons_succ]
  refine wpAnyH_take (i := 6) (v := ?qv6) rfl (by kernel_rfl) (by kernel_rfl) (by kernel_rfl) (by intro _ _ _ h; exact h) (Or.inl ⟨by rfl, ?qhy6⟩) (by assumption) ?qrest6
  case qhy6 => (intro w hSw; (try dsimp only at hSw); go_simp; try with_reducible rfl)
  try simp only [Act.put, List.getElem_toArray, List.getElem_cons_succ, List.getElem_cons_zero, List.setIfInBounds_toArray, List.set_cons_zero, List.set_cons_succ]
  refine wpAnyH_take (i := 7) (v := ?qv7) rfl (by kernel_rfl) (by kernel_rfl) (by kernel_rfl) (by intro _ _ _ h; exact h) (Or.inl ⟨by rfl, ?qhy7⟩) (by assumption) ?qrest7
  case qhy7 => (intro w hSw; (try dsimp only at hSw); go_simp; try with_reducible rfl)
  try simp only [Act.put, List.getElem_toArray, List.getElem_cons_succ, List.getElem_cons_zero, List.setIfInBounds_toArray, List.set_cons_zero, List.set_cons_succ]
  refine wpAnyH_take (i := 8) (v := ?qv8) rfl (by kernel_rfl) (by kernel_rfl) (by kernel_rfl) (by intro _ _ _ h; exact h) (Or.inl ⟨by rfl, ?qhy8⟩) (by assumption) ?qrest8
  case qhy8 => (intro w hSw; (try dsimp only at hSw); go_simp; try with_reducible rfl)
  try simp only [Act.put, List.getElem_toArray, List.getElem_cons_succ, List.getElem_cons_zero, List.setIfInBounds_toArray, List.set_cons_zero, List.set_cons_succ]
  refine wpAnyH_take (i := 9) (v := ?qv9) rfl (by kernel_rfl) (by kernel_rfl) (by kernel_rfl) (by intro _ _ _ h; exact h) (Or.inl ⟨by rfl, ?qhy9⟩) (by assumption) ?qrest9
  case qhy9 => (intro w hSw; (try dsimp only at hSw); go_simp; try with_reducible rfl)
  try simp only [Act.put, List.getElem_toArray, List.getElem_cons_succ, List.getElem_cons_zero, List.setIfInBounds_toArray, List.set_cons_zero, List.set_cons_succ]
  refine wpAnyH_take (i := 10) (v := ?qv10) rfl (by kernel_rfl) (by kernel_rfl) (by kernel_rfl) (by intro _ _ _ h; exact h) (Or.inl ⟨by rfl, ?qhy10⟩) (by assumption) ?qrest10
  case qhy10 => (intro w hSw; (try dsimp only at hSw); go_simp; try with_reducible rfl)
  try simp only [Act.put, List.getElem_toArray, List.getElem_cons_succ, List.getElem_cons_zero, List.setIfInBounds_toArray, List.set_cons_zero, List.set_cons_succ]
  refine wpAnyH_take (i := 11) (v := .bool false) rfl (by kernel_rfl) (by kernel_rfl) (by kernel_rfl) (by intro _ _ _ h; exact h) (Or.inl ⟨by rfl, ?qhy11⟩) (by assumption) ?qrest11
  case qhy11 => (intro w hSw; (try dsimp only at hSw); go_simp; (intro e1 e2; exact hne ⟨by omega, e2⟩))
  try simp only [Act.put, List.getElem_toArray, List.getElem_cons_succ, List.getElem_cons_zero, List.setIfInBounds_toArray, List.set_cons_zero, List.set_cons_succ]
  refine wpAnyH_take (i := 12) (v := ?qv12) rfl (by kernel_rfl) (by kernel_rfl) (by kernel_rfl) (by intro _ _ _ h; exact h) (Or.inl ⟨by rfl, ?qhy12⟩) (by assumption) ?qrest12
  case qhy12 => (intro w hSw; (try dsimp only at hSw); go_simp; try with_reducible rfl)
  try simp only [Act.put, List.getElem_toArray, List.getElem_cons_succ, List.getElem_cons_zero, List.setIfInBounds_toArray, List.set_cons_zero, List.set_cons_succ]
  refine wpAnyH_take (i := 13) (v := ?qv13) rfl (by kernel_rfl) (by kernel_rfl) (by kernel_rfl) (by intro _ _ _ h; exact h) (Or.inl ⟨by rfl, ?qhy13⟩) (by assumption) ?qrest13
  case qhy13 => (intro w hSw; (try dsimp only at hSw); go_simp; try with_reducible rfl)
  try simp only [Act.put, List.getElem_toArray, List.getElem_cons_succ, List.getElem_cons_zero, List.setIfInBounds_toArray, List.set_cons_zero, List.set_cons_succ]
  refine wpAnyH_take (i := 14) (v := ?qv14) rfl (by kernel_rfl) (by kernel_rfl) (by kernel_rfl) (by intro _ _ _ h; exact h) (Or.inl ⟨by rfl, ?qhy14⟩) (by assumption) ?qrest14
  case qhy14 => (intro w hSw; (try dsimp only at hSw); go_simp; try with_reducible rfl)
  try simp only [Act.put, List.getElem_toArray, List.getElem_cons_succ, List.getElem_cons_zero, List.setIfInBounds_toArray, List.set_cons_zero, List.set_cons_succ]
  refine wpAnyH_take (i := 15) (v := ?qv15) rfl (by kernel_rfl) (by kernel_rfl) (by kernel_rfl) (by intro _ _ _ h; exact h) (Or.inl ⟨by rfl, ?qhy15⟩) (by assumption) ?qrest15
  case qhy15 => (intro w hSw; (try dsimp only at hSw); go_simp; try with_reducible rfl)
  try simp only [Act.put, List.getElem_toArray, List.getElem_cons_succ, List.getElem_cons_zero, List.setIfInBounds_toArray, List.set_cons_zero, List.set_cons_succ]
  refine wpAnyH_take (i := 16) (v := ?qv16) rfl (by kernel_rfl) (by kernel_rfl) (by kernel_rfl) (by intro _ _ _ h; exact h) (Or.inl ⟨by rfl, ?qhy16⟩) (by assumption) ?qrest16
  case qhy16 => (intro w hSw; (try dsimp only at hSw); go_simp; try with_reducible rfl)
  try simp only [Act.put, List.getElem_toArray, List.getElem_cons_succ, List.getElem_cons_zero, List.setIfInBounds_toArray, List.set_cons_zero, List.set_cons_succ]
  refine wpAnyH_take (i := 17) (v := ?qv17) rfl (by kernel_rfl) (by kernel_rfl) (by kernel_rfl) (by intro _ _ _ h; exact h) (Or.inl ⟨by rfl, ?qhy17⟩) (by assumption) ?qrest17
  case qhy17 => (intro w hSw; (try dsimp only at hSw); go_simp; try with_reducible rfl)
  try simp only [Act.put, List.getElem_toArray, List.getElem_cons_succ, List.getElem_cons_zero, List.setIfInBounds_toArray, List.set_cons_zero, List.set_cons_succ]
  refine wpAnyH_take (i := 18) (v := undef) rfl (by kernel_rfl) (by kernel_rfl) (by kernel_rfl) (by intro _ _ _ h; exact h) (Or.inr ⟨by rfl, rfl⟩) (by assumption) ?_
  try simp only [Act.put, List.getElem_toArray, List.getElem_cons_succ, List.getElem_cons_zero, List.setIfInBounds_toArray, List.set_cons_zero, List.set_cons_succ]
  refine wpAnyH_take (i := 19) (v := undef) rfl (by kernel_rfl) (by kernel_rfl) (by kernel_rfl) (by intro _ _ _ h; exact h) (Or.inr ⟨by rfl, rfl⟩) (by assumption) ?_
  try simp only [Act.put, List.getElem_toArray, List.getElem_cons_succ, List.getElem_cons_zero, List.setIfInBounds_toArray, List.set_cons_zero, List.set_cons_succ]
  refine wpAnyH_take (i := 20) (v := ?qv20) rfl (by kernel_rfl) (by kernel_rfl) (by kernel_rfl) (by intro _ _ _ h; exact h) (Or.inl ⟨by rfl, ?qhy20⟩) (by assumption) ?qrest20
  case qhy20 => (intro w hSw; (try dsimp only at hSw); go_simp; try with_reducible rfl)
  try simp only [Act.put, List.getElem_toArray, List.getElem_cons_succ, List.getElem_cons_zero, List.setIfInBounds_toArray, List.set_cons_zero, List.set_cons_succ]
  refine wpAnyH_take (i := 21) (v := ?qv21) rfl (by kernel_rfl) (by kernel_rfl) (by kernel_rfl) (by intro _ _ _ h; exact h) (Or.inl ⟨by rfl, ?qhy21⟩) (by assumption) ?qrest21
  case qhy21 => (intro w hSw; (try dsimp only at hSw); go_simp; try with_reducible rfl)
  try simp only [Act.put, List.getElem_toArray, List.getElem_cons_succ, List.getElem_cons_zero, List.setIfInBounds_toArray, List.set_cons_zero, List.set_cons_succ]
  refine wpAnyH_take (i := 22) (v := undef) rfl (by kernel_rfl) (by kernel_rfl) (by kernel_rfl) (by intro _ _ _ h; exact h) (Or.inr ⟨by rfl, rfl⟩) (by assumption) ?_
  try simp only [Act.put, List.getElem_toArray, List.getElem_cons_succ, List.getElem_cons_zero, List.setIfInBounds_toArray, List.set_cons_zero, List.set_cons_succ]
  refine wpAnyH_take (i := 23) (v := undef) rfl (by kernel_rfl) (by kernel_rfl) (by kernel_rfl) (by intro _ _ _ h; exact h) (Or.inr ⟨by rfl, rfl⟩) (by assumption) ?_
  try simp only [Act.put, List.getElem_toArray, List.getElem_cons_succ, List.getElem_cons_zero, List.setIfInBounds_toArray, List.set_cons_zero, List.set_cons_succ]
  refine wpAnyH_take (i := 24) (v := ?qv24) rfl (by kernel_rfl) (by kernel_rfl) (by kernel_rfl) (by intro _ _ _ h; exact h) (Or.inl ⟨by rfl, ?qhy24⟩) (by assumption) ?qrest24
  case qhy24 => (intro w hSw; (try dsimp only at hSw); go_simp; try with_reducible rfl)
  try simp only [Act.put, List.getElem_toArray, List.getElem_cons_succ, List.getElem_cons_zero, List.setIfInBounds_toArray, List.set_cons_zero, List.set_cons_succ]
  refine wpAnyH_take (i := 25) (v := ?qv25) rfl (by kernel_rfl) (by kernel_rfl) (by kernel_rfl) (by intro _ _ _ h; exact h) (Or.inl ⟨by rfl, ?qhy25⟩) (by assumption) ?qrest25
  case qhy25 => (intro w hSw; (try dsimp only at hSw); go_simp; try with_reducible rfl)
  try simp only [Act.put, List.getElem_toArray, List.getElem_cons_succ, List.getElem_cons_zero, List.setIfInBounds_toArray, List.set_cons_zero, List.set_cons_succ]
  refine wpAnyH_take (i := 26) (v := ?qv26) rfl (by kernel_rfl) (by kernel_rfl) (by kernel_rfl) (by intro _ _ _ h; exact h) (Or.inl ⟨by rfl, ?qhy26⟩) (by assumption) ?qrest26
  case qhy26 => (intro w hSw; (try dsimp only at hSw); go_simp; try with_reducible rfl)
  try simp only [Act.put, List.getElem_toArray, List.getElem_cons_succ, List.getElem_cons_zero, List.setIfInBounds_toArray, List.set_cons_zero, List.set_cons_succ]
  refine wpAnyH_take (i := 27) (v := ?qv27) rfl (by kernel_rfl) (by kernel_rfl) (by kernel_rfl) (by intro _ _ _ h; exact h) (Or.inl ⟨by rfl, ?qhy27⟩) (by assumption) ?qrest27
  case qhy27 => (intro w hSw; (try dsimp only at hSw); go_simp; try with_reducible rfl)
  try simp only [Act.put, List.getElem_toArray, List.getElem_cons_succ, List.getElem_cons_zero, List.setIfInBounds_toArray, List.set_cons_zero, List.set_cons_succ]
  refine wpAnyH_take (i := 28) (v := ?qv28) rfl (by kernel_rfl) (by kernel_rfl) (by kernel_rfl) (by intro _ _ _ h; exact h) (Or.inl ⟨by rfl, ?qhy28⟩) (by assumption) ?qrest28
  case qhy28 => (intro w hSw; (try dsimp only at hSw); go_simp; try with_reducible rfl)
  try simp only [Act.put, List.getElem_toArray, List.getElem_cons_succ, List.getElem_cons_zero, List.setIfInBounds_toArray, List.set_cons_zero, List.set_cons_succ]
  refine wpAnyH_take (i := 30) (v := ?qv30) rfl (by kernel_rfl) (by kernel_rfl) (by kernel_rfl) (by intro _ _ _ h; exact h) (Or.inl ⟨by rfl, ?qhy30⟩) (by assumption) ?qrest30
  case qhy30 => (intro w hSw; (try dsimp only at hSw); go_simp; try with_reducible rfl)
  try simp only [Act.put, List.getElem_toArray, List.getElem_cons_succ, List.getElem_cons_zero, List.setIfInBounds_toArray, List.set_cons_zero, List.set_cons_succ]
  refine wpAnyH_ready (rs := [29]) (by kernel_rfl) (by simp) ?_
  refine AllReadyH.cons rfl (fun K hK => ?_) AllReadyH.nil
  go_simp
  go_wp2_with (go_at_call 29; refine (prefixCovers a ha n a ha n _).mono ?_; rw [HC.out]; rintro _ w5 ⟨rfl, b5⟩)
  refine hK.out _ _ ?_ (fun hHeld => ?_)
  · try dsimp only
    first | (refine keep33 hg3 b6 ?_; assumption) | (refine keep33 hg3 b5 ?_; assumption) | (refine keep33 hg3 b4 ?_; assumption) | ((repeat' apply And.intro) <;> first | (with_reducible exact Below.drew (Below.refl _ _)) | (with_reducible assumption) | go_keep)
  clear hK K
  refine wpAnyH_ready (rs := [31]) (by kernel_rfl) (by simp) ?_
  refine AllReadyH.cons rfl (fun K hK => ?_) AllReadyH.nil
  go_simp
  go_wp2_with (go_at_call 24; refine (prefixRight a ha n _).mono ?_; rw [HR.out]; rintro _ w6 ⟨rfl, b6⟩)
  refine hK.out _ _ ?_ (fun hHeld => ?_)
  · try dsimp only
    first | (refine keep33 hg3 b6 ?_; assumption) | (refine keep33 hg3 b5 ?_; assumption) | (refine keep33 hg3 b4 ?_; assumption) | ((repeat' apply And.intro) <;> first | (with_reducible exact Below.drew (Below.refl _ _)) | (with_reducible assumption) | go_keep)
  clear hK K
  refine wpAnyH_take (i := 32) (v := ?qv32) rfl (by kernel_rfl) (by kernel_rfl) (by kernel_rfl) (by intro _ _ _ h; exact h) (Or.inl ⟨by rfl, ?qhy32⟩) (by assumption) ?qrest32
  case qhy32 => (intro w hSw; (try dsimp only at hSw); go_simp; try with_reducible rfl)
  try simp only [Act.put, List.getElem_toArray, List.getElem_cons_succ, List.getElem_cons_zero, List.setIfInBounds_toArray, List.set_cons_zero, List.set_cons_succ]
  refine wpAnyH_take (i := 33) (v := ?qv33) rfl (by kernel_rfl) (by kernel_rfl) (by kernel_rfl) (by intro _ _ _ h; exact h) (Or.inl ⟨by rfl, ?qhy33⟩) (by assumption) ?qrest33
  case qhy33 => (intro w hSw; (try dsimp only at hSw); go_simp; try with_reducible rfl)
  try simp only [Act.put, List.getElem_toArray, List.getElem_cons_succ, List.getElem_cons_zero, List.setIfInBounds_toArray, List.set_cons_zero, List.set_cons_succ]
  refine wpAnyH_done (by kernel_rfl) ?_ _
  go_wp2_with fail
  obtain ⟨hs7, _, _, _, _, _, _⟩ := hHeld
  have b06 := btr b03 hs7 b03.size
  have hD6 := hD3.below hs7 hD3.lt
  have hE6 := hE3.below hs7 hE3.lt
  have hF6 := hF3.below hs7 hF3.lt
  clear x0 x1 y0 y1 z0 z1 d0 d1 e0 e1 g0 g1 b0 b1 b2 b3 b4 b5 b6 hD hE hF hD3 hE3 hF3 hgl hg3 t0 t3 hs7
  have x60 := hD6.cell 0
  have x61 := hD6.cell 1
  have y60 := hE6.cell 0
  have y61 := hE6.cell 1
  have z60 := hF6.cell 0
  have z61 := hF6.cell 1
  subst f3
  go_wp2_with fail
  refine (prefixCovers a ha n b hb m _).mono ?_
  rw [HX.out]
  rintro _ w7 ⟨rfl, b7⟩
  have b07 := btr b06 b7 b06.size
  clear x60 x61 y60 y61 z60 z61
  have hD7 := hD6.below b7 hD6.lt
  have x70 := hD7.cell 0
  have x71 := hD7.cell 1
  have hE7 := hE6.below b7 hE6.lt
  have y70 := hE7.cell 0
  have y71 := hE7.cell 1
  have hF7 := hF6.below b7 hF6.lt
  have z70 := hF7.cell 0
  have z71 := hF7.cell 1
  go_wp2_with fail
  refine (prefixCovers a ha n b hb m _).mono ?_
  rw [HX.out]
  rintro _ w8 ⟨rfl, b8⟩
  have b08 := btr b07 b8 b07.size
  clear x70 x71 y70 y71 z70 z71
  have hD8 := hD7.below b8 hD7.lt
  have x80 := hD8.cell 0
  have x81 := hD8.cell 1
  have hE8 := hE7.below b8 hE7.lt
  have y80 := hE8.cell 0
  have y81 := hE8.cell 1
  have hF8 := hF7.below b8 hF7.lt
  have z80 := hF8.cell 0
  have z81 := hF8.cell 1
  go_wp2_with fail
  refine (prefixCovers a ha n b hb m _).mono ?_
  rw [HX.out]
  rintro _ w9 ⟨rfl, b9⟩
  have b09 := btr b08 b9 b08.size
  clear x80 x81 y80 y81 z80 z81
  have hD9 := hD8.below b9 hD8.lt
  have x90 := hD9.cell 0
  have x91 := hD9.cell 1
  have hE9 := hE8.below b9 hE8.lt
  have y90 := hE9.cell 0
  have y91 := hE9.cell 1
  have hF9 := hF8.below b9 hF8.lt
  have z90 := hF9.cell 0
  have z91 := hF9.cell 1
  go_wp2_with fail
  refine (awake02 _ (ht.call b09)).mono ?_
  rintro _ w10 ⟨rfl, b10⟩
  have b010 := btr b09 b10 b09.size
  clear x90 x91 y90 y91 z90 z91
  have hD10 := hD9.below b10 hD9.lt
  have x100 := hD10.cell 0
  have x101 := hD10.cell 1
  have hE10 := hE9.below b10 hE9.lt
  have y100 := hE10.cell 0
  have y101 := hE10.cell 1
  have hF10 := hF9.below b10 hF9.lt
  have z100 := hF10.cell 0
  have z101 := hF10.cell 1
  try go_wp2_with fail
  go_ret
  exact ⟨rfl, b010⟩
set_option maxHeartbeats 16000000 in
set_option maxRecDepth 100000 in
set_option linter.unusedSimpArgs false in
theorem prefixOrder_ltg (w : World) (a : Nat) (n : Int) (ha : a < 4294967296) (b : Nat) (hb : b < 4294967296) (m : Int) (c : Nat) (k : Int) (hc : c < 4294967296) (ht : DigTab w)
    (h1 : pCmp a n b m = -1) (h1r : pCmp b m a n = 1) (hne : ¬ (a = b ∧ n = m))
    (h2 : 0 < pCmp b m c k) :
    Calls Tryd.prog 5 #[.agg #[.int .u32 a, .int .i64 n], .agg #[.int .u32 b, .int .i64 m], .agg #[.int .u32 c, .int .i64 k]] w fun en w' => en = .returned (.bool true) ∧ Below w.heap.size w w' := by
  obtain ⟨P, hP⟩ : ∃ P, pCmp b m c k = P := ⟨_, rfl⟩
  obtain ⟨Q, hQ⟩ : ∃ Q, pCmp a n c k = Q := ⟨_, rfl⟩
  have p2 : decide (P ≤ 0) = false := decide_eq_false (Int.not_le.2 (hP ▸ h2))
  have hwr : IntKind.i64.wrap (-1) = -1 := by decide
  obtain ⟨R, hR⟩ : ∃ R, pRight a n = R := ⟨_, rfl⟩
  have hC := (covers_refl a n).trans hR
  have eab : ((a : Int) == (b : Int) && n == m) = false := by
    rw [Bool.and_eq_false_iff, beq_eq_false_iff_ne, beq_eq_false_iff_ne]
    omega
  obtain ⟨U, hU⟩ : ∃ U, pCovers a n c k = U := ⟨_, rfl⟩
  obtain ⟨X, hX⟩ : ∃ X, pCovers a n b m = X := ⟨_, rfl⟩
  obtain ⟨Y, hY⟩ : ∃ Y, pCovers b m c k = Y := ⟨_, rfl⟩
  obtain ⟨Z, hZ⟩ : ∃ Z, pCovers b m a n = Z := ⟨_, rfl⟩
  have f1 : X = true → Y = true → U = true := fun e f => hU ▸ covers_trans (hX.trans e) (hY.trans f)
  have f2 : X = true → Z = true → False := fun e f => hne (covers_anti (hX.trans e) (hZ.trans f))
  have H1 := Lib.hid h1
  have H1r := Lib.hid h1r
  have HX := Lib.hid hX
  have HY := Lib.hid hY
  have HZ := Lib.hid hZ
  have HQ := Lib.hid hQ
  clear h1r hX hY hZ hQ
  have HP := Lib.hid hP
  have HR := Lib.hid hR
  have HC := Lib.hid hC
  have HU := Lib.hid hU
  clear h1 h2 hP hR hC hU
  go_enter Tryd.func5, Tryd.ntmps5
  go_wp2_with fail
  obtain ⟨W, hW, hD, hE, hF, b0⟩ := box3 w (.int .u32 a) (.int .i64 n) (.int .u32 b) (.int .i64 m) (.int .u32 c) (.int .i64 k)
  rw [hW]
  clear hW
  have hgl := hF.lt
  have d0 := hD.cell 0
  have d1 := hD.cell 1
  have e0 := hE.cell 0
  have e1 := hE.cell 1
  have g0 := hF.cell 0
  have g1 := hF.cell 1
  have t0 := ht.call b0
  refine wp_region_held_drew (S := (fun w' => Below W.heap.size W w' ∧ w'.cell? ⟨w.heap.size, 0, none⟩ = some (.int .u32 a) ∧ w'.cell? ⟨w.heap.size, 1, none⟩ = some (.int .i64 n) ∧ w'.cell? ⟨w.heap.size + 1, 0, none⟩ = some (.int .u32 b) ∧ w'.cell? ⟨w.heap.size + 1, 1, none⟩ = some (.int .i64 m) ∧ w'.cell? ⟨w.heap.size + 1 + 1, 0, none⟩ = some (.int .u32 c) ∧ w'.cell? ⟨w.heap.size + 1 + 1, 1, none⟩ = some (.int .i64 k))) (by kernel_rfl) ?_ (fun hHeld => ?_)
  · first | (refine keep33 hgl b3 ?_; assumption) | (refine keep33 hgl b2 ?_; assumption) | (refine keep33 hgl b1 ?_; assumption) | ((repeat' apply And.intro) <;> first | (with_reducible exact Below.drew (Below.refl _ _)) | (with_reducible assumption) | go_keep)
  refine wpAnyH_take (i := 0) (v := ?pv0) rfl (by kernel_rfl) (by kernel_rfl) (by kernel_rfl) (by intro _ _ _ h; exact h) (Or.inl ⟨by rfl, ?phy0⟩) (by assumption) ?prest0
  case phy0 => (intro w hSw; (try dsimp only at hSw); go_simp; try with_reducible rfl)
  try simp only [Act.put, List.getElem_toArray, List.getElem_cons_succ, List.getElem_cons_zero, List.setIfInBounds_toArray, List.set_cons_zero, List.set_cons_succ]
  refine wpAnyH_take (i := 1) (v := ?pv1) rfl (by kernel_rfl) (by kernel_rfl) (by kernel_rfl) (by intro _ _ _ h; exact h) (Or.inl ⟨by rfl, ?phy1⟩) (by assumption) ?prest1
  case phy1 => (intro w hSw; (try dsimp only at hSw); go_simp; try with_reducible rfl)
  try simp only [Act.put, List.getElem_toArray, List.getElem_cons_succ, List.getElem_cons_zero, List.setIfInBounds_toArray, List.set_cons_zero, List.set_cons_succ]
  refine wpAnyH_take (i := 3) (v := ?pv3) rfl (by kernel_rfl) (by kernel_rfl) (by kernel_rfl) (by intro _ _ _ h; exact h) (Or.inl ⟨by rfl, ?phy3⟩) (by assumption) ?prest3
  case phy3 => (intro w hSw; (try dsimp only at hSw); go_simp; try with_reducible rfl)
  try simp only [Act.put, List.getElem_toArray, List.getElem_cons_succ, List.getElem_cons_zero, List.setIfInBounds_toArray, List.set_cons_zero, List.set_cons_succ]
  refine wpAnyH_take (i := 4) (v := ?pv4) rfl (by kernel_rfl) (by kernel_rfl) (by kernel_rfl) (by intro _ _ _ h; exact h) (Or.inl ⟨by rfl, ?phy4⟩) (by assumption) ?prest4
  case phy4 => (intro w hSw; (try dsimp only at hSw); go_simp; try with_reducible rfl)
  try simp only [Act.put, List.getElem_toArray, List.getElem_cons_succ, List.getElem_cons_zero, List.setIfInBounds_toArray, List.set_cons_zero, List.set_cons_succ]
  refine wpAnyH_take (i := 6) (v := ?pv6) rfl (by kernel_rfl) (by kernel_rfl) (by kernel_rfl) (by intro _ _ _ h; exact h) (Or.inl ⟨by rfl, ?phy6⟩) (by assumption) ?prest6
  case phy6 => (intro w hSw; (try dsimp only at hSw); go_simp; try with_reducible rfl)
  try simp only [Act.put, List.getElem_toArray, List.getElem_cons_succ, List.getElem_cons_zero, List.setIfInBounds_toArray, List.set_cons_zero, List.set_cons_succ]
  refine wpAnyH_take (i := 7) (v := ?pv7) rfl (by kernel_rfl) (by kernel_rfl) (by kernel_rfl) (by intro _ _ _ h; exact h) (Or.inl ⟨by rfl, ?phy7⟩) (by assumption) ?prest7
  case phy7 => (intro w hSw; (try dsimp only at hSw); go_simp; try with_reducible rfl)
  try simp only [Act.put, List.getElem_toArray, List.getElem_cons_succ, List.getElem_cons_zero, List.setIfInBounds_toArray, List.set_cons_zero, List.set_cons_succ]
  refine wpAnyH_ready (rs := [2]) (by kernel_rfl) (by simp) ?_
  refine AllReadyH.cons rfl (fun K hK => ?_) AllReadyH.nil
  go_simp
  go_wp2_with (go_at_call 28; refine (prefixCompare a n b m _).mono ?_; rw [H1.out]; rintro _ w1 ⟨rfl, b1⟩)
  refine hK.out _ _ ?_ (fun hHeld => ?_)
  · try dsimp only
    first | (refine keep33 hgl b3 ?_; assumption) | (refine keep33 hgl b2 ?_; assumption) | (refine keep33 hgl b1 ?_; assumption) | ((repeat' apply And.intro) <;> first | (with_reducible exact Below.drew (Below.refl _ _)) | (with_reducible assumption) | go_keep)
  clear hK K
  refine wpAnyH_ready (rs := [5]) (by kernel_rfl) (by simp) ?_
  refine AllReadyH.cons rfl (fun K hK => ?_) AllReadyH.nil
  go_simp
  go_wp2_with (go_at_call 28; refine (prefixCompare b m c k _).mono ?_; rw [HP.out]; rintro _ w2 ⟨rfl, b2⟩)
  refine hK.out _ _ ?_ (fun hHeld => ?_)
  · try dsimp only
    first | (refine keep33 hgl b3 ?_; assumption) | (refine keep33 hgl b2 ?_; assumption) | (refine keep33 hgl b1 ?_; assumption) | ((repeat' apply And.intro) <;> first | (with_reducible exact Below.drew (Below.refl _ _)) | (with_reducible assumption) | go_keep)
  clear hK K
  refine wpAnyH_ready (rs := [8]) (by kernel_rfl) (by simp) ?_
  refine AllReadyH.cons rfl (fun K hK => ?_) AllReadyH.nil
  go_simp
  go_wp2_with (go_at_call 28; refine (prefixCompare a n c k _).mono ?_; rw [HQ.out]; rintro _ w3 ⟨rfl, b3⟩)
  refine hK.out _ _ ?_ (fun hHeld => ?_)
  · try dsimp only
    first | (refine keep33 hgl b3 ?_; assumption) | (refine keep33 hgl b2 ?_; assumption) | (refine keep33 hgl b1 ?_; assumption) | ((repeat' apply And.intro) <;> first | (with_reducible exact Below.drew (Below.refl _ _)) | (with_reducible assumption) | go_keep)
  clear hK K
  refine wpAnyH_take (i := 9) (v := ?pv9) rfl (by kernel_rfl) (by kernel_rfl) (by kernel_rfl) (by intro _ _ _ h; exact h) (Or.inl ⟨by rfl, ?phy9⟩) (by assumption) ?prest9
  case phy9 => (intro w hSw; (try dsimp only at hSw); go_simp; try with_reducible rfl)
  try simp only [Act.put, List.getElem_toArray, List.getElem_cons_succ, List.getElem_cons_zero, List.setIfInBounds_toArray, List.set_cons_zero, List.set_cons_succ]
  refine wpAnyH_take (i := 10) (v := ?pv10) rfl (by kernel_rfl) (by kernel_rfl) (by kernel_rfl) (by intro _ _ _ h; exact h) (Or.inl ⟨by rfl, ?phy10⟩) (by assumption) ?prest10
  case phy10 => (intro w hSw; (try dsimp only at hSw); go_simp; try with_reducible rfl)
  try simp only [Act.put, List.getElem_toArray, List.getElem_cons_succ, List.getElem_cons_zero, List.setIfInBounds_toArray, List.set_cons_zero, List.set_cons_succ]
  refine wpAnyH_take (i := 11) (v := ?pv11) rfl (by kernel_rfl) (by kernel_rfl) (by kernel_rfl) (by intro _ _ _ h; exact h) (Or.inl ⟨by rfl, ?phy11⟩) (by assumption) ?prest11
  case phy11 => (intro w hSw; (try dsimp only at hSw); go_simp; try with_reducible rfl)
  try simp only [Act.put, List.getElem_toArray, List.getElem_cons_succ, List.getElem_cons_zero, List.setIfInBounds_toArray, List.set_cons_zero, List.set_cons_succ]
  refine wpAnyH_done (by kernel_rfl) ?_ _
  go_wp2_with fail
  obtain ⟨hs4, x0, x1, y0, y1, z0, z1⟩ := hHeld
  have b03 := btr b0 hs4 b0.size
  have t3 := ht.call b03
  have hg3 : w.heap.size + 1 + 1 < w3.heap.size := by have := hs4.size; omega
  have hD3 := hD.below hs4 hD.lt
  have hE3 := hE.below hs4 hE.lt
  have hF3 := hF.below hs4 hF.lt
  clear hs4
  refine wp_region_held_drew (S := (fun w' => Below w3.heap.size w3 w' ∧ w'.cell? ⟨w.heap.size, 0, none⟩ = some (.int .u32 a) ∧ w'.cell? ⟨w.heap.size, 1, none⟩ = some (.int .i64 n) ∧ w'.cell? ⟨w.heap.size + 1, 0, none⟩ = some (.int .u32 b) ∧ w'.cell? ⟨w.heap.size + 1, 1, none⟩ = some (.int .i64 m) ∧ w'.cell? ⟨w.heap.size + 1 + 1, 0, none⟩ = some (.int .u32 c) ∧ w'.cell? ⟨w.heap.size + 1 + 1, 1, none⟩ = some (.int .i64 k))) (by kernel_rfl) ?_ (fun hHeld => ?_)
  · first | (refine keep33 hg3 b6 ?_; assumption) | (refine keep33 hg3 b5 ?_; assumption) | (refine keep33 hg3 b4 ?_; assumption) | ((repeat' apply And.intro) <;> first | (with_reducible exact Below.drew (Below.refl _ _)) | (with_reducible assumption) | go_keep)
  refine wpAnyH_take (i := 0) (v := ?qv0) rfl (by kernel_rfl) (by kernel_rfl) (by kernel_rfl) (by intro _ _ _ h; exact h) (Or.inl ⟨by rfl, ?qhy0⟩) (by assumption) ?qrest0
  case qhy0 => (intro w hSw; (try dsimp only at hSw); go_simp; try with_reducible rfl)
  try simp only [Act.put, List.getElem_toArray, List.getElem_cons_succ, List.getElem_cons_zero, List.setIfInBounds_toArray, List.set_cons_zero, List.set_cons_succ]
  refine wpAnyH_take (i := 1) (v := ?qv1) rfl (by kernel_rfl) (by kernel_rfl) (by kernel_rfl) (by intro _ _ _ h; exact h) (Or.inl ⟨by rfl, ?qhy1⟩) (by assumption) ?qrest1
  case qhy1 => (intro w hSw; (try dsimp only at hSw); go_simp; try with_reducible rfl)
  try simp only [Act.put, List.getElem_toArray, List.getElem_cons_succ, List.getElem_cons_zero, List.setIfInBounds_toArray, List.set_cons_zero, List.set_cons_succ]
  refine wpAnyH_take (i := 2) (v := ?qv2) rfl (by kernel_rfl) (by kernel_rfl) (by kernel_rfl) (by intro _ _ _ h; exact h) (Or.inl ⟨by rfl, ?qhy2⟩) (by assumption) ?qrest2
  case qhy2 => (intro w hSw; (try dsimp only at hSw); go_simp; try with_reducible rfl)
  try simp only [Act.put, List.getElem_toArray, List.getElem_cons_succ, List.getElem_cons_zero, List.setIfInBounds_toArray, List.set_cons_zero, List.set_cons_succ]
  refine wpAnyH_ready (rs := [3]) (by kernel_rfl) (by simp) ?_
  refine AllReadyH.cons rfl (fun K hK => ?_) AllReadyH.nil
  go_simp
  go_wp2_with (go_at_call 28; refine (prefixCompare b m a n _).mono ?_; rw [H1r.out]; rintro _ w4 ⟨rfl, b4⟩)
  refine hK.out _ _ ?_ (fun hHeld => ?_)
  · try dsimp only
    first | (refine keep33 hg3 b6 ?_; assumption) | (refine keep33 hg3 b5 ?_; assumption) | (refine keep33 hg3 b4 ?_; assumption) | ((repeat' apply And.intro) <;> first | (with_reducible exact Below.drew (Below.refl _ _)) | (with_reducible assumption) | go_keep)
  clear hK K
  refine wpAnyH_take (i := 4) (v := ?qv4) rfl (by kernel_rfl) (by kernel_rfl) (by kernel_rfl) (by intro _ _ _ h; exact h) (Or.inl ⟨by rfl, ?qhy4⟩) (by assumption) ?qrest4
  case qhy4 => (intro w hSw; (try dsimp only at hSw); go_simp; try with_reducible rfl)
  try simp only [Act.put, List.getElem_toArray, List.getElem_cons_succ, List.getElem_cons_zero, List.setIfInBounds_toArray, List.set_cons_zero, List.set_cons_succ]
  refine wpAnyH_take (i := 5) (v := ?qv5) rfl (by kernel_rfl) (by kernel_rfl) (by kernel_rfl) (by intro _ _ _ h; exact h) (Or.inl ⟨by rfl, ?qhy5⟩) (by assumption) ?qrest5
  case qhy5 => (intro w hSw; (try dsimp only at hSw); go_simp; try with_reducible rfl)
  try simp only [Act.put, List.getElem_toArray, List.getElem_cons_succ, List.getElem_cons_zero, List.setIfInBounds_toArray, List.set_cons_zero, List.set_cons_succ]
  refine wpAnyH_take (i := 6) (v := ?qv6) rfl (by kernel_rfl) (by kernel_rfl) (by kernel_rfl) (by intro _ _ _ h; exact h) (Or.inl ⟨by rfl, ?qhy6⟩) (by assumption) ?qrest6
  case qhy6 => (intro w hSw; (try dsimp only at hSw); go_simp; try with_reducible rfl)
  try simp only [Act.put, List.getElem_toArray, List.getElem_cons_succ, List.getElem_cons_zero, List.setIfInBounds_toArray, List.set_cons_zero, List.set_cons_succ]
  refine wpAnyH_take (i := 7) (v := ?qv7) rfl (by kernel_rfl) (by kernel_rfl) (by kernel_rfl) (by intro _ _ _ h; exact h) (Or.inl ⟨by rfl, ?qhy7⟩) (by assumption) ?qrest7
  case qhy7 => (intro w hSw; (try dsimp only at hSw); go_simp; try with_reducible rfl)
  try simp only [Act.put, List.getElem_toArray, List.getElem_cons_succ, List.getElem_cons_zero, List.setIfInBounds_toArray, List.set_cons_zero, List.set_cons_succ]
  refine wpAnyH_take (i := 8) (v := ?qv8) rfl (by kernel_rfl) (by kernel_rfl) (by kernel_rfl) (by intro _ _ _ h; exact h) (Or.inl ⟨by rfl, ?qhy8⟩) (by assumption) ?qrest8
  case qhy8 => (intro w hSw; (try dsimp only at hSw); go_simp; try with_reducible rfl)
  try simp only [Act.put, List.getElem_toArray, List.getElem_cons_succ, List.getElem_cons_zero, List.setIfInBounds_toArray, List.set_cons_zero, List.set_cons_succ]
  refine wpAnyH_take (i := 9) (v := ?qv9) rfl (by kernel_rfl) (by kernel_rfl) (by kernel_rfl) (by intro _ _ _ h; exact h) (Or.inl ⟨by rfl, ?qhy9⟩) (by assumption) ?qrest9
  case qhy9 => (intro w hSw; (try dsimp only at hSw); go_simp; try with_reducible rfl)
  try simp only [Act.put, List.getElem_toArray, List.getElem_cons_succ, List.getElem_cons_zero, List.setIfInBounds_toArray, List.set_cons_zero, List.set_cons_succ]
  refine wpAnyH_take (i := 10) (v := ?qv10) rfl (by kernel_rfl) (by kernel_rfl) (by kernel_rfl) (by intro _ _ _ h; exact h) (Or.inl ⟨by rfl, ?qhy10⟩) (by assumption) ?qrest10
  case qhy10 => (intro w hSw; (try dsimp only at hSw); go_simp; try with_reducible rfl)
  try simp only [Act.put, List.getElem_toArray, List.getElem_cons_succ, List.getElem_cons_zero, List.setIfInBounds_toArray, List.set_cons_zero, List.set_cons_succ]
  refine wpAnyH_take (i := 11) (v := .bool false) rfl (by kernel_rfl) (by kernel_rfl) (by kernel_rfl) (by intro _ _ _ h; exact h) (Or.inl ⟨by rfl, ?qhy11⟩) (by assumption) ?qrest11
  case qhy11 => (intro w hSw; (try dsimp only at hSw); go_simp; (intro e1 e2; exact hne ⟨by omega, e2⟩))
  try simp only [Act.put, List.getElem_toArray, List.getElem_cons_succ, List.getElem_cons_zero, List.setIfInBounds_toArray, List.set_cons_zero, List.set_cons_succ]
  refine wpAnyH_take (i := 12) (v := ?qv12) rfl (by kernel_rfl) (by kernel_rfl) (by kernel_rfl) (by intro _ _ _ h; exact h) (Or.inl ⟨by rfl, ?qhy12⟩) (by assumption) ?qrest12
  case qhy12 => (intro w hSw; (try dsimp only at hSw); go_simp; try with_reducible rfl)
  try simp only [Act.put, List.getElem_toArray, List.getElem_cons_succ, List.getElem_cons_zero, List.setIfInBounds_toArray, List.set_cons_zero, List.set_cons_succ]
  refine wpAnyH_take (i := 13) (v := ?qv13) rfl (by kernel_rfl) (by kernel_rfl) (by kernel_rfl) (by intro _ _ _ h; exact h) (Or.inl ⟨by rfl, ?qhy13⟩) (by assumption) ?qrest13
  case qhy13 => (intro w hSw; (try dsimp only at hSw); go_simp; try with_reducible rfl)
  try simp only [Act.put, List.getElem_toArray, List.getElem_cons_succ, List.getElem_cons_zero, List.setIfInBounds_toArray, List.set_cons_zero, List.set_cons_succ]
  refine wpAnyH_take (i := 14) (v := ?qv14) rfl (by kernel_rfl) (by kernel_rfl) (by kernel_rfl) (by intro _ _ _ h; exact h) (Or.inl ⟨by rfl, ?qhy14⟩) (by assumption) ?qrest14
  case qhy14 => (intro w hSw; (try dsimp only at hSw); go_simp; try with_reducible rfl)
  try simp only [Act.put, List.getElem_toArray, List.getElem_cons_succ, List.getElem_cons_zero, List.setIfInBounds_toArray, List.set_cons_zero, List.set_cons_succ]
  refine wpAnyH_take (i := 15) (v := ?qv15) rfl (by kernel_rfl) (by kernel_rfl) (by kernel_rfl) (by intro _ _ _ h; exact h) (Or.inl ⟨by rfl, ?qhy15⟩) (by assumption) ?qrest15
  case qhy15 => (intro w hSw; (try dsimp only at hSw); go_simp; try with_reducible rfl)
  try simp only [Act.put, List.getElem_toArray, List.getElem_cons_succ, List.getElem_cons_zero, List.setIfInBounds_toArray, List.set_cons_zero, List.set_cons_succ]
  refine wpAnyH_take (i := 16) (v := ?qv16) rfl (by kernel_rfl) (by kernel_rfl) (by kernel_rfl) (by intro _ _ _ h; exact h) (Or.inl ⟨by rfl, ?qhy16⟩) (by assumption) ?qrest16
  case qhy16 => (intro w hSw; (try dsimp only at hSw); go_simp; try with_reducible rfl)
  try simp only [Act.put, List.getElem_toArray, List.getElem_cons_succ, List.getElem_cons_zero, List.setIfInBounds_toArray, List.set_cons_zero, List.set_cons_succ]
  refine wpAnyH_take (i := 17) (v := ?qv17) rfl (by kernel_rfl) (by kernel_rfl) (by kernel_rfl) (by intro _ _ _ h; exact h) (Or.inl ⟨by rfl, ?qhy17⟩) (by assumption) ?qrest17
  case qhy17 => (intro w hSw; (try dsimp only at hSw); go_simp; try with_reducible rfl)
  try simp only [Act.put, List.getElem_toArray, List.getElem_cons_succ, List.getElem_cons_zero, List.setIfInBounds_toArray, List.set_cons_zero, List.set_cons_succ]
  refine wpAnyH_take (i := 18) (v := ?qv18) rfl (by kernel_rfl) (by kernel_rfl) (by kernel_rfl) (by intro _ _ _ h; exact h) (Or.inl ⟨by rfl, ?qhy18⟩) (by assumption) ?qrest18
  case qhy18 => (intro w hSw; (try dsimp only at hSw); go_simp; try with_reducible rfl)
  try simp only [Act.put, List.getElem_toArray, List.getElem_cons_succ, List.getElem_cons_zero, List.setIfInBounds_toArray, List.set_cons_zero, List.set_cons_succ]
  refine wpAnyH_take (i := 19) (v := ?qv19) rfl (by kernel_rfl) (by kernel_rfl) (by kernel_rfl) (by intro _ _ _ h; exact h) (Or.inl ⟨by rfl, ?qhy19⟩) (by assumption) ?qrest19
  case qhy19 => (intro w hSw; (try dsimp only at hSw); go_simp; try with_reducible rfl)
  try simp only [Act.put, List.getElem_toArray, List.getElem_cons_succ, List.getElem_cons_zero, List.setIfInBounds_toArray, List.set_cons_zero, List.set_cons_succ]
  refine wpAnyH_take (i := 20) (v := ?qv20) rfl (by kernel_rfl) (by kernel_rfl) (by kernel_rfl) (by intro _ _ _ h; exact h) (Or.inl ⟨by rfl, ?qhy20⟩) (by assumption) ?qrest20
  case qhy20 => (intro w hSw; (try dsimp only at hSw); go_simp; try with_reducible rfl)
  try simp only [Act.put, List.getElem_toArray, List.getElem_cons_succ, List.getElem_cons_zero, List.setIfInBounds_toArray, List.set_cons_zero, List.set_cons_succ]
  refine wpAnyH_take (i := 21) (v := ?qv21) rfl (by kernel_rfl) (by kernel_rfl) (by kernel_rfl) (by intro _ _ _ h; exact h) (Or.inl ⟨by rfl, ?qhy21⟩) (by assumption) ?qrest21
  case qhy21 => (intro w hSw; (try dsimp only at hSw); go_simp; try with_reducible rfl)
  try simp only [Act.put, List.getElem_toArray, List.getElem_cons_succ, List.getElem_cons_zero, List.setIfInBounds_toArray, List.set_cons_zero, List.set_cons_succ]
  refine wpAnyH_take (i := 22) (v := undef) rfl (by kernel_rfl) (by kernel_rfl) (by kernel_rfl) (by intro _ _ _ h; exact h) (Or.inr ⟨by rfl, rfl⟩) (by assumption) ?_
  try simp only [Act.put, List.getElem_toArray, List.getElem_cons_succ, List.getElem_cons_zero, List.setIfInBounds_toArray, List.set_cons_zero, List.set_cons_succ]
  refine wpAnyH_take (i := 23) (v := undef) rfl (by kernel_rfl) (by kernel_rfl) (by kernel_rfl) (by intro _ _ _ h; exact h) (Or.inr ⟨by rfl, rfl⟩) (by assumption) ?_
  try simp only [Act.put, List.getElem_toArray, List.getElem_cons_succ, List.getElem_cons_zero, List.setIfInBounds_toArray, List.set_cons_zero, List.set_cons_succ]
  refine wpAnyH_take (i := 24) (v := ?qv24) rfl (by kernel_rfl) (by kernel_rfl) (by kernel_rfl) (by intro _ _ _ h; exact h) (Or.inl ⟨by rfl, ?qhy24⟩) (by assumption) ?qrest24
  case qhy24 => (intro w hSw; (try dsimp only at hSw); go_simp; try with_reducible rfl)
  try simp only [Act.put, List.getElem_toArray, List.getElem_cons_succ, List.getElem_cons_zero, List.setIfInBounds_toArray, List.set_cons_zero, List.set_cons_succ]
  refine wpAnyH_take (i := 25) (v := ?qv25) rfl (by kernel_rfl) (by kernel_rfl) (by kernel_rfl) (by intro _ _ _ h; exact h) (Or.inl ⟨by rfl, ?qhy25⟩) (by assumption) ?qrest25
  case qhy25 => (intro w hSw; (try dsimp only at hSw); go_simp; try with_reducible rfl)
  try simp only [Act.put, List.getElem_toArray, List.getElem_cons_succ, List.getElem_cons_zero, List.setIfInBounds_toArray, List.set_cons_zero, List.set_cons_succ]
  refine wpAnyH_take (i := 26) (v := ?qv26) rfl (by kernel_rfl) (by kernel_rfl) (by kernel_rfl) (by intro _ _ _ h; exact h) (Or.inl ⟨by rfl, ?qhy26⟩) (by assumption) ?qrest26
  case qhy26 => (intro w hSw; (try dsimp only at hSw); go_simp; try with_reducible rfl)
  try simp only [Act.put, List.getElem_toArray, List.getElem_cons_succ, List.getElem_cons_zero, List.setIfInBounds_toArray, List.set_cons_zero, List.set_cons_succ]
  refine wpAnyH_take (i := 27) (v := ?qv27) rfl (by kernel_rfl) (by kernel_rfl) (by kernel_rfl) (by intro _ _ _ h; exact h) (Or.inl ⟨by rfl, ?qhy27⟩) (by assumption) ?qrest27
  case qhy27 => (intro w hSw; (try dsimp only at hSw); go_simp; try with_reducible rfl)
  try simp only [Act.put, List.getElem_toArray, List.getElem_cons_succ, List.getElem_cons_zero, List.setIfInBounds_toArray, List.set_cons_zero, List.set_cons_succ]
  refine wpAnyH_take (i := 28) (v := ?qv28) rfl (by kernel_rfl) (by kernel_rfl) (by kernel_rfl) (by intro _ _ _ h; exact h) (Or.inl ⟨by rfl, ?qhy28⟩) (by assumption) ?qrest28
  case qhy28 => (intro w hSw; (try dsimp only at hSw); go_simp; try with_reducible rfl)
  try simp only [Act.put, List.getElem_toArray, List.getElem_cons_succ, List.getElem_cons_zero, List.setIfInBounds_toArray, List.set_cons_zero, List.set_cons_succ]
  refine wpAnyH_take (i := 30) (v := ?qv30) rfl (by kernel_rfl) (by kernel_rfl) (by kernel_rfl) (by intro _ _ _ h; exact h) (Or.inl ⟨by rfl, ?qhy30⟩) (by assumption) ?qrest30
  case qhy30 => (intro w hSw; (try dsimp only at hSw); go_simp; try with_reducible rfl)
  try simp only [Act.put, List.getElem_toArray, List.getElem_cons_succ, List.getElem_cons_zero, List.setIfInBounds_toArray, List.set_cons_zero, List.set_cons_succ]
  refine wpAnyH_ready (rs := [29]) (by kernel_rfl) (by simp) ?_
  refine AllReadyH.cons rfl (fun K hK => ?_) AllReadyH.nil
  go_simp
  go_wp2_with (go_at_call 29; refine (prefixCovers a ha n a ha n _).mono ?_; rw [HC.out]; rintro _ w5 ⟨rfl, b5⟩)
  refine hK.out _ _ ?_ (fun hHeld => ?_)
  · try dsimp only
    first | (refine keep33 hg3 b6 ?_; assumption) | (refine keep33 hg3 b5 ?_; assumption) | (refine keep33 hg3 b4 ?_; assumption) | ((repeat' apply And.intro) <;> first | (with_reducible exact Below.drew (Below.refl _ _)) | (with_reducible assumption) | go_keep)
  clear hK K
  refine wpAnyH_ready (rs := [31]) (by kernel_rfl) (by simp) ?_
  refine AllReadyH.cons rfl (fun K hK => ?_) AllReadyH.nil
  go_simp
  go_wp2_with (go_at_call 24; refine (prefixRight a ha n _).mono ?_; rw [HR.out]; rintro _ w6 ⟨rfl, b6⟩)
  refine hK.out _ _ ?_ (fun hHeld => ?_)
  · try dsimp only
    first | (refine keep33 hg3 b6 ?_; assumption) | (refine keep33 hg3 b5 ?_; assumption) | (refine keep33 hg3 b4 ?_; assumption) | ((repeat' apply And.intro) <;> first | (with_reducible exact Below.drew (Below.refl _ _)) | (with_reducible assumption) | go_keep)
  clear hK K
  refine wpAnyH_take (i := 32) (v := ?qv32) rfl (by kernel_rfl) (by kernel_rfl) (by kernel_rfl) (by intro _ _ _ h; exact h) (Or.inl ⟨by rfl, ?qhy32⟩) (by assumption) ?qrest32
  case qhy32 => (intro w hSw; (try dsimp only at hSw); go_simp; try with_reducible rfl)
  try simp only [Act.put, List.getElem_toArray, List.getElem_cons_succ, List.getElem_cons_zero, List.setIfInBounds_toArray, List.set_cons_zero, List.set_cons_succ]
  refine wpAnyH_take (i := 33) (v := ?qv33) rfl (by kernel_rfl) (by kernel_rfl) (by kernel_rfl) (by intro _ _ _ h; exact h) (Or.inl ⟨by rfl, ?qhy33⟩) (by assumption) ?qrest33
  case qhy33 => (intro w hSw; (try dsimp only at hSw); go_simp; try with_reducible rfl)
  try simp only [Act.put, List.getElem_toArray, List.getElem_cons_succ, List.getElem_cons_zero, List.setIfInBounds_toArray, List.set_cons_zero, List.set_cons_succ]
  refine wpAnyH_done (by kernel_rfl) ?_ _
  go_wp2_with fail
  obtain ⟨hs7, _, _, _, _, _, _⟩ := hHeld
  have b06 := btr b03 hs7 b03.size
  have hD6 := hD3.below hs7 hD3.lt
  have hE6 := hE3.below hs7 hE3.lt
  have hF6 := hF3.below hs7 hF3.lt
  clear x0 x1 y0 y1 z0 z1 d0 d1 e0 e1 g0 g1 b0 b1 b2 b3 b4 b5 b6 hD hE hF hD3 hE3 hF3 hgl hg3 t0 t3 hs7
  have x60 := hD6.cell 0
  have x61 := hD6.cell 1
  have y60 := hE6.cell 0
  have y61 := hE6.cell 1
  have z60 := hF6.cell 0
  have z61 := hF6.cell 1
  cases X
  · go_wp2_with fail
    refine (prefixCovers a ha n b hb m _).mono ?_
    rw [HX.out]
    rintro _ w7 ⟨rfl, b7⟩
    have b07 := btr b06 b7 b06.size
    clear x60 x61 y60 y61 z60 z61
    have hD7 := hD6.below b7 hD6.lt
    have x70 := hD7.cell 0
    have x71 := hD7.cell 1
    have hE7 := hE6.below b7 hE6.lt
    have y70 := hE7.cell 0
    have y71 := hE7.cell 1
    have hF7 := hF6.below b7 hF6.lt
    have z70 := hF7.cell 0
    have z71 := hF7.cell 1
    go_wp2_with fail
    refine (prefixCovers a ha n b hb m _).mono ?_
    rw [HX.out]
    rintro _ w8 ⟨rfl, b8⟩
    have b08 := btr b07 b8 b07.size
    clear x70 x71 y70 y71 z70 z71
    have hD8 := hD7.below b8 hD7.lt
    have x80 := hD8.cell 0
    have x81 := hD8.cell 1
    have hE8 := hE7.below b8 hE7.lt
    have y80 := hE8.cell 0
    have y81 := hE8.cell 1
    have hF8 := hF7.below b8 hF7.lt
    have z80 := hF8.cell 0
    have z81 := hF8.cell 1
    go_wp2_with fail
    refine (prefixCovers a ha n b hb m _).mono ?_
    rw [HX.out]
    rintro _ w9 ⟨rfl, b9⟩
    have b09 := btr b08 b9 b08.size
    clear x80 x81 y80 y81 z80 z81
    have hD9 := hD8.below b9 hD8.lt
    have x90 := hD9.cell 0
    have x91 := hD9.cell 1
    have hE9 := hE8.below b9 hE8.lt
    have y90 := hE9.cell 0
    have y91 := hE9.cell 1
    have hF9 := hF8.below b9 hF8.lt
    have z90 := hF9.cell 0
    have z91 := hF9.cell 1
    go_wp2_with fail
    refine (awake02 _ (ht.call b09)).mono ?_
    rintro _ w10 ⟨rfl, b10⟩
    have b010 := btr b09 b10 b09.size
    clear x90 x91 y90 y91 z90 z91
    have hD10 := hD9.below b10 hD9.lt
    have x100 := hD10.cell 0
    have x101 := hD10.cell 1
    have hE10 := hE9.below b10 hE9.lt
    have y100 := hE10.cell 0
    have y101 := hE10.cell 1
    have hF10 := hF9.below b10 hF9.lt
    have z100 := hF10.cell 0
    have z101 := hF10.cell 1
    try go_wp2_with fail
    go_ret
    exact ⟨rfl, b010⟩
  · have f4 := f2 rfl
    cases Z
    · cases Y
      · go_wp2_with fail
        refine (prefixCovers a ha n b hb m _).mono ?_
        rw [HX.out]
        rintro _ w7 ⟨rfl, b7⟩
        have b07 := btr b06 b7 b06.size
        clear x60 x61 y60 y61 z60 z61
        have hD7 := hD6.below b7 hD6.lt
        have x70 := hD7.cell 0
        have x71 := hD7.cell 1
        have hE7 := hE6.below b7 hE6.lt
        have y70 := hE7.cell 0
        have y71 := hE7.cell 1
        have hF7 := hF6.below b7 hF6.lt
        have z70 := hF7.cell 0
        have z71 := hF7.cell 1
        go_wp2_with fail
        refine (prefixCovers b hb m c hc k _).mono ?_
        rw [HY.out]
        rintro _ w8 ⟨rfl, b8⟩
        have b08 := btr b07 b8 b07.size
        clear x70 x71 y70 y71 z70 z71
        have hD8 := hD7.below b8 hD7.lt
        have x80 := hD8.cell 0
        have x81 := hD8.cell 1
        have hE8 := hE7.below b8 hE7.lt
        have y80 := hE8.cell 0
        have y81 := hE8.cell 1
        have hF8 := hF7.below b8 hF7.lt
        have z80 := hF8.cell 0
        have z81 := hF8.cell 1
        go_wp2_with fail
        refine (prefixCovers a ha n b hb m _).mono ?_
        rw [HX.out]
        rintro _ w9 ⟨rfl, b9⟩
        have b09 := btr b08 b9 b08.size
        clear x80 x81 y80 y81 z80 z81
        have hD9 := hD8.below b9 hD8.lt
        have x90 := hD9.cell 0
        have x91 := hD9.cell 1
        have hE9 := hE8.below b9 hE8.lt
        have y90 := hE9.cell 0
        have y91 := hE9.cell 1
        have hF9 := hF8.below b9 hF8.lt
        have z90 := hF9.cell 0
        have z91 := hF9.cell 1
        go_wp2_with fail
        refine (prefixCovers b hb m a ha n _).mono ?_
        rw [HZ.out]
        rintro _ w10 ⟨rfl, b10⟩
        have b010 := btr b09 b10 b09.size
        clear x90 x91 y90 y91 z90 z91
        have hD10 := hD9.below b10 hD9.lt
        have x100 := hD10.cell 0
        have x101 := hD10.cell 1
        have hE10 := hE9.below b10 hE9.lt
        have y100 := hE10.cell 0
        have y101 := hE10.cell 1
        have hF10 := hF9.below b10 hF9.lt
        have z100 := hF10.cell 0
        have z101 := hF10.cell 1
        go_wp2_with fail
        refine (prefixCovers a ha n b hb m _).mono ?_
        rw [HX.out]
        rintro _ w11 ⟨rfl, b11⟩
        have b011 := btr b010 b11 b010.size
        clear x100 x101 y100 y101 z100 z101
        have hD11 := hD10.below b11 hD10.lt
        have x110 := hD11.cell 0
        have x111 := hD11.cell 1
        have hE11 := hE10.below b11 hE10.lt
        have y110 := hE11.cell 0
        have y111 := hE11.cell 1
        have hF11 := hF10.below b11 hF10.lt
        have z110 := hF11.cell 0
        have z111 := hF11.cell 1
        go_wp2_with fail
        refine (awake02 _ (ht.call b011)).mono ?_
        rintro _ w12 ⟨rfl, b12⟩
        have b012 := btr b011 b12 b011.size
        clear x110 x111 y110 y111 z110 z111
        have hD12 := hD11.below b12 hD11.lt
        have x120 := hD12.cell 0
        have x121 := hD12.cell 1
        have hE12 := hE11.below b12 hE11.lt
        have y120 := hE12.cell 0
        have y121 := hE12.cell 1
        have hF12 := hF11.below b12 hF11.lt
        have z120 := hF12.cell 0
        have z121 := hF12.cell 1
        try go_wp2_with fail
        go_ret
        exact ⟨rfl, b012⟩
      · have f5 := f1 rfl rfl
        subst f5
        go_wp2_with fail
        refine (prefixCovers a ha n b hb m _).mono ?_
        rw [HX.out]
        rintro _ w7 ⟨rfl, b7⟩
        have b07 := btr b06 b7 b06.size
        clear x60 x61 y60 y61 z60 z61
        have hD7 := hD6.below b7 hD6.lt
        have x70 := hD7.cell 0
        have x71 := hD7.cell 1
        have hE7 := hE6.below b7 hE6.lt
        have y70 := hE7.cell 0
        have y71 := hE7.cell 1
        have hF7 := hF6.below b7 hF6.lt
        have z70 := hF7.cell 0
        have z71 := hF7.cell 1
        go_wp2_with fail
        refine (prefixCovers b hb m c hc k _).mono ?_
        rw [HY.out]
        rintro _ w8 ⟨rfl, b8⟩
        have b08 := btr b07 b8 b07.size
        clear x70 x71 y70 y71 z70 z71
        have hD8 := hD7.below b8 hD7.lt
        have x80 := hD8.cell 0
        have x81 := hD8.cell 1
        have hE8 := hE7.below b8 hE7.lt
        have y80 := hE8.cell 0
        have y81 := hE8.cell 1
        have hF8 := hF7.below b8 hF7.lt
        have z80 := hF8.cell 0
        have z81 := hF8.cell 1
        go_wp2_with fail
        refine (prefixCovers a ha n c hc k _).mono ?_
        rw [HU.out]
        rintro _ w9 ⟨rfl, b9⟩
        have b09 := btr b08 b9 b08.size
        clear x80 x81 y80 y81 z80 z81
        have hD9 := hD8.below b9 hD8.lt
        have x90 := hD9.cell 0
        have x91 := hD9.cell 1
        have hE9 := hE8.below b9 hE8.lt
        have y90 := hE9.cell 0
        have y91 := hE9.cell 1
        have hF9 := hF8.below b9 hF8.lt
        have z90 := hF9.cell 0
        have z91 := hF9.cell 1
        go_wp2_with fail
        refine (prefixCovers a ha n b hb m _).mono ?_
        rw [HX.out]
        rintro _ w10 ⟨rfl, b10⟩
        have b010 := btr b09 b10 b09.size
        clear x90 x91 y90 y91 z90 z91
        have hD10 := hD9.below b10 hD9.lt
        have x100 := hD10.cell 0
        have x101 := hD10.cell 1
        have hE10 := hE9.below b10 hE9.lt
        have y100 := hE10.cell 0
        have y101 := hE10.cell 1
        have hF10 := hF9.below b10 hF9.lt
        have z100 := hF10.cell 0
        have z101 := hF10.cell 1
        go_wp2_with fail
        refine (prefixCovers b hb m a ha n _).mono ?_
        rw [HZ.out]
        rintro _ w11 ⟨rfl, b11⟩
        have b011 := btr b010 b11 b010.size
        clear x100 x101 y100 y101 z100 z101
        have hD11 := hD10.below b11 hD10.lt
        have x110 := hD11.cell 0
        have x111 := hD11.cell 1
        have hE11 := hE10.below b11 hE10.lt
        have y110 := hE11.cell 0
        have y111 := hE11.cell 1
        have hF11 := hF10.below b11 hF10.lt
        have z110 := hF11.cell 0
        have z111 := hF11.cell 1
        go_wp2_with fail
        refine (prefixCovers a ha n b hb m _).mono ?_
        rw [HX.out]
        rintro _ w12 ⟨rfl, b12⟩
        have b012 := btr b011 b12 b011.size
        clear x110 x111 y110 y111 z110 z111
        have hD12 := hD11.below b12 hD11.lt
        have x120 := hD12.cell 0
        have x121 := hD12.cell 1
        have hE12 := hE11.below b12 hE11.lt
        have y120 := hE12.cell 0
        have y121 := hE12.cell 1
        have hF12 := hF11.below b12 hF11.lt
        have z120 := hF12.cell 0
        have z121 := hF12.cell 1
        go_wp2_with fail
        refine (awake02 _ (ht.call b012)).mono ?_
        rintro _ w13 ⟨rfl, b13⟩
        have b013 := btr b012 b13 b012.size
        clear x120 x121 y120 y121 z120 z121
        have hD13 := hD12.below b13 hD12.lt
        have x130 := hD13.cell 0
        have x131 := hD13.cell 1
        have hE13 := hE12.below b13 hE12.lt
        have y130 := hE13.cell 0
        have y131 := hE13.cell 1
        have hF13 := hF12.below b13 hF12.lt
        have z130 := hF13.cell 0
        have z131 := hF13.cell 1
        try go_wp2_with fail
        go_ret
        exact ⟨rfl, b013⟩
    · exact (f4 rfl).elim
set_option maxHeartbeats 16000000 in
set_option maxRecDepth 100000 in
set_option linter.unusedSimpArgs false in
theorem prefixOrder_ltl (w : World) (a : Nat) (n : Int) (ha : a < 4294967296) (b : Nat) (hb : b < 4294967296) (m : Int) (c : Nat) (k : Int) (hc : c < 4294967296) (ht : DigTab w)
    (h1 : pCmp a n b m = -1) (h1r : pCmp b m a n = 1) (hne : ¬ (a = b ∧ n = m))
    (h2 : pCmp b m c k ≤ 0) :
    Calls Tryd.prog 5 #[.agg #[.int .u32 a, .int .i64 n], .agg #[.int .u32 b, .int .i64 m], .agg #[.int .u32 c, .int .i64 k]] w fun en w' => en = .returned (.bool true) ∧ Below w.heap.size w w' := by
  have h3 : pCmp a n c k ≤ 0 := cmp_trans (by rw [h1]; decide) h2
  obtain ⟨P, hP⟩ : ∃ P, pCmp b m c k = P := ⟨_, rfl⟩
  obtain ⟨Q, hQ⟩ : ∃ Q, pCmp a n c k = Q := ⟨_, rfl⟩
  have p2 : decide (P ≤ 0) = true := decide_eq_true (hP ▸ h2)
  have p3 : decide (0 < Q) = false := decide_eq_false (Int.not_lt.2 (hQ ▸ h3))
  clear h3
  have hwr : IntKind.i64.wrap (-1) = -1 := by decide
  obtain ⟨R, hR⟩ : ∃ R, pRight a n = R := ⟨_, rfl⟩
  have hC := (covers_refl a n).trans hR
  have eab : ((a : Int) == (b : Int) && n == m) = false := by
    rw [Bool.and_eq_false_iff, beq_eq_false_iff_ne, beq_eq_false_iff_ne]
    omega
  obtain ⟨U, hU⟩ : ∃ U, pCovers a n c k = U := ⟨_, rfl⟩
  obtain ⟨X, hX⟩ : ∃ X, pCovers a n b m = X := ⟨_, rfl⟩
  obtain ⟨Y, hY⟩ : ∃ Y, pCovers b m c k = Y := ⟨_, rfl⟩
  obtain ⟨Z, hZ⟩ : ∃ Z, pCovers b m a n = Z := ⟨_, rfl⟩
  have f1 : X = true → Y = true → U = true := fun e f => hU ▸ covers_trans (hX.trans e) (hY.trans f)
  have f2 : X = true → Z = true → False := fun e f => hne (covers_anti (hX.trans e) (hZ.trans f))
  have H1 := Lib.hid h1
  have H1r := Lib.hid h1r
  have HX := Lib.hid hX
  have HY := Lib.hid hY
  have HZ := Lib.hid hZ
  have HQ := Lib.hid hQ
  clear h1r hX hY hZ hQ
  have HP := Lib.hid hP
  have HR := Lib.hid hR
  have HC := Lib.hid hC
  have HU := Lib.hid hU
  clear h1 h2 hP hR hC hU
  go_enter Tryd.func5, Tryd.ntmps5
  go_wp2_with fail
  obtain ⟨W, hW, hD, hE, hF, b0⟩ := box3 w (.int .u32 a) (.int .i64 n) (.int .u32 b) (.int .i64 m) (.int .u32 c) (.int .i64 k)
  rw [hW]
  clear hW
  have hgl := hF.lt
  have d0 := hD.cell 0
  have d1 := hD.cell 1
  have e0 := hE.cell 0
  have e1 := hE.cell 1
  have g0 := hF.cell 0
  have g1 := hF.cell 1
  have t0 := ht.call b0
  refine wp_region_held_drew (S := (fun w' => Below W.heap.size W w' ∧ w'.cell? ⟨w.heap.size, 0, none⟩ = some (.int .u32 a) ∧ w'.cell? ⟨w.heap.size, 1, none⟩ = some (.int .i64 n) ∧ w'.cell? ⟨w.heap.size + 1, 0, none⟩ = some (.int .u32 b) ∧ w'.cell? ⟨w.heap.size + 1, 1, none⟩ = some (.int .i64 m) ∧ w'.cell? ⟨w.heap.size + 1 + 1, 0, none⟩ = some (.int .u32 c) ∧ w'.cell? ⟨w.heap.size + 1 + 1, 1, none⟩ = some (.int .i64 k))) (by kernel_rfl) ?_ (fun hHeld => ?_)
  · first | (refine keep33 hgl b3 ?_; assumption) | (refine keep33 hgl b2 ?_; assumption) | (refine keep33 hgl b1 ?_; assumption) | ((repeat' apply And.intro) <;> first | (with_reducible exact Below.drew (Below.refl _ _)) | (with_reducible assumption) | go_keep)
  refine wpAnyH_take (i := 0) (v := ?pv0) rfl (by kernel_rfl) (by kernel_rfl) (by kernel_rfl) (by intro _ _ _ h; exact h) (Or.inl ⟨by rfl, ?phy0⟩) (by assumption) ?prest0
  case phy0 => (intro w hSw; (try dsimp only at hSw); go_simp; try with_reducible rfl)
  try simp only [Act.put, List.getElem_toArray, List.getElem_cons_succ, List.getElem_cons_zero, List.setIfInBounds_toArray, List.set_cons_zero, List.set_cons_succ]
  refine wpAnyH_take (i := 1) (v := ?pv1) rfl (by kernel_rfl) (by kernel_rfl) (by kernel_rfl) (by intro _ _ _ h; exact h) (Or.inl ⟨by rfl, ?phy1⟩) (by assumption) ?prest1
  case phy1 => (intro w hSw; (try dsimp only at hSw); go_simp; try with_reducible rfl)
  try simp only [Act.put, List.getElem_toArray, List.getElem_cons_succ, List.getElem_cons_zero, List.setIfInBounds_toArray, List.set_cons_zero, List.set_cons_succ]
  refine wpAnyH_take (i := 3) (v := ?pv3) rfl (by kernel_rfl) (by kernel_rfl) (by kernel_rfl) (by intro _ _ _ h; exact h) (Or.inl ⟨by rfl, ?phy3⟩) (by assumption) ?prest3
  case phy3 => (intro w hSw; (try dsimp only at hSw); go_simp; try with_reducible rfl)
  try simp only [Act.put, List.getElem_toArray, List.getElem_cons_succ, List.getElem_cons_zero, List.setIfInBounds_toArray, List.set_cons_zero, List.set_cons_succ]
  refine wpAnyH_take (i := 4) (v := ?pv4) rfl (by kernel_rfl) (by kernel_rfl) (by kernel_rfl) (by intro _ _ _ h; exact h) (Or.inl ⟨by rfl, ?phy4⟩) (by assumption) ?prest4
  case phy4 => (intro w hSw; (try dsimp only at hSw); go_simp; try with_reducible rfl)
  try simp only [Act.put, List.getElem_toArray, List.getElem_cons_succ, List.getElem_cons_zero, List.setIfInBounds_toArray, List.set_cons_zero, List.set_cons_succ]
  refine wpAnyH_take (i := 6) (v := ?pv6) rfl (by kernel_rfl) (by kernel_rfl) (by kernel_rfl) (by intro _ _ _ h; exact h) (Or.inl ⟨by rfl, ?phy6⟩) (by assumption) ?prest6
  case phy6 => (intro w hSw; (try dsimp only at hSw); go_simp; try with_reducible rfl)
  try simp only [Act.put, List.getElem_toArray, List.getElem_cons_succ, List.getElem_cons_zero, List.setIfInBounds_toArray, List.set_cons_zero, List.set_cons_succ]
  refine wpAnyH_take (i := 7) (v := ?pv7) rfl (by kernel_rfl) (by kernel_rfl) (by kernel_rfl) (by intro _ _ _ h; exact h) (Or.inl ⟨by rfl, ?phy7⟩) (by assumption) ?prest7
  case phy7 => (intro w hSw; (try dsimp only at hSw); go_simp; try with_reducible rfl)
  try simp only [Act.put, List.getElem_toArray, List.getElem_cons_succ, List.getElem_cons_zero, List.setIfInBounds_toArray, List.set_cons_zero, List.set_cons_succ]
  refine wpAnyH_ready (rs := [2]) (by kernel_rfl) (by simp) ?_
  refine AllReadyH.cons rfl (fun K hK => ?_) AllReadyH.nil
  go_simp
  go_wp2_with (go_at_call 28; refine (prefixCompare a n b m _).mono ?_; rw [H1.out]; rintro _ w1 ⟨rfl, b1⟩)
  refine hK.out _ _ ?_ (fun hHeld => ?_)
  · try dsimp only
    first | (refine keep33 hgl b3 ?_; assumption) | (refine keep33 hgl b2 ?_; assumption) | (refine keep33 hgl b1 ?_; assumption) | ((repeat' apply And.intro) <;> first | (with_reducible exact Below.drew (Below.refl _ _)) | (with_reducible assumption) | go_keep)
  clear hK K
  refine wpAnyH_ready (rs := [5]) (by kernel_rfl) (by simp) ?_
  refine AllReadyH.cons rfl (fun K hK => ?_) AllReadyH.nil
  go_simp
  go_wp2_with (go_at_call 28; refine (prefixCompare b m c k _).mono ?_; rw [HP.out]; rintro _ w2 ⟨rfl, b2⟩)
  refine hK.out _ _ ?_ (fun hHeld => ?_)
  · try dsimp only
    first | (refine keep33 hgl b3 ?_; assumption) | (refine keep33 hgl b2 ?_; assumption) | (refine keep33 hgl b1 ?_; assumption) | ((repeat' apply And.intro) <;> first | (with_reducible exact Below.drew (Below.refl _ _)) | (with_reducible assumption) | go_keep)
  clear hK K
  refine wpAnyH_ready (rs := [8]) (by kernel_rfl) (by simp) ?_
  refine AllReadyH.cons rfl (fun K hK => ?_) AllReadyH.nil
  go_simp
  go_wp2_with (go_at_call 28; refine (prefixCompare a n c k _).mono ?_; rw [HQ.out]; rintro _ w3 ⟨rfl, b3⟩)
  refine hK.out _ _ ?_ (fun hHeld => ?_)
  · try dsimp only
    first | (refine keep33 hgl b3 ?_; assumption) | (refine keep33 hgl b2 ?_; assumption) | (refine keep33 hgl b1 ?_; assumption) | ((repeat' apply And.intro) <;> first | (with_reducible exact Below.drew (Below.refl _ _)) | (with_reducible assumption) | go_keep)
  clear hK K
  refine wpAnyH_take (i := 9) (v := ?pv9) rfl (by kernel_rfl) (by kernel_rfl) (by kernel_rfl) (by intro _ _ _ h; exact h) (Or.inl ⟨by rfl, ?phy9⟩) (by assumption) ?prest9
  case phy9 => (intro w hSw; (try dsimp only at hSw); go_simp; try with_reducible rfl)
  try simp only [Act.put, List.getElem_toArray, List.getElem_cons_succ, List.getElem_cons_zero, List.setIfInBounds_toArray, List.set_cons_zero, List.set_cons_succ]
  refine wpAnyH_take (i := 10) (v := ?pv10) rfl (by kernel_rfl) (by kernel_rfl) (by kernel_rfl) (by intro _ _ _ h; exact h) (Or.inl ⟨by rfl, ?phy10⟩) (by assumption) ?prest10
  case phy10 => (intro w hSw; (try dsimp only at hSw); go_simp; try with_reducible rfl)
  try simp only [Act.put, List.getElem_toArray, List.getElem_cons_succ, List.getElem_cons_zero, List.setIfInBounds_toArray, List.set_cons_zero, List.set_cons_succ]
  refine wpAnyH_take (i := 11) (v := ?pv11) rfl (by kernel_rfl) (by kernel_rfl) (by kernel_rfl) (by intro _ _ _ h; exact h) (Or.inl ⟨by rfl, ?phy11⟩) (by assumption) ?prest11
  case phy11 => (intro w hSw; (try dsimp only at hSw); go_simp; try with_reducible rfl)
  try simp only [Act.put, List.getElem_toArray, List.getElem_cons_succ, List.getElem_cons_zero, List.setIfInBounds_toArray, List.set_cons_zero, List.set_cons_succ]
  refine wpAnyH_done (by kernel_rfl) ?_ _
  go_wp2_with fail
  obtain ⟨hs4, x0, x1, y0, y1, z0, z1⟩ := hHeld
  have b03 := btr b0 hs4 b0.size
  have t3 := ht.call b03
  have hg3 : w.heap.size + 1 + 1 < w3.heap.size := by have := hs4.size; omega
  have hD3 := hD.below hs4 hD.lt
  have hE3 := hE.below hs4 hE.lt
  have hF3 := hF.below hs4 hF.lt
  clear hs4
  refine wp_region_held_drew (S := (fun w' => Below w3.heap.size w3 w' ∧ w'.cell? ⟨w.heap.size, 0, none⟩ = some (.int .u32 a) ∧ w'.cell? ⟨w.heap.size, 1, none⟩ = some (.int .i64 n) ∧ w'.cell? ⟨w.heap.size + 1, 0, none⟩ = some (.int .u32 b) ∧ w'.cell? ⟨w.heap.size + 1, 1, none⟩ = some (.int .i64 m) ∧ w'.cell? ⟨w.heap.size + 1 + 1, 0, none⟩ = some (.int .u32 c) ∧ w'.cell? ⟨w.heap.size + 1 + 1, 1, none⟩ = some (.int .i64 k))) (by kernel_rfl) ?_ (fun hHeld => ?_)
  · first | (refine keep33 hg3 b6 ?_; assumption) | (refine keep33 hg3 b5 ?_; assumption) | (refine keep33 hg3 b4 ?_; assumption) | ((repeat' apply And.intro) <;> first | (with_reducible exact Below.drew (Below.refl _ _)) | (with_reducible assumption) | go_keep)
  refine wpAnyH_take (i := 0) (v := ?qv0) rfl (by kernel_rfl) (by kernel_rfl) (by kernel_rfl) (by intro _ _ _ h; exact h) (Or.inl ⟨by rfl, ?qhy0⟩) (by assumption) ?qrest0
  case qhy0 => (intro w hSw; (try dsimp only at hSw); go_simp; try with_reducible rfl)
  try simp only [Act.put, List.getElem_toArray, List.getElem_cons_succ, List.getElem_cons_zero, List.setIfInBounds_toArray, List.set_cons_zero, List.set_cons_succ]
  refine wpAnyH_take (i := 1) (v := ?qv1) rfl (by kernel_rfl) (by kernel_rfl) (by kernel_rfl) (by intro _ _ _ h; exact h) (Or.inl ⟨by rfl, ?qhy1⟩) (by assumption) ?qrest1
  case qhy1 => (intro w hSw; (try dsimp only at hSw); go_simp; try with_reducible rfl)
  try simp only [Act.put, List.getElem_toArray, List.getElem_cons_succ, List.getElem_cons_zero, List.setIfInBounds_toArray, List.set_cons_zero, List.set_cons_succ]
  refine wpAnyH_take (i := 2) (v := ?qv2) rfl (by kernel_rfl) (by kernel_rfl) (by kernel_rfl) (by intro _ _ _ h; exact h) (Or.inl ⟨by rfl, ?qhy2⟩) (by assumption) ?qrest2
  case qhy2 => (intro w hSw; (try dsimp only at hSw); go_simp; try with_reducible rfl)
  try simp only [Act.put, List.getElem_toArray, List.getElem_cons_succ, List.getElem_cons_zero, List.setIfInBounds_toArray, List.set_cons_zero, List.set_cons_succ]
  refine wpAnyH_ready (rs := [3]) (by kernel_rfl) (by simp) ?_
  refine AllReadyH.cons rfl (fun K hK => ?_) AllReadyH.nil
  go_simp
  go_wp2_with (go_at_call 28; refine (prefixCompare b m a n _).mono ?_; rw [H1r.out]; rintro _ w4 ⟨rfl, b4⟩)
  refine hK.out _ _ ?_ (fun hHeld => ?_)
  · try dsimp only
    first | (refine keep33 hg3 b6 ?_; assumption) | (refine keep33 hg3 b5 ?_; assumption) | (refine keep33 hg3 b4 ?_; assumption) | ((repeat' apply And.intro) <;> first | (with_reducible exact Below.drew (Below.refl _ _)) | (with_reducible assumption) | go_keep)
  clear hK K
  refine wpAnyH_take (i := 4) (v := ?qv4) rfl (by kernel_rfl) (by kernel_rfl) (by kernel_rfl) (by intro _ _ _ h; exact h) (Or.inl ⟨by rfl, ?qhy4⟩) (by assumption) ?qrest4
  case qhy4 => (intro w hSw; (try dsimp only at hSw); go_simp; try with_reducible rfl)
  try simp only [Act.put, List.getElem_toArray, List.getElem_cons_succ, List.getElem_cons_zero, List.setIfInBounds_toArray, List.set_cons_zero, List.set_cons_succ]
  refine wpAnyH_take (i := 5) (v := ?qv5) rfl (by kernel_rfl) (by kernel_rfl) (by kernel_rfl) (by intro _ _ _ h; exact h) (Or.inl ⟨by rfl, ?qhy5⟩) (by assumption) ?qrest5
  case qhy5 => (intro w hSw; (try dsimp only at hSw); go_simp; try with_reducible rfl)
  try simp only [Act.put, List.getElem_toArray, List.getElem_cons_succ, List.getElem_cons_zero, List.setIfInBounds_toArray, List.set_cons_zero, List.set_cons_succ]
  refine wpAnyH_take (i := 6) (v := ?qv6) rfl (by kernel_rfl) (by kernel_rfl) (by kernel_rfl) (by intro _ _ _ h; exact h) (Or.inl ⟨by rfl, ?qhy6⟩) (by assumption) ?qrest6
  case qhy6 => (intro w hSw; (try dsimp only at hSw); go_simp; try with_reducible rfl)
  try simp only [Act.put, List.getElem_toArray, List.getElem_cons_succ, List.getElem_cons_zero, List.setIfInBounds_toArray, List.set_cons_zero, List.set_cons_succ]
  refine wpAnyH_take (i := 7) (v := ?qv7) rfl (by kernel_rfl) (by kernel_rfl) (by kernel_rfl) (by intro _ _ _ h; exact h) (Or.inl ⟨by rfl, ?qhy7⟩) (by assumption) ?qrest7
  case qhy7 => (intro w hSw; (try dsimp only at hSw); go_simp; try with_reducible rfl)
  try simp only [Act.put, List.getElem_toArray, List.getElem_cons_succ, List.getElem_cons_zero, List.setIfInBounds_toArray, List.set_cons_zero, List.set_cons_succ]
  refine wpAnyH_take (i := 8) (v := ?qv8) rfl (by kernel_rfl) (by kernel_rfl) (by kernel_rfl) (by intro _ _ _ h; exact h) (Or.inl ⟨by rfl, ?qhy8⟩) (by assumption) ?qrest8
  case qhy8 => (intro w hSw; (try dsimp only at hSw); go_simp; try with_reducible rfl)
  try simp only [Act.put, List.getElem_toArray, List.getElem_cons_succ, List.getElem_cons_zero, List.setIfInBounds_toArray, List.set_cons_zero, List.set_cons_succ]
  refine wpAnyH_take (i := 9) (v := ?qv9) rfl (by kernel_rfl) (by kernel_rfl) (by kernel_rfl) (by intro _ _ _ h; exact h) (Or.inl ⟨by rfl, ?qhy9⟩) (by assumption) ?qrest9
  case qhy9 => (intro w hSw; (try dsimp only at hSw); go_simp; try with_reducible rfl)
  try simp only [Act.put, List.getElem_toArray, List.getElem_cons_succ, List.getElem_cons_zero, List.setIfInBounds_toArray, List.set_cons_zero, List.set_cons_succ]
  refine wpAnyH_take (i := 10) (v := ?qv10) rfl (by kernel_rfl) (by kernel_rfl) (by kernel_rfl) (by intro _ _ _ h; exact h) (Or.inl ⟨by rfl, ?qhy10⟩) (by assumption) ?qrest10
  case qhy10 => (intro w hSw; (try dsimp only at hSw); go_simp; try with_reducible rfl)
  try simp only [Act.put, List.getElem_toArray, List.getElem_cons_succ, List.getElem_cons_zero, List.setIfInBounds_toArray, List.set_cons_zero, List.set_cons_succ]
  refine wpAnyH_take (i := 11) (v := .bool false) rfl (by kernel_rfl) (by kernel_rfl) (by kernel_rfl) (by intro _ _ _ h; exact h) (Or.inl ⟨by rfl, ?qhy11⟩) (by assumption) ?qrest11
  case qhy11 => (intro w hSw; (try dsimp only at hSw); go_simp; (intro e1 e2; exact hne ⟨by omega, e2⟩))
  try simp only [Act.put, List.getElem_toArray, List.getElem_cons_succ, List.getElem_cons_zero, List.setIfInBounds_toArray, List.set_cons_zero, List.set_cons_succ]
  refine wpAnyH_take (i := 12) (v := ?qv12) rfl (by kernel_rfl) (by kernel_rfl) (by kernel_rfl) (by intro _ _ _ h; exact h) (Or.inl ⟨by rfl, ?qhy12⟩) (by assumption) ?qrest12
  case qhy12 => (intro w hSw; (try dsimp only at hSw); go_simp; try with_reducible rfl)
  try simp only [Act.put, List.getElem_toArray, List.getElem_cons_succ, List.getElem_cons_zero, List.setIfInBounds_toArray, List.set_cons_zero, List.set_cons_succ]
  refine wpAnyH_take (i := 13) (v := ?qv13) rfl (by kernel_rfl) (by kernel_rfl) (by kernel_rfl) (by intro _ _ _ h; exact h) (Or.inl ⟨by rfl, ?qhy13⟩) (by assumption) ?qrest13
  case qhy13 => (intro w hSw; (try dsimp only at hSw); go_simp; try with_reducible rfl)
  try simp only [Act.put, List.getElem_toArray, List.getElem_cons_succ, List.getElem_cons_zero, List.setIfInBounds_toArray, List.set_cons_zero, List.set_cons_succ]
  refine wpAnyH_take (i := 14) (v := ?qv14) rfl (by kernel_rfl) (by kernel_rfl) (by kernel_rfl) (by intro _ _ _ h; exact h) (Or.inl ⟨by rfl, ?qhy14⟩) (by assumption) ?qrest14
  case qhy14 => (intro w hSw; (try dsimp only at hSw); go_simp; try with_reducible rfl)
  try simp only [Act.put, List.getElem_toArray, List.getElem_cons_succ, List.getElem_cons_zero, List.setIfInBounds_toArray, List.set_cons_zero, List.set_cons_succ]
  refine wpAnyH_take (i := 15) (v := ?qv15) rfl (by kernel_rfl) (by kernel_rfl) (by kernel_rfl) (by intro _ _ _ h; exact h) (Or.inl ⟨by rfl, ?qhy15⟩) (by assumption) ?qrest15
  case qhy15 => (intro w hSw; (try dsimp only at hSw); go_simp; try with_reducible rfl)
  try simp only [Act.put, List.getElem_toArray, List.getElem_cons_succ, List.getElem_cons_zero, List.setIfInBounds_toArray, List.set_cons_zero, List.set_cons_succ]
  refine wpAnyH_take (i := 16) (v := ?qv16) rfl (by kernel_rfl) (by kernel_rfl) (by kernel_rfl) (by intro _ _ _ h; exact h) (Or.inl ⟨by rfl, ?qhy16⟩) (by assumption) ?qrest16
  case qhy16 => (intro w hSw; (try dsimp only at hSw); go_simp; try with_reducible rfl)
  try simp only [Act.put, List.getElem_toArray, List.getElem_cons_succ, List.getElem_cons_zero, List.setIfInBounds_toArray, List.set_cons_zero, List.set_cons_succ]
  refine wpAnyH_take (i := 17) (v := ?qv17) rfl (by kernel_rfl) (by kernel_rfl) (by kernel_rfl) (by intro _ _ _ h; exact h) (Or.inl ⟨by rfl, ?qhy17⟩) (by assumption) ?qrest17
  case qhy17 => (intro w hSw; (try dsimp only at hSw); go_simp; try with_reducible rfl)
  try simp only [Act.put, List.getElem_toArray, List.getElem_cons_succ, List.getElem_cons_zero, List.setIfInBounds_toArray, List.set_cons_zero, List.set_cons_succ]
  refine wpAnyH_take (i := 18) (v := ?qv18) rfl (by kernel_rfl) (by kernel_rfl) (by kernel_rfl) (by intro _ _ _ h; exact h) (Or.inl ⟨by rfl, ?qhy18⟩) (by assumption) ?qrest18
  case qhy18 => (intro w hSw; (try dsimp only at hSw); go_simp; try with_reducible rfl)
  try simp only [Act.put, List.getElem_toArray, List.getElem_cons_succ, List.getElem_cons_zero, List.setIfInBounds_toArray, List.set_cons_zero, List.set_cons_succ]
  refine wpAnyH_take (i := 19) (v := ?qv19) rfl (by kernel_rfl) (by kernel_rfl) (by kernel_rfl) (by intro _ _ _ h; exact h) (Or.inl ⟨by rfl, ?qhy19⟩) (by assumption) ?qrest19
  case qhy19 => (intro w hSw; (try dsimp only at hSw); go_simp; try with_reducible rfl)
  try simp only [Act.put, List.getElem_toArray, List.getElem_cons_succ, List.getElem_cons_zero, List.setIfInBounds_toArray, List.set_cons_zero, List.set_cons_succ]
  refine wpAnyH_take (i := 20) (v := ?qv20) rfl (by kernel_rfl) (by kernel_rfl) (by kernel_rfl) (by intro _ _ _ h; exact h) (Or.inl ⟨by rfl, ?qhy20⟩) (by assumption) ?qrest20
  case qhy20 => (intro w hSw; (try dsimp only at hSw); go_simp; try with_reducible rfl)
  try simp only [Act.put, List.getElem_toArray, List.getElem_cons_succ, List.getElem_cons_zero, List.setIfInBounds_toArray, List.set_cons_zero, List.set_cons_succ]
  refine wpAnyH_take (i := 21) (v := ?qv21) rfl (by kernel_rfl) (by kernel_rfl) (by kernel_rfl) (by intro _ _ _ h; exact h) (Or.inl ⟨by rfl, ?qhy21⟩) (by assumption) ?qrest21
  case qhy21 => (intro w hSw; (try dsimp only at hSw); go_simp; try with_reducible rfl)
  try simp only [Act.put, List.getElem_toArray, List.getElem_cons_succ, List.getElem_cons_zero, List.setIfInBounds_toArray, List.set_cons_zero, List.set_cons_succ]
  refine wpAnyH_take (i := 22) (v := ?qv22) rfl (by kernel_rfl) (by kernel_rfl) (by kernel_rfl) (by intro _ _ _ h; exact h) (Or.inl ⟨by rfl, ?qhy22⟩) (by assumption) ?qrest22
  case qhy22 => (intro w hSw; (try dsimp only at hSw); go_simp; try with_reducible rfl)
  try simp only [Act.put, List.getElem_toArray, List.getElem_cons_succ, List.getElem_cons_zero, List.setIfInBounds_toArray, List.set_cons_zero, List.set_cons_succ]
  refine wpAnyH_take (i := 23) (v := ?qv23) rfl (by kernel_rfl) (by kernel_rfl) (by kernel_rfl) (by intro _ _ _ h; exact h) (Or.inl ⟨by rfl, ?qhy23⟩) (by assumption) ?qrest23
  case qhy23 => (intro w hSw; (try dsimp only at hSw); go_simp; try with_reducible rfl)
  try simp only [Act.put, List.getElem_toArray, List.getElem_cons_succ, List.getElem_cons_zero, List.setIfInBounds_toArray, List.set_cons_zero, List.set_cons_succ]
  refine wpAnyH_take (i := 24) (v := ?qv24) rfl (by kernel_rfl) (by kernel_rfl) (by kernel_rfl) (by intro _ _ _ h; exact h) (Or.inl ⟨by rfl, ?qhy24⟩) (by assumption) ?qrest24
  case qhy24 => (intro w hSw; (try dsimp only at hSw); go_simp; try with_reducible rfl)
  try simp only [Act.put, List.getElem_toArray, List.getElem_cons_succ, List.getElem_cons_zero, List.setIfInBounds_toArray, List.set_cons_zero, List.set_cons_succ]
  refine wpAnyH_take (i := 25) (v := ?qv25) rfl (by kernel_rfl) (by kernel_rfl) (by kernel_rfl) (by intro _ _ _ h; exact h) (Or.inl ⟨by rfl, ?qhy25⟩) (by assumption) ?qrest25
  case qhy25 => (intro w hSw; (try dsimp only at hSw); go_simp; try with_reducible rfl)
  try simp only [Act.put, List.getElem_toArray, List.getElem_cons_succ, List.getElem_cons_zero, List.setIfInBounds_toArray, List.set_cons_zero, List.set_cons_succ]
  refine wpAnyH_take (i := 26) (v := ?qv26) rfl (by kernel_rfl) (by kernel_rfl) (by kernel_rfl) (by intro _ _ _ h; exact h) (Or.inl ⟨by rfl, ?qhy26⟩) (by assumption) ?qrest26
  case qhy26 => (intro w hSw; (try dsimp only at hSw); go_simp; try with_reducible rfl)
  try simp only [Act.put, List.getElem_toArray, List.getElem_cons_succ, List.getElem_cons_zero, List.setIfInBounds_toArray, List.set_cons_zero, List.set_cons_succ]
  refine wpAnyH_take (i := 27) (v := ?qv27) rfl (by kernel_rfl) (by kernel_rfl) (by kernel_rfl) (by intro _ _ _ h; exact h) (Or.inl ⟨by rfl, ?qhy27⟩) (by assumption) ?qrest27
  case qhy27 => (intro w hSw; (try dsimp only at hSw); go_simp; try with_reducible rfl)
  try simp only [Act.put, List.getElem_toArray, List.getElem_cons_succ, List.getElem_cons_zero, List.setIfInBounds_toArray, List.set_cons_zero, List.set_cons_succ]
  refine wpAnyH_take (i := 28) (v := ?qv28) rfl (by kernel_rfl) (by kernel_rfl) (by kernel_rfl) (by intro _ _ _ h; exact h) (Or.inl ⟨by rfl, ?qhy28⟩) (by assumption) ?qrest28
  case qhy28 => (intro w hSw; (try dsimp only at hSw); go_simp; try with_reducible rfl)
  try simp only [Act.put, List.getElem_toArray, List.getElem_cons_succ, List.getElem_cons_zero, List.setIfInBounds_toArray, List.set_cons_zero, List.set_cons_succ]
  refine wpAnyH_take (i := 30) (v := ?qv30) rfl (by kernel_rfl) (by kernel_rfl) (by kernel_rfl) (by intro _ _ _ h; exact h) (Or.inl ⟨by rfl, ?qhy30⟩) (by assumption) ?qrest30
  case qhy30 => (intro w hSw; (try dsimp only at hSw); go_simp; try with_reducible rfl)
  try simp only [Act.put, List.getElem_toArray, List.getElem_cons_succ, List.getElem_cons_zero, List.setIfInBounds_toArray, List.set_cons_zero, List.set_cons_succ]
  refine wpAnyH_ready (rs := [29]) (by kernel_rfl) (by simp) ?_
  refine AllReadyH.cons rfl (fun K hK => ?_) AllReadyH.nil
  go_simp
  go_wp2_with (go_at_call 29; refine (prefixCovers a ha n a ha n _).mono ?_; rw [HC.out]; rintro _ w5 ⟨rfl, b5⟩)
  refine hK.out _ _ ?_ (fun hHeld => ?_)
  · try dsimp only
    first | (refine keep33 hg3 b6 ?_; assumption) | (refine keep33 hg3 b5 ?_; assumption) | (refine keep33 hg3 b4 ?_; assumption) | ((repeat' apply And.intro) <;> first | (with_reducible exact Below.drew (Below.refl _ _)) | (with_reducible assumption) | go_keep)
  clear hK K
  refine wpAnyH_ready (rs := [31]) (by kernel_rfl) (by simp) ?_
  refine AllReadyH.cons rfl (fun K hK => ?_) AllReadyH.nil
  go_simp
  go_wp2_with (go_at_call 24; refine (prefixRight a ha n _).mono ?_; rw [HR.out]; rintro _ w6 ⟨rfl, b6⟩)
  refine hK.out _ _ ?_ (fun hHeld => ?_)
  · try dsimp only
    first | (refine keep33 hg3 b6 ?_; assumption) | (refine keep33 hg3 b5 ?_; assumption) | (refine keep33 hg3 b4 ?_; assumption) | ((repeat' apply And.intro) <;> first | (with_reducible exact Below.drew (Below.refl _ _)) | (with_reducible assumption) | go_keep)
  clear hK K
  refine wpAnyH_take (i := 32) (v := ?qv32) rfl (by kernel_rfl) (by kernel_rfl) (by kernel_rfl) (by intro _ _ _ h; exact h) (Or.inl ⟨by rfl, ?qhy32⟩) (by assumption) ?qrest32
  case qhy32 => (intro w hSw; (try dsimp only at hSw); go_simp; try with_reducible rfl)
  try simp only [Act.put, List.getElem_toArray, List.getElem_cons_succ, List.getElem_cons_zero, List.setIfInBounds_toArray, List.set_cons_zero, List.set_cons_succ]
  refine wpAnyH_take (i := 33) (v := ?qv33) rfl (by kernel_rfl) (by kernel_rfl) (by kernel_rfl) (by intro _ _ _ h; exact h) (Or.inl ⟨by rfl, ?qhy33⟩) (by assumption) ?qrest33
  case qhy33 => (intro w hSw; (try dsimp only at hSw); go_simp; try with_reducible rfl)
  try simp only [Act.put, List.getElem_toArray, List.getElem_cons_succ, List.getElem_cons_zero, List.setIfInBounds_toArray, List.set_cons_zero, List.set_cons_succ]
  refine wpAnyH_done (by kernel_rfl) ?_ _
  go_wp2_with fail
  obtain ⟨hs7, _, _, _, _, _, _⟩ := hHeld
  have b06 := btr b03 hs7 b03.size
  have hD6 := hD3.below hs7 hD3.lt
  have hE6 := hE3.below hs7 hE3.lt
  have hF6 := hF3.below hs7 hF3.lt
  clear x0 x1 y0 y1 z0 z1 d0 d1 e0 e1 g0 g1 b0 b1 b2 b3 b4 b5 b6 hD hE hF hD3 hE3 hF3 hgl hg3 t0 t3 hs7
  have x60 := hD6.cell 0
  have x61 := hD6.cell 1
  have y60 := hE6.cell 0
  have y61 := hE6.cell 1
  have z60 := hF6.cell 0
  have z61 := hF6.cell 1
  cases X
  · go_wp2_with fail
    refine (prefixCovers a ha n b hb m _).mono ?_
    rw [HX.out]
    rintro _ w7 ⟨rfl, b7⟩
    have b07 := btr b06 b7 b06.size
    clear x60 x61 y60 y61 z60 z61
    have hD7 := hD6.below b7 hD6.lt
    have x70 := hD7.cell 0
    have x71 := hD7.cell 1
    have hE7 := hE6.below b7 hE6.lt
    have y70 := hE7.cell 0
    have y71 := hE7.cell 1
    have hF7 := hF6.below b7 hF6.lt
    have z70 := hF7.cell 0
    have z71 := hF7.cell 1
    go_wp2_with fail
    refine (prefixCovers a ha n b hb m _).mono ?_
    rw [HX.out]
    rintro _ w8 ⟨rfl, b8⟩
    have b08 := btr b07 b8 b07.size
    clear x70 x71 y70 y71 z70 z71
    have hD8 := hD7.below b8 hD7.lt
    have x80 := hD8.cell 0
    have x81 := hD8.cell 1
    have hE8 := hE7.below b8 hE7.lt
    have y80 := hE8.cell 0
    have y81 := hE8.cell 1
    have hF8 := hF7.below b8 hF7.lt
    have z80 := hF8.cell 0
    have z81 := hF8.cell 1
    go_wp2_with fail
    refine (prefixCovers a ha n b hb m _).mono ?_
    rw [HX.out]
    rintro _ w9 ⟨rfl, b9⟩
    have b09 := btr b08 b9 b08.size
    clear x80 x81 y80 y81 z80 z81
    have hD9 := hD8.below b9 hD8.lt
    have x90 := hD9.cell 0
    have x91 := hD9.cell 1
    have hE9 := hE8.below b9 hE8.lt
    have y90 := hE9.cell 0
    have y91 := hE9.cell 1
    have hF9 := hF8.below b9 hF8.lt
    have z90 := hF9.cell 0
    have z91 := hF9.cell 1
    go_wp2_with fail
    refine (awake02 _ (ht.call b09)).mono ?_
    rintro _ w10 ⟨rfl, b10⟩
    have b010 := btr b09 b10 b09.size
    clear x90 x91 y90 y91 z90 z91
    have hD10 := hD9.below b10 hD9.lt
    have x100 := hD10.cell 0
    have x101 := hD10.cell 1
    have hE10 := hE9.below b10 hE9.lt
    have y100 := hE10.cell 0
    have y101 := hE10.cell 1
    have hF10 := hF9.below b10 hF9.lt
    have z100 := hF10.cell 0
    have z101 := hF10.cell 1
    try go_wp2_with fail
    go_ret
    exact ⟨rfl, b010⟩
  · have f4 := f2 rfl
    cases Z
    · cases Y
      · go_wp2_with fail
        refine (prefixCovers a ha n b hb m _).mono ?_
        rw [HX.out]
        rintro _ w7 ⟨rfl, b7⟩
        have b07 := btr b06 b7 b06.size
        clear x60 x61 y60 y61 z60 z61
        have hD7 := hD6.below b7 hD6.lt
        have x70 := hD7.cell 0
        have x71 := hD7.cell 1
        have hE7 := hE6.below b7 hE6.lt
        have y70 := hE7.cell 0
        have y71 := hE7.cell 1
        have hF7 := hF6.below b7 hF6.lt
        have z70 := hF7.cell 0
        have z71 := hF7.cell 1
        go_wp2_with fail
        refine (prefixCovers b hb m c hc k _).mono ?_
        rw [HY.out]
        rintro _ w8 ⟨rfl, b8⟩
        have b08 := btr b07 b8 b07.size
        clear x70 x71 y70 y71 z70 z71
        have hD8 := hD7.below b8 hD7.lt
        have x80 := hD8.cell 0
        have x81 := hD8.cell 1
        have hE8 := hE7.below b8 hE7.lt
        have y80 := hE8.cell 0
        have y81 := hE8.cell 1
        have hF8 := hF7.below b8 hF7.lt
        have z80 := hF8.cell 0
        have z81 := hF8.cell 1
        go_wp2_with fail
        refine (prefixCovers a ha n b hb m _).mono ?_
        rw [HX.out]
        rintro _ w9 ⟨rfl, b9⟩
        have b09 := btr b08 b9 b08.size
        clear x80 x81 y80 y81 z80 z81
        have hD9 := hD8.below b9 hD8.lt
        have x90 := hD9.cell 0
        have x91 := hD9.cell 1
        have hE9 := hE8.below b9 hE8.lt
        have y90 := hE9.cell 0
        have y91 := hE9.cell 1
        have hF9 := hF8.below b9 hF8.lt
        have z90 := hF9.cell 0
        have z91 := hF9.cell 1
        go_wp2_with fail
        refine (prefixCovers b hb m a ha n _).mono ?_
        rw [HZ.out]
        rintro _ w10 ⟨rfl, b10⟩
        have b010 := btr b09 b10 b09.size
        clear x90 x91 y90 y91 z90 z91
        have hD10 := hD9.below b10 hD9.lt
        have x100 := hD10.cell 0
        have x101 := hD10.cell 1
        have hE10 := hE9.below b10 hE9.lt
        have y100 := hE10.cell 0
        have y101 := hE10.cell 1
        have hF10 := hF9.below b10 hF9.lt
        have z100 := hF10.cell 0
        have z101 := hF10.cell 1
        go_wp2_with fail
        refine (prefixCovers a ha n b hb m _).mono ?_
        rw [HX.out]
        rintro _ w11 ⟨rfl, b11⟩
        have b011 := btr b010 b11 b010.size
        clear x100 x101 y100 y101 z100 z101
        have hD11 := hD10.below b11 hD10.lt
        have x110 := hD11.cell 0
        have x111 := hD11.cell 1
        have hE11 := hE10.below b11 hE10.lt
        have y110 := hE11.cell 0
        have y111 := hE11.cell 1
        have hF11 := hF10.below b11 hF10.lt
        have z110 := hF11.cell 0
        have z111 := hF11.cell 1
        go_wp2_with fail
        refine (awake02 _ (ht.call b011)).mono ?_
        rintro _ w12 ⟨rfl, b12⟩
        have b012 := btr b011 b12 b011.size
        clear x110 x111 y110 y111 z110 z111
        have hD12 := hD11.below b12 hD11.lt
        have x120 := hD12.cell 0
        have x121 := hD12.cell 1
        have hE12 := hE11.below b12 hE11.lt
        have y120 := hE12.cell 0
        have y121 := hE12.cell 1
        have hF12 := hF11.below b12 hF11.lt
        have z120 := hF12.cell 0
        have z121 := hF12.cell 1
        try go_wp2_with fail
        go_ret
        exact ⟨rfl, b012⟩
      · have f5 := f1 rfl rfl
        subst f5
        go_wp2_with fail
        refine (prefixCovers a ha n b hb m _).mono ?_
        rw [HX.out]
        rintro _ w7 ⟨rfl, b7⟩
        have b07 := btr b06 b7 b06.size
        clear x60 x61 y60 y61 z60 z61
        have hD7 := hD6.below b7 hD6.lt
        have x70 := hD7.cell 0
        have x71 := hD7.cell 1
        have hE7 := hE6.below b7 hE6.lt
        have y70 := hE7.cell 0
        have y71 := hE7.cell 1
        have hF7 := hF6.below b7 hF6.lt
        have z70 := hF7.cell 0
        have z71 := hF7.cell 1
        go_wp2_with fail
        refine (prefixCovers b hb m c hc k _).mono ?_
        rw [HY.out]
        rintro _ w8 ⟨rfl, b8⟩
        have b08 := btr b07 b8 b07.size
        clear x70 x71 y70 y71 z70 z71
        have hD8 := hD7.below b8 hD7.lt
        have x80 := hD8.cell 0
        have x81 := hD8.cell 1
        have hE8 := hE7.below b8 hE7.lt
        have y80 := hE8.cell 0
        have y81 := hE8.cell 1
        have hF8 := hF7.below b8 hF7.lt
        have z80 := hF8.cell 0
        have z81 := hF8.cell 1
        go_wp2_with fail
        refine (prefixCovers a ha n c hc k _).mono ?_
        rw [HU.out]
        rintro _ w9 ⟨rfl, b9⟩
        have b09 := btr b08 b9 b08.size
        clear x80 x81 y80 y81 z80 z81
        have hD9 := hD8.below b9 hD8.lt
        have x90 := hD9.cell 0
        have x91 := hD9.cell 1
        have hE9 := hE8.below b9 hE8.lt
        have y90 := hE9.cell 0
        have y91 := hE9.cell 1
        have hF9 := hF8.below b9 hF8.lt
        have z90 := hF9.cell 0
        have z91 := hF9.cell 1
        go_wp2_with fail
        refine (prefixCovers a ha n b hb m _).mono ?_
        rw [HX.out]
        rintro _ w10 ⟨rfl, b10⟩
        have b010 := btr b09 b10 b09.size
        clear x90 x91 y90 y91 z90 z91
        have hD10 := hD9.below b10 hD9.lt
        have x100 := hD10.cell 0
        have x101 := hD10.cell 1
        have hE10 := hE9.below b10 hE9.lt
        have y100 := hE10.cell 0
        have y101 := hE10.cell 1
        have hF10 := hF9.below b10 hF9.lt
        have z100 := hF10.cell 0
        have z101 := hF10.cell 1
        go_wp2_with fail
        refine (prefixCovers b hb m a ha n _).mono ?_
        rw [HZ.out]
        rintro _ w11 ⟨rfl, b11⟩
        have b011 := btr b010 b11 b010.size
        clear x100 x101 y100 y101 z100 z101
        have hD11 := hD10.below b11 hD10.lt
        have x110 := hD11.cell 0
        have x111 := hD11.cell 1
        have hE11 := hE10.below b11 hE10.lt
        have y110 := hE11.cell 0
        have y111 := hE11.cell 1
        have hF11 := hF10.below b11 hF10.lt
        have z110 := hF11.cell 0
        have z111 := hF11.cell 1
        go_wp2_with fail
        refine (prefixCovers a ha n b hb m _).mono ?_
        rw [HX.out]
        rintro _ w12 ⟨rfl, b12⟩
        have b012 := btr b011 b12 b011.size
        clear x110 x111 y110 y111 z110 z111
        have hD12 := hD11.below b12 hD11.lt
        have x120 := hD12.cell 0
        have x121 := hD12.cell 1
        have hE12 := hE11.below b12 hE11.lt
        have y120 := hE12.cell 0
        have y121 := hE12.cell 1
        have hF12 := hF11.below b12 hF11.lt
        have z120 := hF12.cell 0
        have z121 := hF12.cell 1
        go_wp2_with fail
        refine (awake02 _ (ht.call b012)).mono ?_
        rintro _ w13 ⟨rfl, b13⟩
        have b013 := btr b012 b13 b012.size
        clear x120 x121 y120 y121 z120 z121
        have hD13 := hD12.below b13 hD12.lt
        have x130 := hD13.cell 0
        have x131 := hD13.cell 1
        have hE13 := hE12.below b13 hE12.lt
        have y130 := hE13.cell 0
        have y131 := hE13.cell 1
        have hF13 := hF12.below b13 hF12.lt
        have z130 := hF13.cell 0
        have z131 := hF13.cell 1
        try go_wp2_with fail
        go_ret
        exact ⟨rfl, b013⟩
    · exact (f4 rfl).elim
set_option maxHeartbeats 16000000 in
set_option maxRecDepth 100000 in
set_option linter.unusedSimpArgs false in
theorem prefixOrder_eqg (w : World) (a : Nat) (n : Int) (ha : a < 4294967296) (c : Nat) (k : Int) (hc : c < 4294967296) (ht : DigTab w)
    (h1 : pCmp a n a n = 0)
    (h2 : 0 < pCmp a n c k) :
    Calls Tryd.prog 5 #[.agg #[.int .u32 a, .int .i64 n], .agg #[.int .u32 a, .int .i64 n], .agg #[.int .u32 c, .int .i64 k]] w fun en w' => en = .returned (.bool true) ∧ Below w.heap.size w w' := by
  obtain ⟨P, hP⟩ : ∃ P, pCmp a n c k = P := ⟨_, rfl⟩
  have p2 : decide (P ≤ 0) = false := decide_eq_false (Int.not_le.2 (hP ▸ h2))
  have hwr : IntKind.i64.wrap 0 = 0 := by decide
  obtain ⟨R, hR⟩ : ∃ R, pRight a n = R := ⟨_, rfl⟩
  have hC := (covers_refl a n).trans hR
  obtain ⟨U, hU⟩ : ∃ U, pCovers a n c k = U := ⟨_, rfl⟩
  have H1 := Lib.hid h1
  have HP := Lib.hid hP
  have HR := Lib.hid hR
  have HC := Lib.hid hC
  have HU := Lib.hid hU
  clear h1 h2 hP hR hC hU
  go_enter Tryd.func5, Tryd.ntmps5
  go_wp2_with fail
  obtain ⟨W, hW, hD, hE, hF, b0⟩ := box3 w (.int .u32 a) (.int .i64 n) (.int .u32 a) (.int .i64 n) (.int .u32 c) (.int .i64 k)
  rw [hW]
  clear hW
  have hgl := hF.lt
  have d0 := hD.cell 0
  have d1 := hD.cell 1
  have e0 := hE.cell 0
  have e1 := hE.cell 1
  have g0 := hF.cell 0
  have g1 := hF.cell 1
  have t0 := ht.call b0
  refine wp_region_held_drew (S := (fun w' => Below W.heap.size W w' ∧ w'.cell? ⟨w.heap.size, 0, none⟩ = some (.int .u32 a) ∧ w'.cell? ⟨w.heap.size, 1, none⟩ = some (.int .i64 n) ∧ w'.cell? ⟨w.heap.size + 1, 0, none⟩ = some (.int .u32 a) ∧ w'.cell? ⟨w.heap.size + 1, 1, none⟩ = some (.int .i64 n) ∧ w'.cell? ⟨w.heap.size + 1 + 1, 0, none⟩ = some (.int .u32 c) ∧ w'.cell? ⟨w.heap.size + 1 + 1, 1, none⟩ = some (.int .i64 k))) (by kernel_rfl) ?_ (fun hHeld => ?_)
  · first | (refine keep33 hgl b3 ?_; assumption) | (refine keep33 hgl b2 ?_; assumption) | (refine keep33 hgl b1 ?_; assumption) | ((repeat' apply And.intro) <;> first | (with_reducible exact Below.drew (Below.refl _ _)) | (with_reducible assumption) | go_keep)
  refine wpAnyH_take (i := 0) (v := ?pv0) rfl (by kernel_rfl) (by kernel_rfl) (by kernel_rfl) (by intro _ _ _ h; exact h) (Or.inl ⟨by rfl, ?phy0⟩) (by assumption) ?prest0
  case phy0 => (intro w hSw; (try dsimp only at hSw); go_simp; try with_reducible rfl)
  try simp only [Act.put, List.getElem_toArray, List.getElem_cons_succ, List.getElem_cons_zero, List.setIfInBounds_toArray, List.set_cons_zero, List.set_cons_succ]
  refine wpAnyH_take (i := 1) (v := ?pv1) rfl (by kernel_rfl) (by kernel_rfl) (by kernel_rfl) (by intro _ _ _ h; exact h) (Or.inl ⟨by rfl, ?phy1⟩) (by assumption) ?prest1
  case phy1 => (intro w hSw; (try dsimp only at hSw); go_simp; try with_reducible rfl)
  try simp only [Act.put, List.getElem_toArray, List.getElem_cons_succ, List.getElem_cons_zero, List.setIfInBounds_toArray, List.set_cons_zero, List.set_cons_succ]
  refine wpAnyH_take (i := 3) (v := ?pv3) rfl (by kernel_rfl) (by kernel_rfl) (by kernel_rfl) (by intro _ _ _ h; exact h) (Or.inl ⟨by rfl, ?phy3⟩) (by assumption) ?prest3
  case phy3 => (intro w hSw; (try dsimp only at hSw); go_simp; try with_reducible rfl)
  try simp only [Act.put, List.getElem_toArray, List.getElem_cons_succ, List.getElem_cons_zero, List.setIfInBounds_toArray, List.set_cons_zero, List.set_cons_succ]
  refine wpAnyH_take (i := 4) (v := ?pv4) rfl (by kernel_rfl) (by kernel_rfl) (by kernel_rfl) (by intro _ _ _ h; exact h) (Or.inl ⟨by rfl, ?phy4⟩) (by assumption) ?prest4
  case phy4 => (intro w hSw; (try dsimp only at hSw); go_simp; try with_reducible rfl)
  try simp only [Act.put, List.getElem_toArray, List.getElem_cons_succ, List.getElem_cons_zero, List.setIfInBounds_toArray, List.set_cons_zero, List.set_cons_succ]
  refine wpAnyH_take (i := 6) (v := ?pv6) rfl (by kernel_rfl) (by kernel_rfl) (by kernel_rfl) (by intro _ _ _ h; exact h) (Or.inl ⟨by rfl, ?phy6⟩) (by assumption) ?prest6
  case phy6 => (intro w hSw; (try dsimp only at hSw); go_simp; try with_reducible rfl)
  try simp only [Act.put, List.getElem_toArray, List.getElem_cons_succ, List.getElem_cons_zero, List.setIfInBounds_toArray, List.set_cons_zero, List.set_cons_succ]
  refine wpAnyH_take (i := 7) (v := ?pv7) rfl (by kernel_rfl) (by kernel_rfl) (by kernel_rfl) (by intro _ _ _ h; exact h) (Or.inl ⟨by rfl, ?phy7⟩) (by assumption) ?prest7
  case phy7 => (intro w hSw; (try dsimp only at hSw); go_simp; try with_reducible rfl)
  try simp only [Act.put, List.getElem_toArray, List.getElem_cons_succ, List.getElem_cons_zero, List.setIfInBounds_toArray, List.set_cons_zero, List.set_cons_succ]
  refine wpAnyH_ready (rs := [2]) (by kernel_rfl) (by simp) ?_
  refine AllReadyH.cons rfl (fun K hK => ?_) AllReadyH.nil
  go_simp
  go_wp2_with (go_at_call 28; refine (prefixCompare a n a n _).mono ?_; rw [H1.out]; rintro _ w1 ⟨rfl, b1⟩)
  refine hK.out _ _ ?_ (fun hHeld => ?_)
  · try dsimp only
    first | (refine keep33 hgl b3 ?_; assumption) | (refine keep33 hgl b2 ?_; assumption) | (refine keep33 hgl b1 ?_; assumption) | ((repeat' apply And.intro) <;> first | (with_reducible exact Below.drew (Below.refl _ _)) | (with_reducible assumption) | go_keep)
  clear hK K
  refine wpAnyH_ready (rs := [5]) (by kernel_rfl) (by simp) ?_
  refine AllReadyH.cons rfl (fun K hK => ?_) AllReadyH.nil
  go_simp
  go_wp2_with (go_at_call 28; refine (prefixCompare a n c k _).mono ?_; rw [HP.out]; rintro _ w2 ⟨rfl, b2⟩)
  refine hK.out _ _ ?_ (fun hHeld => ?_)
  · try dsimp only
    first | (refine keep33 hgl b3 ?_; assumption) | (refine keep33 hgl b2 ?_; assumption) | (refine keep33 hgl b1 ?_; assumption) | ((repeat' apply And.intro) <;> first | (with_reducible exact Below.drew (Below.refl _ _)) | (with_reducible assumption) | go_keep)
  clear hK K
  refine wpAnyH_ready (rs := [8]) (by kernel_rfl) (by simp) ?_
  refine AllReadyH.cons rfl (fun K hK => ?_) AllReadyH.nil
  go_simp
  go_wp2_with (go_at_call 28; refine (prefixCompare a n c k _).mono ?_; rw [HP.out]; rintro _ w3 ⟨rfl, b3⟩)
  refine hK.out _ _ ?_ (fun hHeld => ?_)
  · try dsimp only
    first | (refine keep33 hgl b3 ?_; assumption) | (refine keep33 hgl b2 ?_; assumption) | (refine keep33 hgl b1 ?_; assumption) | ((repeat' apply And.intro) <;> first | (with_reducible exact Below.drew (Below.refl _ _)) | (with_reducible assumption) | go_keep)
  clear hK K
  refine wpAnyH_take (i := 9) (v := ?pv9) rfl (by kernel_rfl) (by kernel_rfl) (by kernel_rfl) (by intro _ _ _ h; exact h) (Or.inl ⟨by rfl, ?phy9⟩) (by assumption) ?prest9
  case phy9 => (intro w hSw; (try dsimp only at hSw); go_simp; try with_reducible rfl)
  try simp only [Act.put, List.getElem_toArray, List.getElem_cons_succ, List.getElem_cons_zero, List.setIfInBounds_toArray, List.set_cons_zero, List.set_cons_succ]
  refine wpAnyH_take (i := 10) (v := ?pv10) rfl (by kernel_rfl) (by kernel_rfl) (by kernel_rfl) (by intro _ _ _ h; exact h) (Or.inl ⟨by rfl, ?phy10⟩) (by assumption) ?prest10
  case phy10 => (intro w hSw; (try dsimp only at hSw); go_simp; try with_reducible rfl)
  try simp only [Act.put, List.getElem_toArray, List.getElem_cons_succ, List.getElem_cons_zero, List.setIfInBounds_toArray, List.set_cons_zero, List.set_cons_succ]
  refine wpAnyH_take (i := 11) (v := ?pv11) rfl (by kernel_rfl) (by kernel_rfl) (by kernel_rfl) (by intro _ _ _ h; exact h) (Or.inl ⟨by rfl, ?phy11⟩) (by assumption) ?prest11
  case phy11 => (intro w hSw; (try dsimp only at hSw); go_simp; try with_reducible rfl)
  try simp only [Act.put, List.getElem_toArray, List.getElem_cons_succ, List.getElem_cons_zero, List.setIfInBounds_toArray, List.set_cons_zero, List.set_cons_succ]
  refine wpAnyH_done (by kernel_rfl) ?_ _
  go_wp2_with fail
  obtain ⟨hs4, x0, x1, y0, y1, z0, z1⟩ := hHeld
  have b03 := btr b0 hs4 b0.size
  have t3 := ht.call b03
  have hg3 : w.heap.size + 1 + 1 < w3.heap.size := by have := hs4.size; omega
  have hD3 := hD.below hs4 hD.lt
  have hE3 := hE.below hs4 hE.lt
  have hF3 := hF.below hs4 hF.lt
  clear hs4
  refine wp_region_held_drew (S := (fun w' => Below w3.heap.size w3 w' ∧ w'.cell? ⟨w.heap.size, 0, none⟩ = some (.int .u32 a) ∧ w'.cell? ⟨w.heap.size, 1, none⟩ = some (.int .i64 n) ∧ w'.cell? ⟨w.heap.size + 1, 0, none⟩ = some (.int .u32 a) ∧ w'.cell? ⟨w.heap.size + 1, 1, none⟩ = some (.int .i64 n) ∧ w'.cell? ⟨w.heap.size + 1 + 1, 0, none⟩ = some (.int .u32 c) ∧ w'.cell? ⟨w.heap.size + 1 + 1, 1, none⟩ = some (.int .i64 k))) (by kernel_rfl) ?_ (fun hHeld => ?_)
  · first | (refine keep33 hg3 b6 ?_; assumption) | (refine keep33 hg3 b5 ?_; assumption) | (refine keep33 hg3 b4 ?_; assumption) | ((repeat' apply And.intro) <;> first | (with_reducible exact Below.drew (Below.refl _ _)) | (with_reducible assumption) | go_keep)
  refine wpAnyH_take (i := 0) (v := ?qv0) rfl (by kernel_rfl) (by kernel_rfl) (by kernel_rfl) (by intro _ _ _ h; exact h) (Or.inl ⟨by rfl, ?qhy0⟩) (by assumption) ?qrest0
  case qhy0 => (intro w hSw; (try dsimp only at hSw); go_simp; try with_reducible rfl)
  try simp only [Act.put, List.getElem_toArray, List.getElem_cons_succ, List.getElem_cons_zero, List.setIfInBounds_toArray, List.set_cons_zero, List.set_cons_succ]
  refine wpAnyH_take (i := 1) (v := ?qv1) rfl (by kernel_rfl) (by kernel_rfl) (by kernel_rfl) (by intro _ _ _ h; exact h) (Or.inl ⟨by rfl, ?qhy1⟩) (by assumption) ?qrest1
  case qhy1 => (intro w hSw; (try dsimp only at hSw); go_simp; try with_reducible rfl)
  try simp only [Act.put, List.getElem_toArray, List.getElem_cons_succ, List.getElem_cons_zero, List.setIfInBounds_toArray, List.set_cons_zero, List.set_cons_succ]
  refine wpAnyH_take (i := 2) (v := ?qv2) rfl (by kernel_rfl) (by kernel_rfl) (by kernel_rfl) (by intro _ _ _ h; exact h) (Or.inl ⟨by rfl, ?qhy2⟩) (by assumption) ?qrest2
  case qhy2 => (intro w hSw; (try dsimp only at hSw); go_simp; try with_reducible rfl)
  try simp only [Act.put, List.getElem_toArray, List.getElem_cons_succ, List.getElem_cons_zero, List.setIfInBounds_toArray, List.set_cons_zero, List.set_cons_succ]
  refine wpAnyH_ready (rs := [3]) (by kernel_rfl) (by simp) ?_
  refine AllReadyH.cons rfl (fun K hK => ?_) AllReadyH.nil
  go_simp
  go_wp2_with (go_at_call 28; refine (prefixCompare a n a n _).mono ?_; rw [H1.out]; rintro _ w4 ⟨rfl, b4⟩)
  refine hK.out _ _ ?_ (fun hHeld => ?_)
  · try dsimp only
    first | (refine keep33 hg3 b6 ?_; assumption) | (refine keep33 hg3 b5 ?_; assumption) | (refine keep33 hg3 b4 ?_; assumption) | ((repeat' apply And.intro) <;> first | (with_reducible exact Below.drew (Below.refl _ _)) | (with_reducible assumption) | go_keep)
  clear hK K
  refine wpAnyH_take (i := 4) (v := ?qv4) rfl (by kernel_rfl) (by kernel_rfl) (by kernel_rfl) (by intro _ _ _ h; exact h) (Or.inl ⟨by rfl, ?qhy4⟩) (by assumption) ?qrest4
  case qhy4 => (intro w hSw; (try dsimp only at hSw); go_simp; try with_reducible rfl)
  try simp only [Act.put, List.getElem_toArray, List.getElem_cons_succ, List.getElem_cons_zero, List.setIfInBounds_toArray, List.set_cons_zero, List.set_cons_succ]
  refine wpAnyH_take (i := 5) (v := ?qv5) rfl (by kernel_rfl) (by kernel_rfl) (by kernel_rfl) (by intro _ _ _ h; exact h) (Or.inl ⟨by rfl, ?qhy5⟩) (by assumption) ?qrest5
  case qhy5 => (intro w hSw; (try dsimp only at hSw); go_simp; try with_reducible rfl)
  try simp only [Act.put, List.getElem_toArray, List.getElem_cons_succ, List.getElem_cons_zero, List.setIfInBounds_toArray, List.set_cons_zero, List.set_cons_succ]
  refine wpAnyH_take (i := 6) (v := ?qv6) rfl (by kernel_rfl) (by kernel_rfl) (by kernel_rfl) (by intro _ _ _ h; exact h) (Or.inl ⟨by rfl, ?qhy6⟩) (by assumption) ?qrest6
  case qhy6 => (intro w hSw; (try dsimp only at hSw); go_simp; try with_reducible rfl)
  try simp only [Act.put, List.getElem_toArray, List.getElem_cons_succ, List.getElem_cons_zero, List.setIfInBounds_toArray, List.set_cons_zero, List.set_cons_succ]
  refine wpAnyH_take (i := 7) (v := ?qv7) rfl (by kernel_rfl) (by kernel_rfl) (by kernel_rfl) (by intro _ _ _ h; exact h) (Or.inl ⟨by rfl, ?qhy7⟩) (by assumption) ?qrest7
  case qhy7 => (intro w hSw; (try dsimp only at hSw); go_simp; try with_reducible rfl)
  try simp only [Act.put, List.getElem_toArray, List.getElem_cons_succ, List.getElem_cons_zero, List.setIfInBounds_toArray, List.set_cons_zero, List.set_cons_succ]
  refine wpAnyH_take (i := 8) (v := ?qv8) rfl (by kernel_rfl) (by kernel_rfl) (by kernel_rfl) (by intro _ _ _ h; exact h) (Or.inl ⟨by rfl, ?qhy8⟩) (by assumption) ?qrest8
  case qhy8 => (intro w hSw; (try dsimp only at hSw); go_simp; try with_reducible rfl)
  try simp only [Act.put, List.getElem_toArray, List.getElem_cons_succ, List.getElem_cons_zero, List.setIfInBounds_toArray, List.set_cons_zero, List.set_cons_succ]
  refine wpAnyH_take (i := 9) (v := ?qv9) rfl (by kernel_rfl) (by kernel_rfl) (by kernel_rfl) (by intro _ _ _ h; exact h) (Or.inl ⟨by rfl, ?qhy9⟩) (by assumption) ?qrest9
  case qhy9 => (intro w hSw; (try dsimp only at hSw); go_simp; try with_reducible rfl)
  try simp only [Act.put, List.getElem_toArray, List.getElem_cons_succ, List.getElem_cons_zero, List.setIfInBounds_toArray, List.set_cons_zero, List.set_cons_succ]
  refine wpAnyH_take (i := 10) (v := ?qv10) rfl (by kernel_rfl) (by kernel_rfl) (by kernel_rfl) (by intro _ _ _ h; exact h) (Or.inl ⟨by rfl, ?qhy10⟩) (by assumption) ?qrest10
  case qhy10 => (intro w hSw; (try dsimp only at hSw); go_simp; try with_reducible rfl)
  try simp only [Act.put, List.getElem_toArray, List.getElem_cons_succ, List.getElem_cons_zero, List.setIfInBounds_toArray, List.set_cons_zero, List.set_cons_succ]
  refine wpAnyH_take (i := 11) (v := ?qv11) rfl (by kernel_rfl) (by kernel_rfl) (by kernel_rfl) (by intro _ _ _ h; exact h) (Or.inl ⟨by rfl, ?qhy11⟩) (by assumption) ?qrest11
  case qhy11 => (intro w hSw; (try dsimp only at hSw); go_simp; try with_reducible rfl)
  try simp only [Act.put, List.getElem_toArray, List.getElem_cons_succ, List.getElem_cons_zero, List.setIfInBounds_toArray, List.set_cons_zero, List.set_cons_succ]
  refine wpAnyH_take (i := 12) (v := ?qv12) rfl (by kernel_rfl) (by kernel_rfl) (by kernel_rfl) (by intro _ _ _ h; exact h) (Or.inl ⟨by rfl, ?qhy12⟩) (by assumption) ?qrest12
  case qhy12 => (intro w hSw; (try dsimp only at hSw); go_simp; try with_reducible rfl)
  try simp only [Act.put, List.getElem_toArray, List.getElem_cons_succ, List.getElem_cons_zero, List.setIfInBounds_toArray, List.set_cons_zero, List.set_cons_succ]
  refine wpAnyH_take (i := 13) (v := ?qv13) rfl (by kernel_rfl) (by kernel_rfl) (by kernel_rfl) (by intro _ _ _ h; exact h) (Or.inl ⟨by rfl, ?qhy13⟩) (by assumption) ?qrest13
  case qhy13 => (intro w hSw; (try dsimp only at hSw); go_simp; try with_reducible rfl)
  try simp only [Act.put, List.getElem_toArray, List.getElem_cons_succ, List.getElem_cons_zero, List.setIfInBounds_toArray, List.set_cons_zero, List.set_cons_succ]
  refine wpAnyH_take (i := 14) (v := ?qv14) rfl (by kernel_rfl) (by kernel_rfl) (by kernel_rfl) (by intro _ _ _ h; exact h) (Or.inl ⟨by rfl, ?qhy14⟩) (by assumption) ?qrest14
  case qhy14 => (intro w hSw; (try dsimp only at hSw); go_simp; try with_reducible rfl)
  try simp only [Act.put, List.getElem_toArray, List.getElem_cons_succ, List.getElem_cons_zero, List.setIfInBounds_toArray, List.set_cons_zero, List.set_cons_succ]
  refine wpAnyH_take (i := 15) (v := ?qv15) rfl (by kernel_rfl) (by kernel_rfl) (by kernel_rfl) (by intro _ _ _ h; exact h) (Or.inl ⟨by rfl, ?qhy15⟩) (by assumption) ?qrest15
  case qhy15 => (intro w hSw; (try dsimp only at hSw); go_simp; try with_reducible rfl)
  try simp only [Act.put, List.getElem_toArray, List.getElem_cons_succ, List.getElem_cons_zero, List.setIfInBounds_toArray, List.set_cons_zero, List.set_cons_succ]
  refine wpAnyH_take (i := 16) (v := ?qv16) rfl (by kernel_rfl) (by kernel_rfl) (by kernel_rfl) (by intro _ _ _ h; exact h) (Or.inl ⟨by rfl, ?qhy16⟩) (by assumption) ?qrest16
  case qhy16 => (intro w hSw; (try dsimp only at hSw); go_simp; try with_reducible rfl)
  try simp only [Act.put, List.getElem_toArray, List.getElem_cons_succ, List.getElem_cons_zero, List.setIfInBounds_toArray, List.set_cons_zero, List.set_cons_succ]
  refine wpAnyH_take (i := 17) (v := ?qv17) rfl (by kernel_rfl) (by kernel_rfl) (by kernel_rfl) (by intro _ _ _ h; exact h) (Or.inl ⟨by rfl, ?qhy17⟩) (by assumption) ?qrest17
  case qhy17 => (intro w hSw; (try dsimp only at hSw); go_simp; try with_reducible rfl)
  try simp only [Act.put, List.getElem_toArray, List.getElem_cons_succ, List.getElem_cons_zero, List.setIfInBounds_toArray, List.set_cons_zero, List.set_cons_succ]
  refine wpAnyH_take (i := 18) (v := ?qv18) rfl (by kernel_rfl) (by kernel_rfl) (by kernel_rfl) (by intro _ _ _ h; exact h) (Or.inl ⟨by rfl, ?qhy18⟩) (by assumption) ?qrest18
  case qhy18 => (intro w hSw; (try dsimp only at hSw); go_simp; try with_reducible rfl)
  try simp only [Act.put, List.getElem_toArray, List.getElem_cons_succ, List.getElem_cons_zero, List.setIfInBounds_toArray, List.set_cons_zero, List.set_cons_succ]
  refine wpAnyH_take (i := 19) (v := ?qv19) rfl (by kernel_rfl) (by kernel_rfl) (by kernel_rfl) (by intro _ _ _ h; exact h) (Or.inl ⟨by rfl, ?qhy19⟩) (by assumption) ?qrest19
  case qhy19 => (intro w hSw; (try dsimp only at hSw); go_simp; try with_reducible rfl)
  try simp only [Act.put, List.getElem_toArray, List.getElem_cons_succ, List.getElem_cons_zero, List.setIfInBounds_toArray, List.set_cons_zero, List.set_cons_succ]
  refine wpAnyH_take (i := 20) (v := ?qv20) rfl (by kernel_rfl) (by kernel_rfl) (by kernel_rfl) (by intro _ _ _ h; exact h) (Or.inl ⟨by rfl, ?qhy20⟩) (by assumption) ?qrest20
  case qhy20 => (intro w hSw; (try dsimp only at hSw); go_simp; try with_reducible rfl)
  try simp only [Act.put, List.getElem_toArray, List.getElem_cons_succ, List.getElem_cons_zero, List.setIfInBounds_toArray, List.set_cons_zero, List.set_cons_succ]
  refine wpAnyH_take (i := 21) (v := ?qv21) rfl (by kernel_rfl) (by kernel_rfl) (by kernel_rfl) (by intro _ _ _ h; exact h) (Or.inl ⟨by rfl, ?qhy21⟩) (by assumption) ?qrest21
  case qhy21 => (intro w hSw; (try dsimp only at hSw); go_simp; try with_reducible rfl)
  try simp only [Act.put, List.getElem_toArray, List.getElem_cons_succ, List.getElem_cons_zero, List.setIfInBounds_toArray, List.set_cons_zero, List.set_cons_succ]
  refine wpAnyH_take (i := 22) (v := undef) rfl (by kernel_rfl) (by kernel_rfl) (by kernel_rfl) (by intro _ _ _ h; exact h) (Or.inr ⟨by rfl, rfl⟩) (by assumption) ?_
  try simp only [Act.put, List.getElem_toArray, List.getElem_cons_succ, List.getElem_cons_zero, List.setIfInBounds_toArray, List.set_cons_zero, List.set_cons_succ]
  refine wpAnyH_take (i := 23) (v := undef) rfl (by kernel_rfl) (by kernel_rfl) (by kernel_rfl) (by intro _ _ _ h; exact h) (Or.inr ⟨by rfl, rfl⟩) (by assumption) ?_
  try simp only [Act.put, List.getElem_toArray, List.getElem_cons_succ, List.getElem_cons_zero, List.setIfInBounds_toArray, List.set_cons_zero, List.set_cons_succ]
  refine wpAnyH_take (i := 24) (v := ?qv24) rfl (by kernel_rfl) (by kernel_rfl) (by kernel_rfl) (by intro _ _ _ h; exact h) (Or.inl ⟨by rfl, ?qhy24⟩) (by assumption) ?qrest24
  case qhy24 => (intro w hSw; (try dsimp only at hSw); go_simp; try with_reducible rfl)
  try simp only [Act.put, List.getElem_toArray, List.getElem_cons_succ, List.getElem_cons_zero, List.setIfInBounds_toArray, List.set_cons_zero, List.set_cons_succ]
  refine wpAnyH_take (i := 25) (v := ?qv25) rfl (by kernel_rfl) (by kernel_rfl) (by kernel_rfl) (by intro _ _ _ h; exact h) (Or.inl ⟨by rfl, ?qhy25⟩) (by assumption) ?qrest25
  case qhy25 => (intro w hSw; (try dsimp only at hSw); go_simp; try with_reducible rfl)
  try simp only [Act.put, List.getElem_toArray, List.getElem_cons_succ, List.getElem_cons_zero, List.setIfInBounds_toArray, List.set_cons_zero, List.set_cons_succ]
  refine wpAnyH_take (i := 26) (v := ?qv26) rfl (by kernel_rfl) (by kernel_rfl) (by kernel_rfl) (by intro _ _ _ h; exact h) (Or.inl ⟨by rfl, ?qhy26⟩) (by assumption) ?qrest26
  case qhy26 => (intro w hSw; (try dsimp only at hSw); go_simp; try with_reducible rfl)
  try simp only [Act.put, List.getElem_toArray, List.getElem_cons_succ, List.getElem_cons_zero, List.setIfInBounds_toArray, List.set_cons_zero, List.set_cons_succ]
  refine wpAnyH_take (i := 27) (v := ?qv27) rfl (by kernel_rfl) (by kernel_rfl) (by kernel_rfl) (by intro _ _ _ h; exact h) (Or.inl ⟨by rfl, ?qhy27⟩) (by assumption) ?qrest27
  case qhy27 => (intro w hSw; (try dsimp only at hSw); go_simp; try with_reducible rfl)
  try simp only [Act.put, List.getElem_toArray, List.getElem_cons_succ, List.getElem_cons_zero, List.setIfInBounds_toArray, List.set_cons_zero, List.set_cons_succ]
  refine wpAnyH_take (i := 28) (v := ?qv28) rfl (by kernel_rfl) (by kernel_rfl) (by kernel_rfl) (by intro _ _ _ h; exact h) (Or.inl ⟨by rfl, ?qhy28⟩) (by assumption) ?qrest28
  case qhy28 => (intro w hSw; (try dsimp only at hSw); go_simp; try with_reducible rfl)
  try simp only [Act.put, List.getElem_toArray, List.getElem_cons_succ, List.getElem_cons_zero, List.setIfInBounds_toArray, List.set_cons_zero, List.set_cons_succ]
  refine wpAnyH_take (i := 30) (v := ?qv30) rfl (by kernel_rfl) (by kernel_rfl) (by kernel_rfl) (by intro _ _ _ h; exact h) (Or.inl ⟨by rfl, ?qhy30⟩) (by assumption) ?qrest30
  case qhy30 => (intro w hSw; (try dsimp only at hSw); go_simp; try with_reducible rfl)
  try simp only [Act.put, List.getElem_toArray, List.getElem_cons_succ, List.getElem_cons_zero, List.setIfInBounds_toArray, List.set_cons_zero, List.set_cons_succ]
  refine wpAnyH_ready (rs := [29]) (by kernel_rfl) (by simp) ?_
  refine AllReadyH.cons rfl (fun K hK => ?_) AllReadyH.nil
  go_simp
  go_wp2_with (go_at_call 29; refine (prefixCovers a ha n a ha n _).mono ?_; rw [HC.out]; rintro _ w5 ⟨rfl, b5⟩)
  refine hK.out _ _ ?_ (fun hHeld => ?_)
  · try dsimp only
    first | (refine keep33 hg3 b6 ?_; assumption) | (refine keep33 hg3 b5 ?_; assumption) | (refine keep33 hg3 b4 ?_; assumption) | ((repeat' apply And.intro) <;> first | (with_reducible exact Below.drew (Below.refl _ _)) | (with_reducible assumption) | go_keep)
  clear hK K
  refine wpAnyH_ready (rs := [31]) (by kernel_rfl) (by simp) ?_
  refine AllReadyH.cons rfl (fun K hK => ?_) AllReadyH.nil
  go_simp
  go_wp2_with (go_at_call 24; refine (prefixRight a ha n _).mono ?_; rw [HR.out]; rintro _ w6 ⟨rfl, b6⟩)
  refine hK.out _ _ ?_ (fun hHeld => ?_)
  · try dsimp only
    first | (refine keep33 hg3 b6 ?_; assumption) | (refine keep33 hg3 b5 ?_; assumption) | (refine keep33 hg3 b4 ?_; assumption) | ((repeat' apply And.intro) <;> first | (with_reducible exact Below.drew (Below.refl _ _)) | (with_reducible assumption) | go_keep)
  clear hK K
  refine wpAnyH_take (i := 32) (v := ?qv32) rfl (by kernel_rfl) (by kernel_rfl) (by kernel_rfl) (by intro _ _ _ h; exact h) (Or.inl ⟨by rfl, ?qhy32⟩) (by assumption) ?qrest32
  case qhy32 => (intro w hSw; (try dsimp only at hSw); go_simp; try with_reducible rfl)
  try simp only [Act.put, List.getElem_toArray, List.getElem_cons_succ, List.getElem_cons_zero, List.setIfInBounds_toArray, List.set_cons_zero, List.set_cons_succ]
  refine wpAnyH_take (i := 33) (v := ?qv33) rfl (by kernel_rfl) (by kernel_rfl) (by kernel_rfl) (by intro _ _ _ h; exact h) (Or.inl ⟨by rfl, ?qhy33⟩) (by assumption) ?qrest33
  case qhy33 => (intro w hSw; (try dsimp only at hSw); go_simp; try with_reducible rfl)
  try simp only [Act.put, List.getElem_toArray, List.getElem_cons_succ, List.getElem_cons_zero, List.setIfInBounds_toArray, List.set_cons_zero, List.set_cons_succ]
  refine wpAnyH_done (by kernel_rfl) ?_ _
  go_wp2_with fail
  obtain ⟨hs7, _, _, _, _, _, _⟩ := hHeld
  have b06 := btr b03 hs7 b03.size
  have hD6 := hD3.below hs7 hD3.lt
  have hE6 := hE3.below hs7 hE3.lt
  have hF6 := hF3.below hs7 hF3.lt
  clear x0 x1 y0 y1 z0 z1 d0 d1 e0 e1 g0 g1 b0 b1 b2 b3 b4 b5 b6 hD hE hF hD3 hE3 hF3 hgl hg3 t0 t3 hs7
  have x60 := hD6.cell 0
  have x61 := hD6.cell 1
  have y60 := hE6.cell 0
  have y61 := hE6.cell 1
  have z60 := hF6.cell 0
  have z61 := hF6.cell 1
  cases R
  · go_wp2_with fail
    refine (prefixCovers a ha n a ha n _).mono ?_
    rw [HC.out]
    rintro _ w7 ⟨rfl, b7⟩
    have b07 := btr b06 b7 b06.size
    clear x60 x61 y60 y61 z60 z61
    have hD7 := hD6.below b7 hD6.lt
    have x70 := hD7.cell 0
    have x71 := hD7.cell 1
    have hE7 := hE6.below b7 hE6.lt
    have y70 := hE7.cell 0
    have y71 := hE7.cell 1
    have hF7 := hF6.below b7 hF6.lt
    have z70 := hF7.cell 0
    have z71 := hF7.cell 1
    go_wp2_with fail
    refine (prefixCovers a ha n a ha n _).mono ?_
    rw [HC.out]
    rintro _ w8 ⟨rfl, b8⟩
    have b08 := btr b07 b8 b07.size
    clear x70 x71 y70 y71 z70 z71
    have hD8 := hD7.below b8 hD7.lt
    have x80 := hD8.cell 0
    have x81 := hD8.cell 1
    have hE8 := hE7.below b8 hE7.lt
    have y80 := hE8.cell 0
    have y81 := hE8.cell 1
    have hF8 := hF7.below b8 hF7.lt
    have z80 := hF8.cell 0
    have z81 := hF8.cell 1
    go_wp2_with fail
    refine (prefixCovers a ha n a ha n _).mono ?_
    rw [HC.out]
    rintro _ w9 ⟨rfl, b9⟩
    have b09 := btr b08 b9 b08.size
    clear x80 x81 y80 y81 z80 z81
    have hD9 := hD8.below b9 hD8.lt
    have x90 := hD9.cell 0
    have x91 := hD9.cell 1
    have hE9 := hE8.below b9 hE8.lt
    have y90 := hE9.cell 0
    have y91 := hE9.cell 1
    have hF9 := hF8.below b9 hF8.lt
    have z90 := hF9.cell 0
    have z91 := hF9.cell 1
    go_wp2_with fail
    refine (awake02 _ (ht.call b09)).mono ?_
    rintro _ w10 ⟨rfl, b10⟩
    have b010 := btr b09 b10 b09.size
    clear x90 x91 y90 y91 z90 z91
    have hD10 := hD9.below b10 hD9.lt
    have x100 := hD10.cell 0
    have x101 := hD10.cell 1
    have hE10 := hE9.below b10 hE9.lt
    have y100 := hE10.cell 0
    have y101 := hE10.cell 1
    have hF10 := hF9.below b10 hF9.lt
    have z100 := hF10.cell 0
    have z101 := hF10.cell 1
    try go_wp2_with fail
    go_ret
    exact ⟨rfl, b010⟩
  · cases U
    · go_wp2_with fail
      refine (prefixCovers a ha n a ha n _).mono ?_
      rw [HC.out]
      rintro _ w7 ⟨rfl, b7⟩
      have b07 := btr b06 b7 b06.size
      clear x60 x61 y60 y61 z60 z61
      have hD7 := hD6.below b7 hD6.lt
      have x70 := hD7.cell 0
      have x71 := hD7.cell 1
      have hE7 := hE6.below b7 hE6.lt
      have y70 := hE7.cell 0
      have y71 := hE7.cell 1
      have hF7 := hF6.below b7 hF6.lt
      have z70 := hF7.cell 0
      have z71 := hF7.cell 1
      go_wp2_with fail
      refine (prefixCovers a ha n c hc k _).mono ?_
      rw [HU.out]
      rintro _ w8 ⟨rfl, b8⟩
      have b08 := btr b07 b8 b07.size
      clear x70 x71 y70 y71 z70 z71
      have hD8 := hD7.below b8 hD7.lt
      have x80 := hD8.cell 0
      have x81 := hD8.cell 1
      have hE8 := hE7.below b8 hE7.lt
      have y80 := hE8.cell 0
      have y81 := hE8.cell 1
      have hF8 := hF7.below b8 hF7.lt
      have z80 := hF8.cell 0
      have z81 := hF8.cell 1
      go_wp2_with fail
      refine (prefixCovers a ha n a ha n _).mono ?_
      rw [HC.out]
      rintro _ w9 ⟨rfl, b9⟩
      have b09 := btr b08 b9 b08.size
      clear x80 x81 y80 y81 z80 z81
      have hD9 := hD8.below b9 hD8.lt
      have x90 := hD9.cell 0
      have x91 := hD9.cell 1
      have hE9 := hE8.below b9 hE8.lt
      have y90 := hE9.cell 0
      have y91 := hE9.cell 1
      have hF9 := hF8.below b9 hF8.lt
      have z90 := hF9.cell 0
      have z91 := hF9.cell 1
      go_wp2_with fail
      refine (prefixCovers a ha n a ha n _).mono ?_
      rw [HC.out]
      rintro _ w10 ⟨rfl, b10⟩
      have b010 := btr b09 b10 b09.size
      clear x90 x91 y90 y91 z90 z91
      have hD10 := hD9.below b10 hD9.lt
      have x100 := hD10.cell 0
      have x101 := hD10.cell 1
      have hE10 := hE9.below b10 hE9.lt
      have y100 := hE10.cell 0
      have y101 := hE10.cell 1
      have hF10 := hF9.below b10 hF9.lt
      have z100 := hF10.cell 0
      have z101 := hF10.cell 1
      go_wp2_with fail
      refine (prefixCovers a ha n a ha n _).mono ?_
      rw [HC.out]
      rintro _ w11 ⟨rfl, b11⟩
      have b011 := btr b010 b11 b010.size
      clear x100 x101 y100 y101 z100 z101
      have hD11 := hD10.below b11 hD10.lt
      have x110 := hD11.cell 0
      have x111 := hD11.cell 1
      have hE11 := hE10.below b11 hE10.lt
      have y110 := hE11.cell 0
      have y111 := hE11.cell 1
      have hF11 := hF10.below b11 hF10.lt
      have z110 := hF11.cell 0
      have z111 := hF11.cell 1
      go_wp2_with fail
      refine (awake02 _ (ht.call b011)).mono ?_
      rintro _ w12 ⟨rfl, b12⟩
      have b012 := btr b011 b12 b011.size
      clear x110 x111 y110 y111 z110 z111
      have hD12 := hD11.below b12 hD11.lt
      have x120 := hD12.cell 0
      have x121 := hD12.cell 1
      have hE12 := hE11.below b12 hE11.lt
      have y120 := hE12.cell 0
      have y121 := hE12.cell 1
      have hF12 := hF11.below b12 hF11.lt
      have z120 := hF12.cell 0
      have z121 := hF12.cell 1
      try go_wp2_with fail
      go_ret
      exact ⟨rfl, b012⟩
    · go_wp2_with fail
      refine (prefixCovers a ha n a ha n _).mono ?_
      rw [HC.out]
      rintro _ w7 ⟨rfl, b7⟩
      have b07 := btr b06 b7 b06.size
      clear x60 x61 y60 y61 z60 z61
      have hD7 := hD6.below b7 hD6.lt
      have x70 := hD7.cell 0
      have x71 := hD7.cell 1
      have hE7 := hE6.below b7 hE6.lt
      have y70 := hE7.cell 0
      have y71 := hE7.cell 1
      have hF7 := hF6.below b7 hF6.lt
      have z70 := hF7.cell 0
      have z71 := hF7.cell 1
      go_wp2_with fail
      refine (prefixCovers a ha n c hc k _).mono ?_
      rw [HU.out]
      rintro _ w8 ⟨rfl, b8⟩
      have b08 := btr b07 b8 b07.size
      clear x70 x71 y70 y71 z70 z71
      have hD8 := hD7.below b8 hD7.lt
      have x80 := hD8.cell 0
      have x81 := hD8.cell 1
      have hE8 := hE7.below b8 hE7.lt
      have y80 := hE8.cell 0
      have y81 := hE8.cell 1
      have hF8 := hF7.below b8 hF7.lt
      have z80 := hF8.cell 0
      have z81 := hF8.cell 1
      go_wp2_with fail
      refine (prefixCovers a ha n c hc k _).mono ?_
      rw [HU.out]
      rintro _ w9 ⟨rfl, b9⟩
      have b09 := btr b08 b9 b08.size
      clear x80 x81 y80 y81 z80 z81
      have hD9 := hD8.below b9 hD8.lt
      have x90 := hD9.cell 0
      have x91 := hD9.cell 1
      have hE9 := hE8.below b9 hE8.lt
      have y90 := hE9.cell 0
      have y91 := hE9.cell 1
      have hF9 := hF8.below b9 hF8.lt
      have z90 := hF9.cell 0
      have z91 := hF9.cell 1
      go_wp2_with fail
      refine (prefixCovers a ha n a ha n _).mono ?_
      rw [HC.out]
      rintro _ w10 ⟨rfl, b10⟩
      have b010 := btr b09 b10 b09.size
      clear x90 x91 y90 y91 z90 z91
      have hD10 := hD9.below b10 hD9.lt
      have x100 := hD10.cell 0
      have x101 := hD10.cell 1
      have hE10 := hE9.below b10 hE9.lt
      have y100 := hE10.cell 0
      have y101 := hE10.cell 1
      have hF10 := hF9.below b10 hF9.lt
      have z100 := hF10.cell 0
      have z101 := hF10.cell 1
      go_wp2_with fail
      refine (prefixCovers a ha n a ha n _).mono ?_
      rw [HC.out]
      rintro _ w11 ⟨rfl, b11⟩
      have b011 := btr b010 b11 b010.size
      clear x100 x101 y100 y101 z100 z101
      have hD11 := hD10.below b11 hD10.lt
      have x110 := hD11.cell 0
      have x111 := hD11.cell 1
      have hE11 := hE10.below b11 hE10.lt
      have y110 := hE11.cell 0
      have y111 := hE11.cell 1
      have hF11 := hF10.below b11 hF10.lt
      have z110 := hF11.cell 0
      have z111 := hF11.cell 1
      go_wp2_with fail
      refine (prefixCovers a ha n a ha n _).mono ?_
      rw [HC.out]
      rintro _ w12 ⟨rfl, b12⟩
      have b012 := btr b011 b12 b011.size
      clear x110 x111 y110 y111 z110 z111
      have hD12 := hD11.below b12 hD11.lt
      have x120 := hD12.cell 0
      have x121 := hD12.cell 1
      have hE12 := hE11.below b12 hE11.lt
      have y120 := hE12.cell 0
      have y121 := hE12.cell 1
      have hF12 := hF11.below b12 hF11.lt
      have z120 := hF12.cell 0
      have z121 := hF12.cell 1
      go_wp2_with fail
      refine (awake02 _ (ht.call b012)).mono ?_
      rintro _ w13 ⟨rfl, b13⟩
      have b013 := btr b012 b13 b012.size
      clear x120 x121 y120 y121 z120 z121
      have hD13 := hD12.below b13 hD12.lt
      have x130 := hD13.cell 0
      have x131 := hD13.cell 1
      have hE13 := hE12.below b13 hE12.lt
      have y130 := hE13.cell 0
      have y131 := hE13.cell 1
      have hF13 := hF12.below b13 hF12.lt
      have z130 := hF13.cell 0
      have z131 := hF13.cell 1
      try go_wp2_with fail
      go_ret
      exact ⟨rfl, b013⟩
set_option maxHeartbeats 16000000 in
set_option maxRecDepth 100000 in
set_option linter.unusedSimpArgs false in
theorem prefixOrder_eql (w : World) (a : Nat) (n : Int) (ha : a < 4294967296) (c : Nat) (k : Int) (hc : c < 4294967296) (ht : DigTab w)
    (h1 : pCmp a n a n = 0)
    (h2 : pCmp a n c k ≤ 0) :
    Calls Tryd.prog 5 #[.agg #[.int .u32 a, .int .i64 n], .agg #[.int .u32 a, .int .i64 n], .agg #[.int .u32 c, .int .i64 k]] w fun en w' => en = .returned (.bool true) ∧ Below w.heap.size w w' := by
  have h3 : pCmp a n c k ≤ 0 := cmp_trans (by rw [h1]; decide) h2
  obtain ⟨P, hP⟩ : ∃ P, pCmp a n c k = P := ⟨_, rfl⟩
  have p2 : decide (P ≤ 0) = true := decide_eq_true (hP ▸ h2)
  have p3 : decide (0 < P) = false := decide_eq_false (Int.not_lt.2 (hP ▸ h3))
  clear h3
  have hwr : IntKind.i64.wrap 0 = 0 := by decide
  obtain ⟨R, hR⟩ : ∃ R, pRight a n = R := ⟨_, rfl⟩
  have hC := (covers_refl a n).trans hR
  obtain ⟨U, hU⟩ : ∃ U, pCovers a n c k = U := ⟨_, rfl⟩
  have H1 := Lib.hid h1
  have HP := Lib.hid hP
  have HR := Lib.hid hR
  have HC := Lib.hid hC
  have HU := Lib.hid hU
  clear h1 h2 hP hR hC hU
  go_enter Tryd.func5, Tryd.ntmps5
  go_wp2_with fail
  obtain ⟨W, hW, hD, hE, hF, b0⟩ := box3 w (.int .u32 a) (.int .i64 n) (.int .u32 a) (.int .i64 n) (.int .u32 c) (.int .i64 k)
  rw [hW]
  clear hW
  have hgl := hF.lt
  have d0 := hD.cell 0
  have d1 := hD.cell 1
  have e0 := hE.cell 0
  have e1 := hE.cell 1
  have g0 := hF.cell 0
  have g1 := hF.cell 1
  have t0 := ht.call b0
  refine wp_region_held_drew (S := (fun w' => Below W.heap.size W w' ∧ w'.cell? ⟨w.heap.size, 0, none⟩ = some (.int .u32 a) ∧ w'.cell? ⟨w.heap.size, 1, none⟩ = some (.int .i64 n) ∧ w'.cell? ⟨w.heap.size + 1, 0, none⟩ = some (.int .u32 a) ∧ w'.cell? ⟨w.heap.size + 1, 1, none⟩ = some (.int .i64 n) ∧ w'.cell? ⟨w.heap.size + 1 + 1, 0, none⟩ = some (.int .u32 c) ∧ w'.cell? ⟨w.heap.size + 1 + 1, 1, none⟩ = some (.int .i64 k))) (by kernel_rfl) ?_ (fun hHeld => ?_)
  · first | (refine keep33 hgl b3 ?_; assumption) | (refine keep33 hgl b2 ?_; assumption) | (refine keep33 hgl b1 ?_; assumption) | ((repeat' apply And.intro) <;> first | (with_reducible exact Below.drew (Below.refl _ _)) | (with_reducible assumption) | go_keep)
  refine wpAnyH_take (i := 0) (v := ?pv0) rfl (by kernel_rfl) (by kernel_rfl) (by kernel_rfl) (by intro _ _ _ h; exact h) (Or.inl ⟨by rfl, ?phy0⟩) (by assumption) ?prest0
  case phy0 => (intro w hSw; (try dsimp only at hSw); go_simp; try with_reducible rfl)
  try simp only [Act.put, List.getElem_toArray, List.getElem_cons_succ, List.getElem_cons_zero, List.setIfInBounds_toArray, List.set_cons_zero, List.set_cons_succ]
  refine wpAnyH_take (i := 1) (v := ?pv1) rfl (by kernel_rfl) (by kernel_rfl) (by kernel_rfl) (by intro _ _ _ h; exact h) (Or.inl ⟨by rfl, ?phy1⟩) (by assumption) ?prest1
  case phy1 => (intro w hSw; (try dsimp only at hSw); go_simp; try with_reducible rfl)
  try simp only [Act.put, List.getElem_toArray, List.getElem_cons_succ, List.getElem_cons_zero, List.setIfInBounds_toArray, List.set_cons_zero, List.set_cons_succ]
  refine wpAnyH_take (i := 3) (v := ?pv3) rfl (by kernel_rfl) (by kernel_rfl) (by kernel_rfl) (by intro _ _ _ h; exact h) (Or.inl ⟨by rfl, ?phy3⟩) (by assumption) ?prest3
  case phy3 => (intro w hSw; (try dsimp only at hSw); go_simp; try with_reducible rfl)
  try simp only [Act.put, List.getElem_toArray, List.getElem_cons_succ, List.getElem_cons_zero, List.setIfInBounds_toArray, List.set_cons_zero, List.set_cons_succ]
  refine wpAnyH_take (i := 4) (v := ?pv4) rfl (by kernel_rfl) (by kernel_rfl) (by kernel_rfl) (by intro _ _ _ h; exact h) (Or.inl ⟨by rfl, ?phy4⟩) (by assumption) ?prest4
  case phy4 => (intro w hSw; (try dsimp only at hSw); go_simp; try with_reducible rfl)
  try simp only [Act.put, List.getElem_toArray, List.getElem_cons_succ, List.getElem_cons_zero, List.setIfInBounds_toArray, List.set_cons_zero, List.set_cons_succ]
  refine wpAnyH_take (i := 6) (v := ?pv6) rfl (by kernel_rfl) (by kernel_rfl) (by kernel_rfl) (by intro _ _ _ h; exact h) (Or.inl ⟨by rfl, ?phy6⟩) (by assumption) ?prest6
  case phy6 => (intro w hSw; (try dsimp only at hSw); go_simp; try with_reducible rfl)
  try simp only [Act.put, List.getElem_toArray, List.getElem_cons_succ, List.getElem_cons_zero, List.setIfInBounds_toArray, List.set_cons_zero, List.set_cons_succ]
  refine wpAnyH_take (i := 7) (v := ?pv7) rfl (by kernel_rfl) (by kernel_rfl) (by kernel_rfl) (by intro _ _ _ h; exact h) (Or.inl ⟨by rfl, ?phy7⟩) (by assumption) ?prest7
  case phy7 => (intro w hSw; (try dsimp only at hSw); go_simp; try with_reducible rfl)
  try simp only [Act.put, List.getElem_toArray, List.getElem_cons_succ, List.getElem_cons_zero, List.setIfInBounds_toArray, List.set_cons_zero, List.set_cons_succ]
  refine wpAnyH_ready (rs := [2]) (by kernel_rfl) (by simp) ?_
  refine AllReadyH.cons rfl (fun K hK => ?_) AllReadyH.nil
  go_simp
  go_wp2_with (go_at_call 28; refine (prefixCompare a n a n _).mono ?_; rw [H1.out]; rintro _ w1 ⟨rfl, b1⟩)
  refine hK.out _ _ ?_ (fun hHeld => ?_)
  · try dsimp only
    first | (refine keep33 hgl b3 ?_; assumption) | (refine keep33 hgl b2 ?_; assumption) | (refine keep33 hgl b1 ?_; assumption) | ((repeat' apply And.intro) <;> first | (with_reducible exact Below.drew (Below.refl _ _)) | (with_reducible assumption) | go_keep)
  clear hK K
  refine wpAnyH_ready (rs := [5]) (by kernel_rfl) (by simp) ?_
  refine AllReadyH.cons rfl (fun K hK => ?_) AllReadyH.nil
  go_simp
  go_wp2_with (go_at_call 28; refine (prefixCompare a n c k _).mono ?_; rw [HP.out]; rintro _ w2 ⟨rfl, b2⟩)
  refine hK.out _ _ ?_ (fun hHeld => ?_)
  · try dsimp only
    first | (refine keep33 hgl b3 ?_; assumption) | (refine keep33 hgl b2 ?_; assumption) | (refine keep33 hgl b1 ?_; assumption) | ((repeat' apply And.intro) <;> first | (with_reducible exact Below.drew (Below.refl _ _)) | (with_reducible assumption) | go_keep)
  clear hK K
  refine wpAnyH_ready (rs := [8]) (by kernel_rfl) (by simp) ?_
  refine AllReadyH.cons rfl (fun K hK => ?_) AllReadyH.nil
  go_simp
  go_wp2_with (go_at_call 28; refine (prefixCompare a n c k _).mono ?_; rw [HP.out]; rintro _ w3 ⟨rfl, b3⟩)
  refine hK.out _ _ ?_ (fun hHeld => ?_)
  · try dsimp only
    first | (refine keep33 hgl b3 ?_; assumption) | (refine keep33 hgl b2 ?_; assumption) | (refine keep33 hgl b1 ?_; assumption) | ((repeat' apply And.intro) <;> first | (with_reducible exact Below.drew (Below.refl _ _)) | (with_reducible assumption) | go_keep)
  clear hK K
  refine wpAnyH_take (i := 9) (v := ?pv9) rfl (by kernel_rfl) (by kernel_rfl) (by kernel_rfl) (by intro _ _ _ h; exact h) (Or.inl ⟨by rfl, ?phy9⟩) (by assumption) ?prest9
  case phy9 => (intro w hSw; (try dsimp only at hSw); go_simp; try with_reducible rfl)
  try simp only [Act.put, List.getElem_toArray, List.getElem_cons_succ, List.getElem_cons_zero, List.setIfInBounds_toArray, List.set_cons_zero, List.set_cons_succ]
  refine wpAnyH_take (i := 10) (v := ?pv10) rfl (by kernel_rfl) (by kernel_rfl) (by kernel_rfl) (by intro _ _ _ h; exact h) (Or.inl ⟨by rfl, ?phy10⟩) (by assumption) ?prest10
  case phy10 => (intro w hSw; (try dsimp only at hSw); go_simp; try with_reducible rfl)
  try simp only [Act.put, List.getElem_toArray, List.getElem_cons_succ, List.getElem_cons_zero, List.setIfInBounds_toArray, List.set_cons_zero, List.set_cons_succ]
  refine wpAnyH_take (i := 11) (v := ?pv11) rfl (by kernel_rfl) (by kernel_rfl) (by kernel_rfl) (by intro _ _ _ h; exact h) (Or.inl ⟨by rfl, ?phy11⟩) (by assumption) ?prest11
  case phy11 => (intro w hSw; (try dsimp only at hSw); go_simp; try with_reducible rfl)
  try simp only [Act.put, List.getElem_toArray, List.getElem_cons_succ, List.getElem_cons_zero, List.setIfInBounds_toArray, List.set_cons_zero, List.set_cons_succ]
  refine wpAnyH_done (by kernel_rfl) ?_ _
  go_wp2_with fail
  obtain ⟨hs4, x0, x1, y0, y1, z0, z1⟩ := hHeld
  have b03 := btr b0 hs4 b0.size
  have t3 := ht.call b03
  have hg3 : w.heap.size + 1 + 1 < w3.heap.size := by have := hs4.size; omega
  have hD3 := hD.below hs4 hD.lt
  have hE3 := hE.below hs4 hE.lt
  have hF3 := hF.below hs4 hF.lt
  clear hs4
  refine wp_region_held_drew (S := (fun w' => Below w3.heap.size w3 w' ∧ w'.cell? ⟨w.heap.size, 0, none⟩ = some (.int .u32 a) ∧ w'.cell? ⟨w.heap.size, 1, none⟩ = some (.int .i64 n) ∧ w'.cell? ⟨w.heap.size + 1, 0, none⟩ = some (.int .u32 a) ∧ w'.cell? ⟨w.heap.size + 1, 1, none⟩ = some (.int .i64 n) ∧ w'.cell? ⟨w.heap.size + 1 + 1, 0, none⟩ = some (.int .u32 c) ∧ w'.cell? ⟨w.heap.size + 1 + 1, 1, none⟩ = some (.int .i64 k))) (by kernel_rfl) ?_ (fun hHeld => ?_)
  · first | (refine keep33 hg3 b6 ?_; assumption) | (refine keep33 hg3 b5 ?_; assumption) | (refine keep33 hg3 b4 ?_; assumption) | ((repeat' apply And.intro) <;> first | (with_reducible exact Below.drew (Below.refl _ _)) | (with_reducible assumption) | go_keep)
  refine wpAnyH_take (i := 0) (v := ?qv0) rfl (by kernel_rfl) (by kernel_rfl) (by kernel_rfl) (by intro _ _ _ h; exact h) (Or.inl ⟨by rfl, ?qhy0⟩) (by assumption) ?qrest0
  case qhy0 => (intro w hSw; (try dsimp only at hSw); go_simp; try with_reducible rfl)
  try simp only [Act.put, List.getElem_toArray, List.getElem_cons_succ, List.getElem_cons_zero, List.setIfInBounds_toArray, List.set_cons_zero, List.set_cons_succ]
  refine wpAnyH_take (i := 1) (v := ?qv1) rfl (by kernel_rfl) (by kernel_rfl) (by kernel_rfl) (by intro _ _ _ h; exact h) (Or.inl ⟨by rfl, ?qhy1⟩) (by assumption) ?qrest1
  case qhy1 => (intro w hSw; (try dsimp only at hSw); go_simp; try with_reducible rfl)
  try simp only [Act.put, List.getElem_toArray, List.getElem_cons_succ, List.getElem_cons_zero, List.setIfInBounds_toArray, List.set_cons_zero, List.set_cons_succ]
  refine wpAnyH_take (i := 2) (v := ?qv2) rfl (by kernel_rfl) (by kernel_rfl) (by kernel_rfl) (by intro _ _ _ h; exact h) (Or.inl ⟨by rfl, ?qhy2⟩) (by assumption) ?qrest2
  case qhy2 => (intro w hSw; (try dsimp only at hSw); go_simp; try with_reducible rfl)
  try simp only [Act.put, List.getElem_toArray, List.getElem_cons_succ, List.getElem_cons_zero, List.setIfInBounds_toArray, List.set_cons_zero, List.set_cons_succ]
  refine wpAnyH_ready (rs := [3]) (by kernel_rfl) (by simp) ?_
  refine AllReadyH.cons rfl (fun K hK => ?_) AllReadyH.nil
  go_simp
  go_wp2_with (go_at_call 28; refine (prefixCompare a n a n _).mono ?_; rw [H1.out]; rintro _ w4 ⟨rfl, b4⟩)
  refine hK.out _ _ ?_ (fun hHeld => ?_)
  · try dsimp only
    first | (refine keep33 hg3 b6 ?_; assumption) | (refine keep33 hg3 b5 ?_; assumption) | (refine keep33 hg3 b4 ?_; assumption) | ((repeat' apply And.intro) <;> first | (with_reducible exact Below.drew (Below.refl _ _)) | (with_reducible assumption) | go_keep)
  clear hK K
  refine wpAnyH_take (i := 4) (v := ?qv4) rfl (by kernel_rfl) (by kernel_rfl) (by kernel_rfl) (by intro _ _ _ h; exact h) (Or.inl ⟨by rfl, ?qhy4⟩) (by assumption) ?qrest4
  case qhy4 => (intro w hSw; (try dsimp only at hSw); go_simp; try with_reducible rfl)
  try simp only [Act.put, List.getElem_toArray, List.getElem_cons_succ, List.getElem_cons_zero, List.setIfInBounds_toArray, List.set_cons_zero, List.set_cons_succ]
  refine wpAnyH_take (i := 5) (v := ?qv5) rfl (by kernel_rfl) (by kernel_rfl) (by kernel_rfl) (by intro _ _ _ h; exact h) (Or.inl ⟨by rfl, ?qhy5⟩) (by assumption) ?qrest5
  case qhy5 => (intro w hSw; (try dsimp only at hSw); go_simp; try with_reducible rfl)
  try simp only [Act.put, List.getElem_toArray, List.getElem_cons_succ, List.getElem_cons_zero, List.setIfInBounds_toArray, List.set_cons_zero, List.set_cons_succ]
  refine wpAnyH_take (i := 6) (v := ?qv6) rfl (by kernel_rfl) (by kernel_rfl) (by kernel_rfl) (by intro _ _ _ h; exact h) (Or.inl ⟨by rfl, ?qhy6⟩) (by assumption) ?qrest6
  case qhy6 => (intro w hSw; (try dsimp only at hSw); go_simp; try with_reducible rfl)
  try simp only [Act.put, List.getElem_toArray, List.getElem_cons_succ, List.getElem_cons_zero, List.setIfInBounds_toArray, List.set_cons_zero, List.set_cons_succ]
  refine wpAnyH_take (i := 7) (v := ?qv7) rfl (by kernel_rfl) (by kernel_rfl) (by kernel_rfl) (by intro _ _ _ h; exact h) (Or.inl ⟨by rfl, ?qhy7⟩) (by assumption) ?qrest7
  case qhy7 => (intro w hSw; (try dsimp only at hSw); go_simp; try with_reducible rfl)
  try simp only [Act.put, List.getElem_toArray, List.getElem_cons_succ, List.getElem_cons_zero, List.setIfInBounds_toArray, List.set_cons_zero, List.set_cons_succ]
  refine wpAnyH_take (i := 8) (v := ?qv8) rfl (by kernel_rfl) (by kernel_rfl) (by kernel_rfl) (by intro _ _ _ h; exact h) (Or.inl ⟨by rfl, ?qhy8⟩) (by assumption) ?qrest8
  case qhy8 => (intro w hSw; (try dsimp only at hSw); go_simp; try with_reducible rfl)
  try simp only [Act.put, List.getElem_toArray, List.getElem_cons_succ, List.getElem_cons_zero, List.setIfInBounds_toArray, List.set_cons_zero, List.set_cons_succ]
  refine wpAnyH_take (i := 9) (v := ?qv9) rfl (by kernel_rfl) (by kernel_rfl) (by kernel_rfl) (by intro _ _ _ h; exact h) (Or.inl ⟨by rfl, ?qhy9⟩) (by assumption) ?qrest9
  case qhy9 => (intro w hSw; (try dsimp only at hSw); go_simp; try with_reducible rfl)
  try simp only [Act.put, List.getElem_toArray, List.getElem_cons_succ, List.getElem_cons_zero, List.setIfInBounds_toArray, List.set_cons_zero, List.set_cons_succ]
  refine wpAnyH_take (i := 10) (v := ?qv10) rfl (by kernel_rfl) (by kernel_rfl) (by kernel_rfl) (by intro _ _ _ h; exact h) (Or.inl ⟨by rfl, ?qhy10⟩) (by assumption) ?qrest10
  case qhy10 => (intro w hSw; (try dsimp only at hSw); go_simp; try with_reducible rfl)
  try simp only [Act.put, List.getElem_toArray, List.getElem_cons_succ, List.getElem_cons_zero, List.setIfInBounds_toArray, List.set_cons_zero, List.set_cons_succ]
  refine wpAnyH_take (i := 11) (v := ?qv11) rfl (by kernel_rfl) (by kernel_rfl) (by kernel_rfl) (by intro _ _ _ h; exact h) (Or.inl ⟨by rfl, ?qhy11⟩) (by assumption) ?qrest11
  case qhy11 => (intro w hSw; (try dsimp only at hSw); go_simp; try with_reducible rfl)
  try simp only [Act.put, List.getElem_toArray, List.getElem_cons_succ, List.getElem_cons_zero, List.setIfInBounds_toArray, List.set_cons_zero, List.set_cons_succ]
  refine wpAnyH_take (i := 12) (v := ?qv12) rfl (by kernel_rfl) (by kernel_rfl) (by kernel_rfl) (by intro _ _ _ h; exact h) (Or.inl ⟨by rfl, ?qhy12⟩) (by assumption) ?qrest12
  case qhy12 => (intro w hSw; (try dsimp only at hSw); go_simp; try with_reducible rfl)
  try simp only [Act.put, List.getElem_toArray, List.getElem_cons_succ, List.getElem_cons_zero, List.setIfInBounds_toArray, List.set_cons_zero, List.set_cons_succ]
  refine wpAnyH_take (i := 13) (v := ?qv13) rfl (by kernel_rfl) (by kernel_rfl) (by kernel_rfl) (by intro _ _ _ h; exact h) (Or.inl ⟨by rfl, ?qhy13⟩) (by assumption) ?qrest13
  case qhy13 => (intro w hSw; (try dsimp only at hSw); go_simp; try with_reducible rfl)
  try simp only [Act.put, List.getElem_toArray, List.getElem_cons_succ, List.getElem_cons_zero, List.setIfInBounds_toArray, List.set_cons_zero, List.set_cons_succ]
  refine wpAnyH_take (i := 14) (v := ?qv14) rfl (by kernel_rfl) (by kernel_rfl) (by kernel_rfl) (by intro _ _ _ h; exact h) (Or.inl ⟨by rfl, ?qhy14⟩) (by assumption) ?qrest14
  case qhy14 => (intro w hSw; (try dsimp only at hSw); go_simp; try with_reducible rfl)
  try simp only [Act.put, List.getElem_toArray, List.getElem_cons_succ, List.getElem_cons_zero, List.setIfInBounds_toArray, List.set_cons_zero, List.set_cons_succ]
  refine wpAnyH_take (i := 15) (v := ?qv15) rfl (by kernel_rfl) (by kernel_rfl) (by kernel_rfl) (by intro _ _ _ h; exact h) (Or.inl ⟨by rfl, ?qhy15⟩) (by assumption) ?qrest15
  case qhy15 => (intro w hSw; (try dsimp only at hSw); go_simp; try with_reducible rfl)
  try simp only [Act.put, List.getElem_toArray, List.getElem_cons_succ, List.getElem_cons_zero, List.setIfInBounds_toArray, List.set_cons_zero, List.set_cons_succ]
  refine wpAnyH_take (i := 16) (v := ?qv16) rfl (by kernel_rfl) (by kernel_rfl) (by kernel_rfl) (by intro _ _ _ h; exact h) (Or.inl ⟨by rfl, ?qhy16⟩) (by assumption) ?qrest16
  case qhy16 => (intro w hSw; (try dsimp only at hSw); go_simp; try with_reducible rfl)
  try simp only [Act.put, List.getElem_toArray, List.getElem_cons_succ, List.getElem_cons_zero, List.setIfInBounds_toArray, List.set_cons_zero, List.set_cons_succ]
  refine wpAnyH_take (i := 17) (v := ?qv17) rfl (by kernel_rfl) (by kernel_rfl) (by kernel_rfl) (by intro _ _ _ h; exact h) (Or.inl ⟨by rfl, ?qhy17⟩) (by assumption) ?qrest17
  case qhy17 => (intro w hSw; (try dsimp only at hSw); go_simp; try with_reducible rfl)
  try simp only [Act.put, List.getElem_toArray, List.getElem_cons_succ, List.getElem_cons_zero, List.setIfInBounds_toArray, List.set_cons_zero, List.set_cons_succ]
  refine wpAnyH_take (i := 18) (v := ?qv18) rfl (by kernel_rfl) (by kernel_rfl) (by kernel_rfl) (by intro _ _ _ h; exact h) (Or.inl ⟨by rfl, ?qhy18⟩) (by assumption) ?qrest18
  case qhy18 => (intro w hSw; (try dsimp only at hSw); go_simp; try with_reducible rfl)
  try simp only [Act.put, List.getElem_toArray, List.getElem_cons_succ, List.getElem_cons_zero, List.setIfInBounds_toArray, List.set_cons_zero, List.set_cons_succ]
  refine wpAnyH_take (i := 19) (v := ?qv19) rfl (by kernel_rfl) (by kernel_rfl) (by kernel_rfl) (by intro _ _ _ h; exact h) (Or.inl ⟨by rfl, ?qhy19⟩) (by assumption) ?qrest19
  case qhy19 => (intro w hSw; (try dsimp only at hSw); go_simp; try with_reducible rfl)
  try simp only [Act.put, List.getElem_toArray, List.getElem_cons_succ, List.getElem_cons_zero, List.setIfInBounds_toArray, List.set_cons_zero, List.set_cons_succ]
  refine wpAnyH_take (i := 20) (v := ?qv20) rfl (by kernel_rfl) (by kernel_rfl) (by kernel_rfl) (by intro _ _ _ h; exact h) (Or.inl ⟨by rfl, ?qhy20⟩) (by assumption) ?qrest20
  case qhy20 => (intro w hSw; (try dsimp only at hSw); go_simp; try with_reducible rfl)
  try simp only [Act.put, List.getElem_toArray, List.getElem_cons_succ, List.getElem_cons_zero, List.setIfInBounds_toArray, List.set_cons_zero, List.set_cons_succ]
  refine wpAnyH_take (i := 21) (v := ?qv21) rfl (by kernel_rfl) (by kernel_rfl) (by kernel_rfl) (by intro _ _ _ h; exact h) (Or.inl ⟨by rfl, ?qhy21⟩) (by assumption) ?qrest21
  case qhy21 => (intro w hSw; (try dsimp only at hSw); go_simp; try with_reducible rfl)
  try simp only [Act.put, List.getElem_toArray, List.getElem_cons_succ, List.getElem_cons_zero, List.setIfInBounds_toArray, List.set_cons_zero, List.set_cons_succ]
  refine wpAnyH_take (i := 22) (v := ?qv22) rfl (by kernel_rfl) (by kernel_rfl) (by kernel_rfl) (by intro _ _ _ h; exact h) (Or.inl ⟨by rfl, ?qhy22⟩) (by assumption) ?qrest22
  case qhy22 => (intro w hSw; (try dsimp only at hSw); go_simp; try with_reducible rfl)
  try simp only [Act.put, List.getElem_toArray, List.getElem_cons_succ, List.getElem_cons_zero, List.setIfInBounds_toArray, List.set_cons_zero, List.set_cons_succ]
  refine wpAnyH_take (i := 23) (v := ?qv23) rfl (by kernel_rfl) (by kernel_rfl) (by kernel_rfl) (by intro _ _ _ h; exact h) (Or.inl ⟨by rfl, ?qhy23⟩) (by assumption) ?qrest23
  case qhy23 => (intro w hSw; (try dsimp only at hSw); go_simp; try with_reducible rfl)
  try simp only [Act.put, List.getElem_toArray, List.getElem_cons_succ, List.getElem_cons_zero, List.setIfInBounds_toArray, List.set_cons_zero, List.set_cons_succ]
  refine wpAnyH_take (i := 24) (v := ?qv24) rfl (by kernel_rfl) (by kernel_rfl) (by kernel_rfl) (by intro _ _ _ h; exact h) (Or.inl ⟨by rfl, ?qhy24⟩) (by assumption) ?qrest24
  case qhy24 => (intro w hSw; (try dsimp only at hSw); go_simp; try with_reducible rfl)
  try simp only [Act.put, List.getElem_toArray, List.getElem_cons_succ, List.getElem_cons_zero, List.setIfInBounds_toArray, List.set_cons_zero, List.set_cons_succ]
  refine wpAnyH_take (i := 25) (v := ?qv25) rfl (by kernel_rfl) (by kernel_rfl) (by kernel_rfl) (by intro _ _ _ h; exact h) (Or.inl ⟨by rfl, ?qhy25⟩) (by assumption) ?qrest25
  case qhy25 => (intro w hSw; (try dsimp only at hSw); go_simp; try with_reducible rfl)
  try simp only [Act.put, List.getElem_toArray, List.getElem_cons_succ, List.getElem_cons_zero, List.setIfInBounds_toArray, List.set_cons_zero, List.set_cons_succ]
  refine wpAnyH_take (i := 26) (v := ?qv26) rfl (by kernel_rfl) (by kernel_rfl) (by kernel_rfl) (by intro _ _ _ h; exact h) (Or.inl ⟨by rfl, ?qhy26⟩) (by assumption) ?qrest26
  case qhy26 => (intro w hSw; (try dsimp only at hSw); go_simp; try with_reducible rfl)
  try simp only [Act.put, List.getElem_toArray, List.getElem_cons_succ, List.getElem_cons_zero, List.setIfInBounds_toArray, List.set_cons_zero, List.set_cons_succ]
  refine wpAnyH_take (i := 27) (v := ?qv27) rfl (by kernel_rfl) (by kernel_rfl) (by kernel_rfl) (by intro _ _ _ h; exact h) (Or.inl ⟨by rfl, ?qhy27⟩) (by assumption) ?qrest27
  case qhy27 => (intro w hSw; (try dsimp only at hSw); go_simp; try with_reducible rfl)
  try simp only [Act.put, List.getElem_toArray, List.getElem_cons_succ, List.getElem_cons_zero, List.setIfInBounds_toArray, List.set_cons_zero, List.set_cons_succ]
  refine wpAnyH_take (i := 28) (v := ?qv28) rfl (by kernel_rfl) (by kernel_rfl) (by kernel_rfl) (by intro _ _ _ h; exact h) (Or.inl ⟨by rfl, ?qhy28⟩) (by assumption) ?qrest28
  case qhy28 => (intro w hSw; (try dsimp only at hSw); go_simp; try with_reducible rfl)
  try simp only [Act.put, List.getElem_toArray, List.getElem_cons_succ, List.getElem_cons_zero, List.setIfInBounds_toArray, List.set_cons_zero, List.set_cons_succ]
  refine wpAnyH_take (i := 30) (v := ?qv30) rfl (by kernel_rfl) (by kernel_rfl) (by kernel_rfl) (by intro _ _ _ h; exact h) (Or.inl ⟨by rfl, ?qhy30⟩) (by assumption) ?qrest30
  case qhy30 => (intro w hSw; (try dsimp only at hSw); go_simp; try with_reducible rfl)
  try simp only [Act.put, List.getElem_toArray, List.getElem_cons_succ, List.getElem_cons_zero, List.setIfInBounds_toArray, List.set_cons_zero, List.set_cons_succ]
  refine wpAnyH_ready (rs := [29]) (by kernel_rfl) (by simp) ?_
  refine AllReadyH.cons rfl (fun K hK => ?_) AllReadyH.nil
  go_simp
  go_wp2_with (go_at_call 29; refine (prefixCovers a ha n a ha n _).mono ?_; rw [HC.out]; rintro _ w5 ⟨rfl, b5⟩)
  refine hK.out _ _ ?_ (fun hHeld => ?_)
  · try dsimp only
    first | (refine keep33 hg3 b6 ?_; assumption) | (refine keep33 hg3 b5 ?_; assumption) | (refine keep33 hg3 b4 ?_; assumption) | ((repeat' apply And.intro) <;> first | (with_reducible exact Below.drew (Below.refl _ _)) | (with_reducible assumption) | go_keep)
  clear hK K
  refine wpAnyH_ready (rs := [31]) (by kernel_rfl) (by simp) ?_
  refine AllReadyH.cons rfl (fun K hK => ?_) AllReadyH.nil
  go_simp
  go_wp2_with (go_at_call 24; refine (prefixRight a ha n _).mono ?_; rw [HR.out]; rintro _ w6 ⟨rfl, b6⟩)
  refine hK.out _ _ ?_ (fun hHeld => ?_)
  · try dsimp only
    first | (refine keep33 hg3 b6 ?_; assumption) | (refine keep33 hg3 b5 ?_; assumption) | (refine keep33 hg3 b4 ?_; assumption) | ((repeat' apply And.intro) <;> first | (with_reducible exact Below.drew (Below.refl _ _)) | (with_reducible assumption) | go_keep)
  clear hK K
  refine wpAnyH_take (i := 32) (v := ?qv32) rfl (by kernel_rfl) (by kernel_rfl) (by kernel_rfl) (by intro _ _ _ h; exact h) (Or.inl ⟨by rfl, ?qhy32⟩) (by assumption) ?qrest32
  case qhy32 => (intro w hSw; (try dsimp only at hSw); go_simp; try with_reducible rfl)
  try simp only [Act.put, List.getElem_toArray, List.getElem_cons_succ, List.getElem_cons_zero, List.setIfInBounds_toArray, List.set_cons_zero, List.set_cons_succ]
  refine wpAnyH_take (i := 33) (v := ?qv33) rfl (by kernel_rfl) (by kernel_rfl) (by kernel_rfl) (by intro _ _ _ h; exact h) (Or.inl ⟨by rfl, ?qhy33⟩) (by assumption) ?qrest33
  case qhy33 => (intro w hSw; (try dsimp only at hSw); go_simp; try with_reducible rfl)
  try simp only [Act.put, List.getElem_toArray, List.getElem_cons_succ, List.getElem_cons_zero, List.setIfInBounds_toArray, List.set_cons_zero, List.set_cons_succ]
  refine wpAnyH_done (by kernel_rfl) ?_ _
  go_wp2_with fail
  obtain ⟨hs7, _, _, _, _, _, _⟩ := hHeld
  have b06 := btr b03 hs7 b03.size
  have hD6 := hD3.below hs7 hD3.lt
  have hE6 := hE3.below hs7 hE3.lt
  have hF6 := hF3.below hs7 hF3.lt
  clear x0 x1 y0 y1 z0 z1 d0 d1 e0 e1 g0 g1 b0 b1 b2 b3 b4 b5 b6 hD hE hF hD3 hE3 hF3 hgl hg3 t0 t3 hs7
  have x60 := hD6.cell 0
  have x61 := hD6.cell 1
  have y60 := hE6.cell 0
  have y61 := hE6.cell 1
  have z60 := hF6.cell 0
  have z61 := hF6.cell 1
  cases R
  · go_wp2_with fail
    refine (prefixCovers a ha n a ha n _).mono ?_
    rw [HC.out]
    rintro _ w7 ⟨rfl, b7⟩
    have b07 := btr b06 b7 b06.size
    clear x60 x61 y60 y61 z60 z61
    have hD7 := hD6.below b7 hD6.lt
    have x70 := hD7.cell 0
    have x71 := hD7.cell 1
    have hE7 := hE6.below b7 hE6.lt
    have y70 := hE7.cell 0
    have y71 := hE7.cell 1
    have hF7 := hF6.below b7 hF6.lt
    have z70 := hF7.cell 0
    have z71 := hF7.cell 1
    go_wp2_with fail
    refine (prefixCovers a ha n a ha n _).mono ?_
    rw [HC.out]
    rintro _ w8 ⟨rfl, b8⟩
    have b08 := btr b07 b8 b07.size
    clear x70 x71 y70 y71 z70 z71
    have hD8 := hD7.below b8 hD7.lt
    have x80 := hD8.cell 0
    have x81 := hD8.cell 1
    have hE8 := hE7.below b8 hE7.lt
    have y80 := hE8.cell 0
    have y81 := hE8.cell 1
    have hF8 := hF7.below b8 hF7.lt
    have z80 := hF8.cell 0
    have z81 := hF8.cell 1
    go_wp2_with fail
    refine (prefixCovers a ha n a ha n _).mono ?_
    rw [HC.out]
    rintro _ w9 ⟨rfl, b9⟩
    have b09 := btr b08 b9 b08.size
    clear x80 x81 y80 y81 z80 z81
    have hD9 := hD8.below b9 hD8.lt
    have x90 := hD9.cell 0
    have x91 := hD9.cell 1
    have hE9 := hE8.below b9 hE8.lt
    have y90 := hE9.cell 0
    have y91 := hE9.cell 1
    have hF9 := hF8.below b9 hF8.lt
    have z90 := hF9.cell 0
    have z91 := hF9.cell 1
    go_wp2_with fail
    refine (awake02 _ (ht.call b09)).mono ?_
    rintro _ w10 ⟨rfl, b10⟩
    have b010 := btr b09 b10 b09.size
    clear x90 x91 y90 y91 z90 z91
    have hD10 := hD9.below b10 hD9.lt
    have x100 := hD10.cell 0
    have x101 := hD10.cell 1
    have hE10 := hE9.below b10 hE9.lt
    have y100 := hE10.cell 0
    have y101 := hE10.cell 1
    have hF10 := hF9.below b10 hF9.lt
    have z100 := hF10.cell 0
    have z101 := hF10.cell 1
    try go_wp2_with fail
    go_ret
    exact ⟨rfl, b010⟩
  · cases U
    · go_wp2_with fail
      refine (prefixCovers a ha n a ha n _).mono ?_
      rw [HC.out]
      rintro _ w7 ⟨rfl, b7⟩
      have b07 := btr b06 b7 b06.size
      clear x60 x61 y60 y61 z60 z61
      have hD7 := hD6.below b7 hD6.lt
      have x70 := hD7.cell 0
      have x71 := hD7.cell 1
      have hE7 := hE6.below b7 hE6.lt
      have y70 := hE7.cell 0
      have y71 := hE7.cell 1
      have hF7 := hF6.below b7 hF6.lt
      have z70 := hF7.cell 0
      have z71 := hF7.cell 1
      go_wp2_with fail
      refine (prefixCovers a ha n c hc k _).mono ?_
      rw [HU.out]
      rintro _ w8 ⟨rfl, b8⟩
      have b08 := btr b07 b8 b07.size
      clear x70 x71 y70 y71 z70 z71
      have hD8 := hD7.below b8 hD7.lt
      have x80 := hD8.cell 0
      have x81 := hD8.cell 1
      have hE8 := hE7.below b8 hE7.lt
      have y80 := hE8.cell 0
      have y81 := hE8.cell 1
      have hF8 := hF7.below b8 hF7.lt
      have z80 := hF8.cell 0
      have z81 := hF8.cell 1
      go_wp2_with fail
      refine (prefixCovers a ha n a ha n _).mono ?_
      rw [HC.out]
      rintro _ w9 ⟨rfl, b9⟩
      have b09 := btr b08 b9 b08.size
      clear x80 x81 y80 y81 z80 z81
      have hD9 := hD8.below b9 hD8.lt
      have x90 := hD9.cell 0
      have x91 := hD9.cell 1
      have hE9 := hE8.below b9 hE8.lt
      have y90 := hE9.cell 0
      have y91 := hE9.cell 1
      have hF9 := hF8.below b9 hF8.lt
      have z90 := hF9.cell 0
      have z91 := hF9.cell 1
      go_wp2_with fail
      refine (prefixCovers a ha n a ha n _).mono ?_
      rw [HC.out]
      rintro _ w10 ⟨rfl, b10⟩
      have b010 := btr b09 b10 b09.size
      clear x90 x91 y90 y91 z90 z91
      have hD10 := hD9.below b10 hD9.lt
      have x100 := hD10.cell 0
      have x101 := hD10.cell 1
      have hE10 := hE9.below b10 hE9.lt
      have y100 := hE10.cell 0
      have y101 := hE10.cell 1
      have hF10 := hF9.below b10 hF9.lt
      have z100 := hF10.cell 0
      have z101 := hF10.cell 1
      go_wp2_with fail
      refine (prefixCovers a ha n a ha n _).mono ?_
      rw [HC.out]
      rintro _ w11 ⟨rfl, b11⟩
      have b011 := btr b010 b11 b010.size
      clear x100 x101 y100 y101 z100 z101
      have hD11 := hD10.below b11 hD10.lt
      have x110 := hD11.cell 0
      have x111 := hD11.cell 1
      have hE11 := hE10.below b11 hE10.lt
      have y110 := hE11.cell 0
      have y111 := hE11.cell 1
      have hF11 := hF10.below b11 hF10.lt
      have z110 := hF11.cell 0
      have z111 := hF11.cell 1
      go_wp2_with fail
      refine (awake02 _ (ht.call b011)).mono ?_
      rintro _ w12 ⟨rfl, b12⟩
      have b012 := btr b011 b12 b011.size
      clear x110 x111 y110 y111 z110 z111
      have hD12 := hD11.below b12 hD11.lt
      have x120 := hD12.cell 0
      have x121 := hD12.cell 1
      have hE12 := hE11.below b12 hE11.lt
      have y120 := hE12.cell 0
      have y121 := hE12.cell 1
      have hF12 := hF11.below b12 hF11.lt
      have z120 := hF12.cell 0
      have z121 := hF12.cell 1
      try go_wp2_with fail
      go_ret
      exact ⟨rfl, b012⟩
    · go_wp2_with fail
      refine (prefixCovers a ha n a ha n _).mono ?_
      rw [HC.out]
      rintro _ w7 ⟨rfl, b7⟩
      have b07 := btr b06 b7 b06.size
      clear x60 x61 y60 y61 z60 z61
      have hD7 := hD6.below b7 hD6.lt
      have x70 := hD7.cell 0
      have x71 := hD7.cell 1
      have hE7 := hE6.below b7 hE6.lt
      have y70 := hE7.cell 0
      have y71 := hE7.cell 1
      have hF7 := hF6.below b7 hF6.lt
      have z70 := hF7.cell 0
      have z71 := hF7.cell 1
      go_wp2_with fail
      refine (prefixCovers a ha n c hc k _).mono ?_
      rw [HU.out]
      rintro _ w8 ⟨rfl, b8⟩
      have b08 := btr b07 b8 b07.size
      clear x70 x71 y70 y71 z70 z71
      have hD8 := hD7.below b8 hD7.lt
      have x80 := hD8.cell 0
      have x81 := hD8.cell 1
      have hE8 := hE7.below b8 hE7.lt
      have y80 := hE8.cell 0
      have y81 := hE8.cell 1
      have hF8 := hF7.below b8 hF7.lt
      have z80 := hF8.cell 0
      have z81 := hF8.cell 1
      go_wp2_with fail
      refine (prefixCovers a ha n c hc k _).mono ?_
      rw [HU.out]
      rintro _ w9 ⟨rfl, b9⟩
      have b09 := btr b08 b9 b08.size
      clear x80 x81 y80 y81 z80 z81
      have hD9 := hD8.below b9 hD8.lt
      have x90 := hD9.cell 0
      have x91 := hD9.cell 1
      have hE9 := hE8.below b9 hE8.lt
      have y90 := hE9.cell 0
      have y91 := hE9.cell 1
      have hF9 := hF8.below b9 hF8.lt
      have z90 := hF9.cell 0
      have z91 := hF9.cell 1
      go_wp2_with fail
      refine (prefixCovers a ha n a ha n _).mono ?_
      rw [HC.out]
      rintro _ w10 ⟨rfl, b10⟩
      have b010 := btr b09 b10 b09.size
      clear x90 x91 y90 y91 z90 z91
      have hD10 := hD9.below b10 hD9.lt
      have x100 := hD10.cell 0
      have x101 := hD10.cell 1
      have hE10 := hE9.below b10 hE9.lt
      have y100 := hE10.cell 0
      have y101 := hE10.cell 1
      have hF10 := hF9.below b10 hF9.lt
      have z100 := hF10.cell 0
      have z101 := hF10.cell 1
      go_wp2_with fail
      refine (prefixCovers a ha n a ha n _).mono ?_
      rw [HC.out]
      rintro _ w11 ⟨rfl, b11⟩
      have b011 := btr b010 b11 b010.size
      clear x100 x101 y100 y101 z100 z101
      have hD11 := hD10.below b11 hD10.lt
      have x110 := hD11.cell 0
      have x111 := hD11.cell 1
      have hE11 := hE10.below b11 hE10.lt
      have y110 := hE11.cell 0
      have y111 := hE11.cell 1
      have hF11 := hF10.below b11 hF10.lt
      have z110 := hF11.cell 0
      have z111 := hF11.cell 1
      go_wp2_with fail
      refine (prefixCovers a ha n a ha n _).mono ?_
      rw [HC.out]
      rintro _ w12 ⟨rfl, b12⟩
      have b012 := btr b011 b12 b011.size
      clear x110 x111 y110 y111 z110 z111
      have hD12 := hD11.below b12 hD11.lt
      have x120 := hD12.cell 0
      have x121 := hD12.cell 1
      have hE12 := hE11.below b12 hE11.lt
      have y120 := hE12.cell 0
      have y121 := hE12.cell 1
      have hF12 := hF11.below b12 hF11.lt
      have z120 := hF12.cell 0
      have z121 := hF12.cell 1
      go_wp2_with fail
      refine (awake02 _ (ht.call b012)).mono ?_
      rintro _ w13 ⟨rfl, b13⟩
      have b013 := btr b012 b13 b012.size
      clear x120 x121 y120 y121 z120 z121
      have hD13 := hD12.below b13 hD12.lt
      have x130 := hD13.cell 0
      have x131 := hD13.cell 1
      have hE13 := hE12.below b13 hE12.lt
      have y130 := hE13.cell 0
      have y131 := hE13.cell 1
      have hF13 := hF12.below b13 hF12.lt
      have z130 := hF13.cell 0
      have z131 := hF13.cell 1
      try go_wp2_with fail
      go_ret
      exact ⟨rfl, b013⟩
theorem lawPrefixOrder (w : World) (a : Nat) (n : Int) (ha : a < 4294967296) (_ : (Lit.int .i64 n).wf = true) (b : Nat) (m : Int) (hb : b < 4294967296) (_ : (Lit.int .i64 m).wf = true) (c : Nat) (k : Int) (hc : c < 4294967296) (_ : (Lit.int .i64 k).wf = true) (ht : DigTab w) :
    Calls Tryd.prog 5 #[.agg #[.int .u32 a, .int .i64 n], .agg #[.int .u32 b, .int .i64 m], .agg #[.int .u32 c, .int .i64 k]] w fun en w' => en = .returned (.bool true) ∧ Below w.heap.size w w' := by
  rcases cmp_tri a n b m with ⟨h1, h2, h3⟩ | ⟨h1, h2, h3⟩ | ⟨h1, _, rfl, rfl⟩
  · exact prefixOrder_gt w a n ha b hb m c k hc ht h1 h2 h3 trivial
  · rcases Int.lt_or_le 0 (pCmp b m c k) with h | h
    · exact prefixOrder_ltg w a n ha b hb m c k hc ht h1 h2 h3 h
    · exact prefixOrder_ltl w a n ha b hb m c k hc ht h1 h2 h3 h
  · rcases Int.lt_or_le 0 (pCmp a n c k) with h | h
    · exact prefixOrder_eqg w a n ha c k hc ht h1 h
    · exact prefixOrder_eql w a n ha c k hc ht h1 h
end Go.Proofs.YtnhkpnohadbcdaaDoor
