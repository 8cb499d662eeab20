/- The statement OpenMine: its walk. No conditions but the statement's own. -/
import Derived.Test.YtnhkpnohadbcdaaProg
import Derived.WalkKit
import Derived.WalkSpells
import Derived.WalkLawsBesides
import Derived.Outline
import Derived.Deep.QuietTactic
import Derived.BigQuiet
import Derived.Handy
import Derived.Lib.Hide
import Derived.RegionTactic
import Derived.Test.YtnhkpnohadbcdaaOpnL
namespace Go.Proofs.Ytnhkpnohadbcdaa
open Go.RowKit
set_option linter.unusedSimpArgs false
set_option linter.unusedVariables false
theorem fault_code06 (a b : Int) (s : Value) (w : World) : (Instr.field 36 (.agg #[.int .i64 a, .int .i64 b, s]) 0).run Try.prog w = .ok (.int .i64 a) w := by kernel_rfl
theorem wide_mine {a : Nat} (ha : a < 4294967296) (x : Int) : asO x [(65, b32 (a : Int))] = a := by
  have h : wideO [(65, b32 (a : Int))] = (numL (b32 (a : Int)), true) := wide_some (j := 0) (c := (65, b32 (a : Int))) rfl rfl (fun i m h => by omega)
  unfold asO
  rw [h]
  exact numL_b32 (by omega) (by omega)
theorem mineH_range (h : Int) : 0 ≤ mineH h ∧ mineH h ≤ 65535 := by unfold mineH; split <;> (try split) <;> omega
theorem holdAny (x y H : Int) (hH : Hid (holdO x y = H)) (w : World) : Calls Try.prog 24 #[.int .i64 x, .int .i64 y] w fun en w' => en = .returned (.int .i64 H) ∧ Below w.heap.size w w' :=
  (openHold x y w).mono fun _ _ ⟨h1, h2⟩ => ⟨by rw [h1, hH.out], by rw [h2]; exact Below.refl _ _⟩
theorem holdAnyR (x y H : Int) (hH : Hid (holdO x y = H)) (w : World) : Calls Try.prog 25 #[.int .i64 x, .int .i64 y] w fun en w' => en = .returned (.int .i64 H) ∧ Below w.heap.size w w' :=
  (refHold06 x y w).mono fun _ _ ⟨h1, h2⟩ => ⟨by rw [h1, hH.out], by rw [h2]; exact Below.refl _ _⟩
theorem holdAnyS (x y H : Int) (hH : Hid (holdO x y = H)) (w : World) : Calls Try.prog 24 #[.int .i64 y, .int .i64 x] w fun en w' => en = .returned (.int .i64 H) ∧ Below w.heap.size w w' :=
  (openHold y x w).mono fun _ _ ⟨h1, h2⟩ => ⟨by rw [h1, holdO_comm, hH.out], by rw [h2]; exact Below.refl _ _⟩
theorem mineAny (a i x : Nat) (ho A0 H0 : Int) (ha : a < 4294967296) (h1 : Hid (mineA a = A0)) (h2 : Hid (mineH ho = H0)) (w : World) :
    Calls Try.prog 22 #[.agg #[.int .u32 a, .int .u32 i, .int .u32 x, .int .i64 ho]] w fun e w' => ∃ (A : Option Addr) (c : Nat), e = .returned (.agg #[.int .i64 4, .int .i64 A0, .int .i64 H0, .int .u32 i, .slice A 1 c]) ∧ DL rCap 2 w' (Lo w') A 1 [(65, b32 a)] ∧ Below w.heap.size w w' :=
  (openMine a i x ho w ha).mono fun _ _ ⟨A, c, e1, e2, _, e4⟩ => ⟨A, c, by rw [e1, h1.out, h2.out], e2, e4⟩
theorem mineAnyR (a i x : Nat) (ho A0 H0 : Int) (ha : a < 4294967296) (h1 : Hid (mineA a = A0)) (h2 : Hid (mineH ho = H0)) (w : World) :
    Calls Try.prog 23 #[.agg #[.int .u32 a, .int .u32 i, .int .u32 x, .int .i64 ho]] w fun e w' => ∃ (A : Option Addr) (c : Nat), e = .returned (.agg #[.int .i64 4, .int .i64 A0, .int .i64 H0, .int .u32 i, .slice A 1 c]) ∧ DL rCap 2 w' (Lo w') A 1 [(65, b32 a)] ∧ Below w.heap.size w w' :=
  (refMine06 a i x ho w ha).mono fun _ _ ⟨A, c, e1, e2, _, e4⟩ => ⟨A, c, by rw [e1, h1.out, h2.out], e2, e4⟩
theorem sameAny (v a h : Int) (i : Nat) (A : Option Addr) (n c : Nat) (l : List Cap) (A' : Option Addr) (n' c' : Nat) (w : World) (hd : DL rCap 2 w (Lo w) A n l) (hd' : DL rCap 2 w (Lo w) A' n' l) (hn : n ≤ 100000) :
    Calls Try.prog 13 #[.agg #[.int .i64 v, .int .i64 a, .int .i64 h, .int .u32 i, .slice A n c], .agg #[.int .i64 v, .int .i64 a, .int .i64 h, .int .u32 i, .slice A' n' c']] w fun e w' => e = .returned (.bool true) ∧ Below w.heap.size w w' :=
  (refSame06 v a h i A n c l v a h i A' n' c' l w hd hd' hn).mono fun _ _ ⟨r, h1, h2, h3⟩ => ⟨by rw [h1, h2.2 rfl], h3⟩
theorem checkMine (A0 H0 : Int) (i : Nat) (A : Option Addr) (n c : Nat) (a : Nat) (q k : Int) (w : World) (hd : DL rCap 2 w (Lo w) A n [(65, b32 (a : Int))]) (hn : n ≤ 100000) (ha : a < 4294967296)
    (hk : Hid ((if ((i : Int) = 0 ∨ (i : Int) = q) ∨ (H0 = 1 ∨ H0 = 2) then 2 else 0) = k)) :
    Calls Try.prog 20 #[.agg #[.int .i64 4, .int .i64 A0, .int .i64 H0, .int .u32 i, .slice A n c], .int .u32 a, .int .u32 q] w fun e w' => ∃ (s : Int) (A : Option Addr) (n c : Nat), e = .returned (.agg #[.int .i64 k, .int .i64 s, .slice A n c]) ∧ Below w.heap.size w w' :=
  (openCheck 4 A0 H0 i A n c _ a q w hd hn).mono fun _ _ ⟨A, n, c, h1, _, h3⟩ => by
    have e : (if (checkO 4 A0 H0 i [(65, b32 (a : Int))] a q).1 = 0 then (0 : Int) else 2) = k := by
      rw [← hk.out]
      unfold checkO
      rw [if_neg (show ¬ (4 : Int) ≠ 4 by simp), wide_mine ha, if_neg (show ¬ ((a : Int) ≠ (a : Int)) by simp)]
      by_cases e1 : (i : Int) = 0 ∨ (i : Int) = q
      · rw [if_pos e1, if_pos (Or.inl e1)]; rfl
      · rw [if_neg e1]
        by_cases e2 : H0 = 1 ∨ H0 = 2
        · rw [if_pos e2, if_pos (Or.inr e2)]; rfl
        · rw [if_neg e2, if_neg (show ¬ (((i : Int) = 0 ∨ (i : Int) = q) ∨ (H0 = 1 ∨ H0 = 2)) from fun h => h.elim e1 e2)]; rfl
    exact ⟨((checkO 4 A0 H0 i [(65, b32 (a : Int))] a q).1 : Nat), A, n, c, by rw [h1, e], h3⟩
set_option maxHeartbeats 8000000 in
set_option maxRecDepth 100000 in
theorem lawOpenMine (w : World) (a i x : Nat) (ho : Int) (wa : a < 4294967296) (wi : i < 4294967296) (wh : (Lit.int .i64 ho).wf = true) (q : Int) (wq : (Lit.int .u32 q).wf = true) (s t : Int) :
    Calls Try.prog 6 #[.agg #[.int .u32 a, .int .u32 i, .int .u32 x, .int .i64 ho], .int .u32 q, .agg #[.int .i64 s, .int .i64 t]] w fun en w' => en = .returned (.bool true) ∧ Below w.heap.size w w' := by
  obtain ⟨V, hV, hX, hT, b0⟩ := boxes2 w #[.int .u32 a, .int .u32 i, .int .u32 x, .int .i64 ho] #[.int .i64 s, .int .i64 t] 48 49
  have HV := Lib.hid hV
  clear hV
  obtain ⟨A0, hA0⟩ : ∃ A0, mineA a = A0 := ⟨_, rfl⟩
  obtain ⟨H0, hH0⟩ : ∃ H0, mineH ho = H0 := ⟨_, rfl⟩
  obtain ⟨J, hJ⟩ : ∃ J, holdO s t = J := ⟨_, rfl⟩
  have HA := Lib.hid hA0
  have HH := Lib.hid hH0
  have HJ := Lib.hid hJ
  clear hA0 hH0 hJ
  have hXl := hX.lt
  have hTl := hT.lt
  go_enter Try.func6, Try.ntmps6
  go_upto_region 1 with fail
  rw [HV.out]
  have c_hX0 := hX.cell 0
  have c_hX1 := hX.cell 1
  have c_hX2 := hX.cell 2
  have c_hX3 := hX.cell 3
  have c_hT0 := hT.cell 0
  have c_hT1 := hT.cell 1
  go_wp2_with fail
  go_region
  have b0d := b0.drew
  have hXd := hX.drew
  have hTd := hT.drew
  clear c_hT0 c_hT1
  clear c_hX0 c_hX1 c_hX2 c_hX3
  have c_hX0 := hXd.cell 0
  have c_hX1 := hXd.cell 1
  have c_hX2 := hXd.cell 2
  have c_hX3 := hXd.cell 3
  go_wp2_with fail
  refine (mineAny a i x ho A0 H0 wa HA HH _).mono ?_
  rintro _ w2 ⟨A2, c2, rfl, hd2, b2⟩
  clear c_hX0 c_hX1 c_hX2 c_hX3
  have b02 := btr b0d b2 b0d.size
  have hX_2 := hXd.below b2 hXd.lt
  have c_hX0 := hX_2.cell 0
  have c_hX1 := hX_2.cell 1
  have c_hX2 := hX_2.cell 2
  have c_hX3 := hX_2.cell 3
  go_upto_region 3 with fail
  obtain ⟨w3, hw3, hO, b3⟩ := box1c w2 #[.int .i64 4, .int .i64 A0, .int .i64 H0, .int .u32 i, .slice A2 1 c2] 25
  rw [hw3]
  clear hw3
  clear c_hX0 c_hX1 c_hX2 c_hX3
  have b03 := btr b02 b3 b02.size
  have hX_3 := hX_2.below b3 hX_2.lt
  clear hX_2
  have c_hX0 := hX_3.cell 0
  have c_hX1 := hX_3.cell 1
  have c_hX2 := hX_3.cell 2
  have c_hX3 := hX_3.cell 3
  have hd3 := hd2.call rCap_ok b3
  have c_hO0 := hO.cell 0
  have c_hO1 := hO.cell 1
  have c_hO2 := hO.cell 2
  have c_hO3 := hO.cell 3
  have c_hO4 := hO.cell 4
  clear c_hX0 c_hX1 c_hX2 c_hX3
  have c_hX0 := hX_3.cell 0
  have c_hX1 := hX_3.cell 1
  have c_hX2 := hX_3.cell 2
  have c_hX3 := hX_3.cell 3
  have lt_hX := hX_3.lt
  have lt_hO := hO.lt
  refine wp_region_held_drew (S := (fun w' => Below w3.heap.size w3 w' ∧ ∀ b o, b < w3.heap.size → w'.cell? ⟨b, o, none⟩ = w3.cell? ⟨b, o, none⟩)) (by kernel_rfl) ?_ (fun hHeld => ?_)
  · (first | exact heldB_keep b9 hHeld | exact heldB_keep b8 hHeld | exact heldB_keep b7 hHeld | exact heldB_keep b6 hHeld | exact heldB_keep b5 hHeld | exact heldB_keep b4 hHeld | exact heldB_refl _)
  refine wpAnyH_take (i := 0) (v := ?q1v0) rfl (by kernel_rfl) (by kernel_rfl) (by kernel_rfl) (by intro _ _ _ h; exact h) (Or.inl ⟨by rfl, ?q1hy0⟩) (by assumption) ?q1rest0
  case q1hy0 => (intro w hSw; (try dsimp only at hSw); go_simp; try with_reducible rfl)
  try simp only [Act.put, List.getElem_toArray, List.getElem_cons_succ, List.getElem_cons_zero, List.setIfInBounds_toArray, List.set_cons_zero, List.set_cons_succ]
  refine wpAnyH_take (i := 1) (v := ?q1v1) rfl (by kernel_rfl) (by kernel_rfl) (by kernel_rfl) (by intro _ _ _ h; exact h) (Or.inl ⟨by rfl, ?q1hy1⟩) (by assumption) ?q1rest1
  case q1hy1 => (intro w hSw; (try dsimp only at hSw); go_simp; try with_reducible rfl)
  try simp only [Act.put, List.getElem_toArray, List.getElem_cons_succ, List.getElem_cons_zero, List.setIfInBounds_toArray, List.set_cons_zero, List.set_cons_succ]
  refine wpAnyH_ready (rs := [2]) (by kernel_rfl) (by simp) ?_
  refine AllReadyH.cons rfl (fun K hK => ?_) AllReadyH.nil
  go_simp
  go_wp2_with (go_at_call 23; refine (mineAnyR a i x ho A0 H0 wa HA HH _).mono ?_; rintro _ w4 ⟨A4, c4, rfl, hd4, b4⟩)
  refine hK.out _ _ ?_ (fun hHeld => ?_)
  · try dsimp only
    (first | exact heldB_keep b9 hHeld | exact heldB_keep b8 hHeld | exact heldB_keep b7 hHeld | exact heldB_keep b6 hHeld | exact heldB_keep b5 hHeld | exact heldB_keep b4 hHeld | exact heldB_refl _)
  clear hK K
  refine wpAnyH_ready (rs := [3]) (by kernel_rfl) (by simp) ?_
  refine AllReadyH.cons rfl (fun K hK => ?_) AllReadyH.nil
  go_simp
  go_wp2_with (go_at_call 13; refine (sameAny 4 A0 H0 i A2 1 c2 _ A4 1 c4 _ (hd3.call rCap_ok hHeld.1) hd4 (by omega)).mono ?_; rintro _ w5 ⟨rfl, b5⟩)
  refine hK.out _ _ ?_ (fun hHeld => ?_)
  · try dsimp only
    (first | exact heldB_keep b9 hHeld | exact heldB_keep b8 hHeld | exact heldB_keep b7 hHeld | exact heldB_keep b6 hHeld | exact heldB_keep b5 hHeld | exact heldB_keep b4 hHeld | exact heldB_refl _)
  clear hK K
  refine wpAnyH_take (i := 4) (v := ?q1v4) rfl (by kernel_rfl) (by kernel_rfl) (by kernel_rfl) (by intro _ _ _ h; exact h) (Or.inl ⟨by rfl, ?q1hy4⟩) (by assumption) ?q1rest4
  case q1hy4 => (intro w hSw; (try dsimp only at hSw); go_simp; try with_reducible rfl)
  try simp only [Act.put, List.getElem_toArray, List.getElem_cons_succ, List.getElem_cons_zero, List.setIfInBounds_toArray, List.set_cons_zero, List.set_cons_succ]
  refine wpAnyH_take (i := 5) (v := ?q1v5) rfl (by kernel_rfl) (by kernel_rfl) (by kernel_rfl) (by intro _ _ _ h; exact h) (Or.inl ⟨by rfl, ?q1hy5⟩) (by assumption) ?q1rest5
  case q1hy5 => (intro w hSw; (try dsimp only at hSw); go_simp; try with_reducible rfl)
  try simp only [Act.put, List.getElem_toArray, List.getElem_cons_succ, List.getElem_cons_zero, List.setIfInBounds_toArray, List.set_cons_zero, List.set_cons_succ]
  refine wpAnyH_take (i := 6) (v := ?q1v6) rfl (by kernel_rfl) (by kernel_rfl) (by kernel_rfl) (by intro _ _ _ h; exact h) (Or.inl ⟨by rfl, ?q1hy6⟩) (by assumption) ?q1rest6
  case q1hy6 => (intro w hSw; (try dsimp only at hSw); go_simp; try with_reducible rfl)
  try simp only [Act.put, List.getElem_toArray, List.getElem_cons_succ, List.getElem_cons_zero, List.setIfInBounds_toArray, List.set_cons_zero, List.set_cons_succ]
  refine wpAnyH_take (i := 7) (v := ?q1v7) rfl (by kernel_rfl) (by kernel_rfl) (by kernel_rfl) (by intro _ _ _ h; exact h) (Or.inl ⟨by rfl, ?q1hy7⟩) (by assumption) ?q1rest7
  case q1hy7 => (intro w hSw; (try dsimp only at hSw); go_simp; try with_reducible rfl)
  try simp only [Act.put, List.getElem_toArray, List.getElem_cons_succ, List.getElem_cons_zero, List.setIfInBounds_toArray, List.set_cons_zero, List.set_cons_succ]
  refine wpAnyH_take (i := 9) (v := ?q1v9) rfl (by kernel_rfl) (by kernel_rfl) (by kernel_rfl) (by intro _ _ _ h; exact h) (Or.inl ⟨by rfl, ?q1hy9⟩) (by assumption) ?q1rest9
  case q1hy9 => (intro w hSw; (try dsimp only at hSw); go_simp; try with_reducible rfl)
  try simp only [Act.put, List.getElem_toArray, List.getElem_cons_succ, List.getElem_cons_zero, List.setIfInBounds_toArray, List.set_cons_zero, List.set_cons_succ]
  refine wpAnyH_take (i := 10) (v := ?q1v10) rfl (by kernel_rfl) (by kernel_rfl) (by kernel_rfl) (by intro _ _ _ h; exact h) (Or.inl ⟨by rfl, ?q1hy10⟩) (by assumption) ?q1rest10
  case q1hy10 => (intro w hSw; (try dsimp only at hSw); go_simp; try with_reducible rfl)
  try simp only [Act.put, List.getElem_toArray, List.getElem_cons_succ, List.getElem_cons_zero, List.setIfInBounds_toArray, List.set_cons_zero, List.set_cons_succ]
  refine wpAnyH_ready (rs := [8]) (by kernel_rfl) (by simp) ?_
  refine AllReadyH.cons rfl (fun K hK => ?_) AllReadyH.nil
  go_simp
  go_wp2_with (go_at_call 24; refine (holdAny s t J HJ _).mono ?_; rintro _ w6 ⟨rfl, b6⟩)
  refine hK.out _ _ ?_ (fun hHeld => ?_)
  · try dsimp only
    (first | exact heldB_keep b9 hHeld | exact heldB_keep b8 hHeld | exact heldB_keep b7 hHeld | exact heldB_keep b6 hHeld | exact heldB_keep b5 hHeld | exact heldB_keep b4 hHeld | exact heldB_refl _)
  clear hK K
  refine wpAnyH_ready (rs := [11]) (by kernel_rfl) (by simp) ?_
  refine AllReadyH.cons rfl (fun K hK => ?_) AllReadyH.nil
  go_simp
  go_wp2_with (go_at_call 25; refine (holdAnyR s t J HJ _).mono ?_; rintro _ w7 ⟨rfl, b7⟩)
  refine hK.out _ _ ?_ (fun hHeld => ?_)
  · try dsimp only
    (first | exact heldB_keep b9 hHeld | exact heldB_keep b8 hHeld | exact heldB_keep b7 hHeld | exact heldB_keep b6 hHeld | exact heldB_keep b5 hHeld | exact heldB_keep b4 hHeld | exact heldB_refl _)
  clear hK K
  refine wpAnyH_take (i := 12) (v := ?q1v12) rfl (by kernel_rfl) (by kernel_rfl) (by kernel_rfl) (by intro _ _ _ h; exact h) (Or.inl ⟨by rfl, ?q1hy12⟩) (by assumption) ?q1rest12
  case q1hy12 => (intro w hSw; (try dsimp only at hSw); go_simp; try with_reducible rfl)
  try simp only [Act.put, List.getElem_toArray, List.getElem_cons_succ, List.getElem_cons_zero, List.setIfInBounds_toArray, List.set_cons_zero, List.set_cons_succ]
  refine wpAnyH_take (i := 13) (v := ?q1v13) rfl (by kernel_rfl) (by kernel_rfl) (by kernel_rfl) (by intro _ _ _ h; exact h) (Or.inl ⟨by rfl, ?q1hy13⟩) (by assumption) ?q1rest13
  case q1hy13 => (intro w hSw; (try dsimp only at hSw); go_simp; try with_reducible rfl)
  try simp only [Act.put, List.getElem_toArray, List.getElem_cons_succ, List.getElem_cons_zero, List.setIfInBounds_toArray, List.set_cons_zero, List.set_cons_succ]
  refine wpAnyH_take (i := 14) (v := ?q1v14) rfl (by kernel_rfl) (by kernel_rfl) (by kernel_rfl) (by intro _ _ _ h; exact h) (Or.inl ⟨by rfl, ?q1hy14⟩) (by assumption) ?q1rest14
  case q1hy14 => (intro w hSw; (try dsimp only at hSw); go_simp; try with_reducible rfl)
  try simp only [Act.put, List.getElem_toArray, List.getElem_cons_succ, List.getElem_cons_zero, List.setIfInBounds_toArray, List.set_cons_zero, List.set_cons_succ]
  refine wpAnyH_take (i := 15) (v := ?q1v15) rfl (by kernel_rfl) (by kernel_rfl) (by kernel_rfl) (by intro _ _ _ h; exact h) (Or.inl ⟨by rfl, ?q1hy15⟩) (by assumption) ?q1rest15
  case q1hy15 => (intro w hSw; (try dsimp only at hSw); go_simp; try with_reducible rfl)
  try simp only [Act.put, List.getElem_toArray, List.getElem_cons_succ, List.getElem_cons_zero, List.setIfInBounds_toArray, List.set_cons_zero, List.set_cons_succ]
  refine wpAnyH_take (i := 16) (v := ?q1v16) rfl (by kernel_rfl) (by kernel_rfl) (by kernel_rfl) (by intro _ _ _ h; exact h) (Or.inl ⟨by rfl, ?q1hy16⟩) (by assumption) ?q1rest16
  case q1hy16 => (intro w hSw; (try dsimp only at hSw); go_simp; try with_reducible rfl)
  try simp only [Act.put, List.getElem_toArray, List.getElem_cons_succ, List.getElem_cons_zero, List.setIfInBounds_toArray, List.set_cons_zero, List.set_cons_succ]
  refine wpAnyH_take (i := 18) (v := ?q1v18) rfl (by kernel_rfl) (by kernel_rfl) (by kernel_rfl) (by intro _ _ _ h; exact h) (Or.inl ⟨by rfl, ?q1hy18⟩) (by assumption) ?q1rest18
  case q1hy18 => (intro w hSw; (try dsimp only at hSw); go_simp; try with_reducible rfl)
  try simp only [Act.put, List.getElem_toArray, List.getElem_cons_succ, List.getElem_cons_zero, List.setIfInBounds_toArray, List.set_cons_zero, List.set_cons_succ]
  refine wpAnyH_take (i := 19) (v := ?q1v19) rfl (by kernel_rfl) (by kernel_rfl) (by kernel_rfl) (by intro _ _ _ h; exact h) (Or.inl ⟨by rfl, ?q1hy19⟩) (by assumption) ?q1rest19
  case q1hy19 => (intro w hSw; (try dsimp only at hSw); go_simp; try with_reducible rfl)
  try simp only [Act.put, List.getElem_toArray, List.getElem_cons_succ, List.getElem_cons_zero, List.setIfInBounds_toArray, List.set_cons_zero, List.set_cons_succ]
  refine wpAnyH_ready (rs := [17]) (by kernel_rfl) (by simp) ?_
  refine AllReadyH.cons rfl (fun K hK => ?_) AllReadyH.nil
  go_simp
  go_wp2_with (go_at_call 24; refine (holdAny s t J HJ _).mono ?_; rintro _ w8 ⟨rfl, b8⟩)
  refine hK.out _ _ ?_ (fun hHeld => ?_)
  · try dsimp only
    (first | exact heldB_keep b9 hHeld | exact heldB_keep b8 hHeld | exact heldB_keep b7 hHeld | exact heldB_keep b6 hHeld | exact heldB_keep b5 hHeld | exact heldB_keep b4 hHeld | exact heldB_refl _)
  clear hK K
  refine wpAnyH_ready (rs := [20]) (by kernel_rfl) (by simp) ?_
  refine AllReadyH.cons rfl (fun K hK => ?_) AllReadyH.nil
  go_simp
  go_wp2_with (go_at_call 24; refine (holdAnyS s t J HJ _).mono ?_; rintro _ w9 ⟨rfl, b9⟩)
  refine hK.out _ _ ?_ (fun hHeld => ?_)
  · try dsimp only
    (first | exact heldB_keep b9 hHeld | exact heldB_keep b8 hHeld | exact heldB_keep b7 hHeld | exact heldB_keep b6 hHeld | exact heldB_keep b5 hHeld | exact heldB_keep b4 hHeld | exact heldB_refl _)
  clear hK K
  refine wpAnyH_take (i := 21) (v := ?q1v21) rfl (by kernel_rfl) (by kernel_rfl) (by kernel_rfl) (by intro _ _ _ h; exact h) (Or.inl ⟨by rfl, ?q1hy21⟩) (by assumption) ?q1rest21
  case q1hy21 => (intro w hSw; (try dsimp only at hSw); go_simp; try with_reducible rfl)
  try simp only [Act.put, List.getElem_toArray, List.getElem_cons_succ, List.getElem_cons_zero, List.setIfInBounds_toArray, List.set_cons_zero, List.set_cons_succ]
  refine wpAnyH_take (i := 22) (v := ?q1v22) rfl (by kernel_rfl) (by kernel_rfl) (by kernel_rfl) (by intro _ _ _ h; exact h) (Or.inl ⟨by rfl, ?q1hy22⟩) (by assumption) ?q1rest22
  case q1hy22 => (intro w hSw; (try dsimp only at hSw); go_simp; try with_reducible rfl)
  try simp only [Act.put, List.getElem_toArray, List.getElem_cons_succ, List.getElem_cons_zero, List.setIfInBounds_toArray, List.set_cons_zero, List.set_cons_succ]
  refine wpAnyH_done (by kernel_rfl) ?_ _
  clear lt_hX lt_hO
  have bh9 := hHeld.1
  clear hHeld
  clear c_hX0 c_hX1 c_hX2 c_hX3 c_hO0 c_hO1 c_hO2 c_hO3 c_hO4
  have b0h9 := btr b03 bh9 b03.size
  have hX_h9 := hX_3.below bh9 hX_3.lt
  clear hX_3
  have hO_h9 := hO.below bh9 hO.lt
  have c_hX0 := hX_h9.cell 0
  have c_hX1 := hX_h9.cell 1
  have c_hX2 := hX_h9.cell 2
  have c_hX3 := hX_h9.cell 3
  have c_hO0 := hO_h9.cell 0
  have c_hO1 := hO_h9.cell 1
  have c_hO2 := hO_h9.cell 2
  have c_hO3 := hO_h9.cell 3
  have c_hO4 := hO_h9.cell 4
  have hd9 := hd3.call rCap_ok bh9
  by_cases g1 : (i : Int) = 0
  · have t1 : ((i : Int) == 0) = true := by simpa using g1
    have HK := Lib.hid (show (if ((i : Int) = 0 ∨ (i : Int) = q) ∨ (H0 = 1 ∨ H0 = 2) then (2 : Int) else 0) = 2 from if_pos (.inl (.inl g1)))
    clear g1
    go_wp2_with fail
    refine (checkMine A0 H0 i A2 1 c2 a q 2 _ hd9 (by omega) wa HK).mono ?_
    rintro _ w10 ⟨ks, A10, n10, c10, rfl, b10⟩
    clear c_hX0 c_hX1 c_hX2 c_hX3 c_hO0 c_hO1 c_hO2 c_hO3 c_hO4
    have b010 := btr b0h9 b10 b0h9.size
    have hX_10 := hX_h9.below b10 hX_h9.lt
    clear hX_h9
    have hO_10 := hO_h9.below b10 hO_h9.lt
    clear hO_h9
    have c_hX0 := hX_10.cell 0
    have c_hX1 := hX_10.cell 1
    have c_hX2 := hX_10.cell 2
    have c_hX3 := hX_10.cell 3
    have c_hO0 := hO_10.cell 0
    have c_hO1 := hO_10.cell 1
    have c_hO2 := hO_10.cell 2
    have c_hO3 := hO_10.cell 3
    have c_hO4 := hO_10.cell 4
    have hfc := fault_code06 2 ks (.slice A10 n10 c10)
    go_wp2_with fail
    refine (awake06 _).mono ?_
    rintro _ w11 ⟨rfl, b11⟩
    clear c_hX0 c_hX1 c_hX2 c_hX3 c_hO0 c_hO1 c_hO2 c_hO3 c_hO4
    have b011 := btr b010 b11 b010.size
    have hX_11 := hX_10.below b11 hX_10.lt
    clear hX_10
    have hO_11 := hO_10.below b11 hO_10.lt
    clear hO_10
    have c_hX0 := hX_11.cell 0
    have c_hX1 := hX_11.cell 1
    have c_hX2 := hX_11.cell 2
    have c_hX3 := hX_11.cell 3
    have c_hO0 := hO_11.cell 0
    have c_hO1 := hO_11.cell 1
    have c_hO2 := hO_11.cell 2
    have c_hO3 := hO_11.cell 3
    have c_hO4 := hO_11.cell 4
    go_wp2_with fail
    go_ret
    exact ⟨rfl, b011⟩
  have t1 : ((i : Int) == 0) = false := by simpa using g1
  by_cases g2 : (i : Int) = q
  · have t2 : ((i : Int) == q) = true := by simpa using g2
    have HK := Lib.hid (show (if ((i : Int) = 0 ∨ (i : Int) = q) ∨ (H0 = 1 ∨ H0 = 2) then (2 : Int) else 0) = 2 from if_pos (.inl (.inr g2)))
    clear g1 g2
    go_wp2_with fail
    refine (checkMine A0 H0 i A2 1 c2 a q 2 _ hd9 (by omega) wa HK).mono ?_
    rintro _ w10 ⟨ks, A10, n10, c10, rfl, b10⟩
    clear c_hX0 c_hX1 c_hX2 c_hX3 c_hO0 c_hO1 c_hO2 c_hO3 c_hO4
    have b010 := btr b0h9 b10 b0h9.size
    have hX_10 := hX_h9.below b10 hX_h9.lt
    clear hX_h9
    have hO_10 := hO_h9.below b10 hO_h9.lt
    clear hO_h9
    have c_hX0 := hX_10.cell 0
    have c_hX1 := hX_10.cell 1
    have c_hX2 := hX_10.cell 2
    have c_hX3 := hX_10.cell 3
    have c_hO0 := hO_10.cell 0
    have c_hO1 := hO_10.cell 1
    have c_hO2 := hO_10.cell 2
    have c_hO3 := hO_10.cell 3
    have c_hO4 := hO_10.cell 4
    have hfc := fault_code06 2 ks (.slice A10 n10 c10)
    go_wp2_with fail
    refine (awake06 _).mono ?_
    rintro _ w11 ⟨rfl, b11⟩
    clear c_hX0 c_hX1 c_hX2 c_hX3 c_hO0 c_hO1 c_hO2 c_hO3 c_hO4
    have b011 := btr b010 b11 b010.size
    have hX_11 := hX_10.below b11 hX_10.lt
    clear hX_10
    have hO_11 := hO_10.below b11 hO_10.lt
    clear hO_10
    have c_hX0 := hX_11.cell 0
    have c_hX1 := hX_11.cell 1
    have c_hX2 := hX_11.cell 2
    have c_hX3 := hX_11.cell 3
    have c_hO0 := hO_11.cell 0
    have c_hO1 := hO_11.cell 1
    have c_hO2 := hO_11.cell 2
    have c_hO3 := hO_11.cell 3
    have c_hO4 := hO_11.cell 4
    go_wp2_with fail
    go_ret
    exact ⟨rfl, b011⟩
  have t2 : ((i : Int) == q) = false := by simpa using g2
  by_cases g3 : H0 = 1
  · have t3 : (H0 == 1) = true := by simpa using g3
    have HK := Lib.hid (show (if ((i : Int) = 0 ∨ (i : Int) = q) ∨ (H0 = 1 ∨ H0 = 2) then (2 : Int) else 0) = 2 from if_pos (.inr (.inl g3)))
    clear g1 g2 g3
    go_wp2_with fail
    refine (checkMine A0 H0 i A2 1 c2 a q 2 _ hd9 (by omega) wa HK).mono ?_
    rintro _ w10 ⟨ks, A10, n10, c10, rfl, b10⟩
    clear c_hX0 c_hX1 c_hX2 c_hX3 c_hO0 c_hO1 c_hO2 c_hO3 c_hO4
    have b010 := btr b0h9 b10 b0h9.size
    have hX_10 := hX_h9.below b10 hX_h9.lt
    clear hX_h9
    have hO_10 := hO_h9.below b10 hO_h9.lt
    clear hO_h9
    have c_hX0 := hX_10.cell 0
    have c_hX1 := hX_10.cell 1
    have c_hX2 := hX_10.cell 2
    have c_hX3 := hX_10.cell 3
    have c_hO0 := hO_10.cell 0
    have c_hO1 := hO_10.cell 1
    have c_hO2 := hO_10.cell 2
    have c_hO3 := hO_10.cell 3
    have c_hO4 := hO_10.cell 4
    have hfc := fault_code06 2 ks (.slice A10 n10 c10)
    go_wp2_with fail
    refine (awake06 _).mono ?_
    rintro _ w11 ⟨rfl, b11⟩
    clear c_hX0 c_hX1 c_hX2 c_hX3 c_hO0 c_hO1 c_hO2 c_hO3 c_hO4
    have b011 := btr b010 b11 b010.size
    have hX_11 := hX_10.below b11 hX_10.lt
    clear hX_10
    have hO_11 := hO_10.below b11 hO_10.lt
    clear hO_10
    have c_hX0 := hX_11.cell 0
    have c_hX1 := hX_11.cell 1
    have c_hX2 := hX_11.cell 2
    have c_hX3 := hX_11.cell 3
    have c_hO0 := hO_11.cell 0
    have c_hO1 := hO_11.cell 1
    have c_hO2 := hO_11.cell 2
    have c_hO3 := hO_11.cell 3
    have c_hO4 := hO_11.cell 4
    go_wp2_with fail
    go_ret
    exact ⟨rfl, b011⟩
  have t3 : (H0 == 1) = false := by simpa using g3
  by_cases g4 : H0 = 2
  · have t4 : (H0 == 2) = true := by simpa using g4
    have HK := Lib.hid (show (if ((i : Int) = 0 ∨ (i : Int) = q) ∨ (H0 = 1 ∨ H0 = 2) then (2 : Int) else 0) = 2 from if_pos (.inr (.inr g4)))
    clear g1 g2 g3 g4
    go_wp2_with fail
    refine (checkMine A0 H0 i A2 1 c2 a q 2 _ hd9 (by omega) wa HK).mono ?_
    rintro _ w10 ⟨ks, A10, n10, c10, rfl, b10⟩
    clear c_hX0 c_hX1 c_hX2 c_hX3 c_hO0 c_hO1 c_hO2 c_hO3 c_hO4
    have b010 := btr b0h9 b10 b0h9.size
    have hX_10 := hX_h9.below b10 hX_h9.lt
    clear hX_h9
    have hO_10 := hO_h9.below b10 hO_h9.lt
    clear hO_h9
    have c_hX0 := hX_10.cell 0
    have c_hX1 := hX_10.cell 1
    have c_hX2 := hX_10.cell 2
    have c_hX3 := hX_10.cell 3
    have c_hO0 := hO_10.cell 0
    have c_hO1 := hO_10.cell 1
    have c_hO2 := hO_10.cell 2
    have c_hO3 := hO_10.cell 3
    have c_hO4 := hO_10.cell 4
    have hfc := fault_code06 2 ks (.slice A10 n10 c10)
    go_wp2_with fail
    refine (awake06 _).mono ?_
    rintro _ w11 ⟨rfl, b11⟩
    clear c_hX0 c_hX1 c_hX2 c_hX3 c_hO0 c_hO1 c_hO2 c_hO3 c_hO4
    have b011 := btr b010 b11 b010.size
    have hX_11 := hX_10.below b11 hX_10.lt
    clear hX_10
    have hO_11 := hO_10.below b11 hO_10.lt
    clear hO_10
    have c_hX0 := hX_11.cell 0
    have c_hX1 := hX_11.cell 1
    have c_hX2 := hX_11.cell 2
    have c_hX3 := hX_11.cell 3
    have c_hO0 := hO_11.cell 0
    have c_hO1 := hO_11.cell 1
    have c_hO2 := hO_11.cell 2
    have c_hO3 := hO_11.cell 3
    have c_hO4 := hO_11.cell 4
    go_wp2_with fail
    go_ret
    exact ⟨rfl, b011⟩
  have t4 : (H0 == 2) = false := by simpa using g4
  have HK := Lib.hid (show (if ((i : Int) = 0 ∨ (i : Int) = q) ∨ (H0 = 1 ∨ H0 = 2) then (2 : Int) else 0) = 0 from if_neg (fun h => h.elim (fun h => h.elim g1 g2) (fun h => h.elim g3 g4)))
  clear g1 g2 g3 g4
  go_wp2_with fail
  refine (checkMine A0 H0 i A2 1 c2 a q 0 _ hd9 (by omega) wa HK).mono ?_
  rintro _ w10 ⟨ks, A10, n10, c10, rfl, b10⟩
  clear c_hX0 c_hX1 c_hX2 c_hX3 c_hO0 c_hO1 c_hO2 c_hO3 c_hO4
  have b010 := btr b0h9 b10 b0h9.size
  have hX_10 := hX_h9.below b10 hX_h9.lt
  clear hX_h9
  have hO_10 := hO_h9.below b10 hO_h9.lt
  clear hO_h9
  have c_hX0 := hX_10.cell 0
  have c_hX1 := hX_10.cell 1
  have c_hX2 := hX_10.cell 2
  have c_hX3 := hX_10.cell 3
  have c_hO0 := hO_10.cell 0
  have c_hO1 := hO_10.cell 1
  have c_hO2 := hO_10.cell 2
  have c_hO3 := hO_10.cell 3
  have c_hO4 := hO_10.cell 4
  have hfc := fault_code06 0 ks (.slice A10 n10 c10)
  go_wp2_with fail
  refine (awake06 _).mono ?_
  rintro _ w11 ⟨rfl, b11⟩
  clear c_hX0 c_hX1 c_hX2 c_hX3 c_hO0 c_hO1 c_hO2 c_hO3 c_hO4
  have b011 := btr b010 b11 b010.size
  have hX_11 := hX_10.below b11 hX_10.lt
  clear hX_10
  have hO_11 := hO_10.below b11 hO_10.lt
  clear hO_10
  have c_hX0 := hX_11.cell 0
  have c_hX1 := hX_11.cell 1
  have c_hX2 := hX_11.cell 2
  have c_hX3 := hX_11.cell 3
  have c_hO0 := hO_11.cell 0
  have c_hO1 := hO_11.cell 1
  have c_hO2 := hO_11.cell 2
  have c_hO3 := hO_11.cell 3
  have c_hO4 := hO_11.cell 4
  go_wp2_with fail
  go_ret
  exact ⟨rfl, b011⟩
end Go.Proofs.Ytnhkpnohadbcdaa
