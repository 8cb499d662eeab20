/- The statement OpenChecks: its walk. No conditions but the statement's own. -/
import Derived.Test.YtnhkpnohadbcdaaProg
import Derived.WalkKit
import Derived.WalkSpells
import Derived.WalkLawsBesides
import Derived.Outline
import Derived.Deep.QuietTactic
import Derived.BigQuiet
import Derived.Handy
import Derived.Lib.Hide
import Derived.Test.YtnhkpnohadbcdaaOpnL
namespace Go.Proofs.Ytnhkpnohadbcdaa
open Go.RowKit
set_option linter.unusedSimpArgs false
set_option linter.unusedVariables false
theorem sameFault_self (a b : Int) (A A' : Option Addr) (n c n' c' : Nat) (l : List UInt8) (w : World) (h : BS w w.heap.size A n l) (h' : BS w w.heap.size A' n' l) :
    Calls Try.prog 15 #[.agg #[.int .i64 a, .int .i64 b, .slice A n c], .agg #[.int .i64 a, .int .i64 b, .slice A' n' c']] w fun en w' => en = .returned (.bool true) ∧ Below w.heap.size w w' :=
  (sameFault_any a b a b A A' n c n' c' l l w h h').mono fun _ _ ⟨h1, h2⟩ => ⟨by rw [h1]; simp, h2⟩
set_option maxHeartbeats 4000000 in
set_option maxRecDepth 100000 in
theorem lawOpenChecks (w : World) (ve a ho : Int) (i : Nat) (A : Option Addr) (n c : Nat) (l : List Cap) (wi : i < 4294967296) (w0 : DL rCap 2 w (Lo w) A n l) (wc : n ≤ c) (wm : c ≤ maxLen) (p : Int) (wp : (Lit.int .u32 p).wf = true) (q : Int) (wq : (Lit.int .u32 q).wf = true) :
    Calls Try.prog 5 #[.agg #[.int .i64 ve, .int .i64 a, .int .i64 ho, .int .u32 i, .slice A n c], .int .u32 p, .int .u32 q] w fun en w' => en = .returned (.bool true) ∧ Below w.heap.size w w' := by
  have HL := Lib.hid w0.len
  obtain ⟨V, hV, hX, b0⟩ := box1c w #[.int .i64 ve, .int .i64 a, .int .i64 ho, .int .u32 i, .slice A n c] 25
  have HV := Lib.hid hV
  clear hV
  have HF := law06few ve a ho i A n c l V (w0.call rCap_ok b0) wc wm
  have HWM := Lib.hid wm
  clear wm
  by_cases hf : fewC l = true
  case neg =>
    have hf' : fewC l = false := by simpa using hf
    rw [hf'] at HF
    clear hf hf'
    go_enter Try.func5, Try.ntmps5
    go_upto_region 1 with fail
    rw [HV.out]
    have c_hX0 := hX.cell 0
    have c_hX1 := hX.cell 1
    have c_hX2 := hX.cell 2
    have c_hX3 := hX.cell 3
    have c_hX4 := hX.cell 4
    go_wp2_with fail
    refine HF.mono ?_
    rintro _ w1 ⟨rfl, b1⟩
    clear c_hX0 c_hX1 c_hX2 c_hX3 c_hX4
    have b01 := btr b0 b1 b0.size
    have hX_1 := hX.below b1 hX.lt
    have c_hX0 := hX_1.cell 0
    have c_hX1 := hX_1.cell 1
    have c_hX2 := hX_1.cell 2
    have c_hX3 := hX_1.cell 3
    have c_hX4 := hX_1.cell 4
    go_wp2_with fail
    refine (awake06 _).mono ?_
    rintro _ w2 ⟨rfl, b2⟩
    clear c_hX0 c_hX1 c_hX2 c_hX3 c_hX4
    have b02 := btr b01 b2 b01.size
    have hX_2 := hX_1.below b2 hX_1.lt
    clear hX_1
    have c_hX0 := hX_2.cell 0
    have c_hX1 := hX_2.cell 1
    have c_hX2 := hX_2.cell 2
    have c_hX3 := hX_2.cell 3
    have c_hX4 := hX_2.cell 4
    go_wp2_with fail
    go_ret
    exact ⟨rfl, b02⟩
  rw [hf] at HF
  have hn : n ≤ 100000 := by have := (fewC_of hf).1; have := HL.out; omega
  clear hf
  obtain ⟨pw, hpw⟩ : ∃ p, wideO l = p := ⟨_, rfl⟩
  obtain ⟨N, bo⟩ := pw
  have HW1 := fun W hD => openWide ve a ho i A n c l W hD hn
  have HW2 := fun W hD => refWide06 ve a ho i A n c l W hD hn
  rw [hpw] at HW1 HW2
  simp only at HW1 HW2
  obtain ⟨sa, has⟩ : ∃ sa, asO a l = sa := ⟨_, rfl⟩
  have HA1 := fun W hD => openAS ve a ho i A n c l W hD hn
  have HA2 := fun W hD => refAS06 ve a ho i A n c l W hD hn
  rw [has] at HA1 HA2
  clear hpw has
  obtain ⟨kc, ks, kl, hHC⟩ : ∃ (kc ks : Int) (kl : List UInt8), (∀ W, DL rCap 2 W (Lo W) A n l → Calls Try.prog 20 #[.agg #[.int .i64 ve, .int .i64 a, .int .i64 ho, .int .u32 i, .slice A n c], .int .u32 p, .int .u32 q] W (fun e w' => ∃ (A : Option Addr) (n c : Nat), e = .returned (.agg #[.int .i64 kc, .int .i64 ks, .slice A n c]) ∧ BS w' w'.heap.size A n kl ∧ Below W.heap.size W w')) ∧
      (∀ W, DL rCap 2 W (Lo W) A n l → Calls Try.prog 21 #[.agg #[.int .i64 ve, .int .i64 a, .int .i64 ho, .int .u32 i, .slice A n c], .int .u32 p, .int .u32 q] W (fun e w' => ∃ (A : Option Addr) (n c : Nat), e = .returned (.agg #[.int .i64 kc, .int .i64 ks, .slice A n c]) ∧ BS w' w'.heap.size A n kl ∧ Below W.heap.size W w')) :=
    ⟨_, _, _, fun W hD => openCheck ve a ho i A n c l p q W hD hn, fun W hD => refCheck06 ve a ho i A n c l p q W hD hn⟩
  have HC := Lib.hid hHC
  have HW := Lib.hid (And.intro HW1 HW2)
  have HA := Lib.hid (And.intro HA1 HA2)
  clear hHC HW1 HW2 HA1 HA2
  go_enter Try.func5, Try.ntmps5
  go_upto_region 1 with fail
  rw [HV.out]
  have c_hX0 := hX.cell 0
  have c_hX1 := hX.cell 1
  have c_hX2 := hX.cell 2
  have c_hX3 := hX.cell 3
  have c_hX4 := hX.cell 4
  go_wp2_with fail
  refine HF.mono ?_
  rintro _ w1 ⟨rfl, b1⟩
  clear c_hX0 c_hX1 c_hX2 c_hX3 c_hX4
  have b01 := btr b0 b1 b0.size
  have hX_1 := hX.below b1 hX.lt
  have c_hX0 := hX_1.cell 0
  have c_hX1 := hX_1.cell 1
  have c_hX2 := hX_1.cell 2
  have c_hX3 := hX_1.cell 3
  have c_hX4 := hX_1.cell 4
  go_wp2_with fail
  refine (HW.out.1 _ (w0.call rCap_ok b01)).mono ?_
  rintro _ w2 ⟨rfl, b2⟩
  clear c_hX0 c_hX1 c_hX2 c_hX3 c_hX4
  have b02 := btr b01 b2 b01.size
  have hX_2 := hX_1.below b2 hX_1.lt
  clear hX_1
  have c_hX0 := hX_2.cell 0
  have c_hX1 := hX_2.cell 1
  have c_hX2 := hX_2.cell 2
  have c_hX3 := hX_2.cell 3
  have c_hX4 := hX_2.cell 4
  go_wp2_with fail
  refine (HW.out.2 _ (w0.call rCap_ok b02)).mono ?_
  rintro _ w3 ⟨rfl, b3⟩
  clear c_hX0 c_hX1 c_hX2 c_hX3 c_hX4
  have b03 := btr b02 b3 b02.size
  have hX_3 := hX_2.below b3 hX_2.lt
  clear hX_2
  have c_hX0 := hX_3.cell 0
  have c_hX1 := hX_3.cell 1
  have c_hX2 := hX_3.cell 2
  have c_hX3 := hX_3.cell 3
  have c_hX4 := hX_3.cell 4
  have hbb : (bo == bo) = true := beq_self_eq_true bo
  go_upto_region 5 with fail
  have lt_hX := hX_3.lt
  refine wp_region_held_drew (S := (fun w' => Below w3.heap.size w3 w' ∧ ∀ b o, b < w3.heap.size → w'.cell? ⟨b, o, none⟩ = w3.cell? ⟨b, o, none⟩)) (by kernel_rfl) ?_ (fun hHeld => ?_)
  · (first | exact heldB_keep b9 hHeld | exact heldB_keep b8 hHeld | exact heldB_keep b7 hHeld | exact heldB_keep b6 hHeld | exact heldB_keep b5 hHeld | exact heldB_keep b4 hHeld | exact heldB_refl _)
  refine wpAnyH_take (i := 0) (v := ?q1v0) rfl (by kernel_rfl) (by kernel_rfl) (by kernel_rfl) (by intro _ _ _ h; exact h) (Or.inl ⟨by rfl, ?q1hy0⟩) (by assumption) ?q1rest0
  case q1hy0 => (intro w hSw; (try dsimp only at hSw); go_simp; try with_reducible rfl)
  try simp only [Act.put, List.getElem_toArray, List.getElem_cons_succ, List.getElem_cons_zero, List.setIfInBounds_toArray, List.set_cons_zero, List.set_cons_succ]
  refine wpAnyH_take (i := 1) (v := ?q1v1) rfl (by kernel_rfl) (by kernel_rfl) (by kernel_rfl) (by intro _ _ _ h; exact h) (Or.inl ⟨by rfl, ?q1hy1⟩) (by assumption) ?q1rest1
  case q1hy1 => (intro w hSw; (try dsimp only at hSw); go_simp; try with_reducible rfl)
  try simp only [Act.put, List.getElem_toArray, List.getElem_cons_succ, List.getElem_cons_zero, List.setIfInBounds_toArray, List.set_cons_zero, List.set_cons_succ]
  refine wpAnyH_take (i := 2) (v := ?q1v2) rfl (by kernel_rfl) (by kernel_rfl) (by kernel_rfl) (by intro _ _ _ h; exact h) (Or.inl ⟨by rfl, ?q1hy2⟩) (by assumption) ?q1rest2
  case q1hy2 => (intro w hSw; (try dsimp only at hSw); go_simp; try with_reducible rfl)
  try simp only [Act.put, List.getElem_toArray, List.getElem_cons_succ, List.getElem_cons_zero, List.setIfInBounds_toArray, List.set_cons_zero, List.set_cons_succ]
  refine wpAnyH_take (i := 3) (v := ?q1v3) rfl (by kernel_rfl) (by kernel_rfl) (by kernel_rfl) (by intro _ _ _ h; exact h) (Or.inl ⟨by rfl, ?q1hy3⟩) (by assumption) ?q1rest3
  case q1hy3 => (intro w hSw; (try dsimp only at hSw); go_simp; try with_reducible rfl)
  try simp only [Act.put, List.getElem_toArray, List.getElem_cons_succ, List.getElem_cons_zero, List.setIfInBounds_toArray, List.set_cons_zero, List.set_cons_succ]
  refine wpAnyH_take (i := 4) (v := ?q1v4) rfl (by kernel_rfl) (by kernel_rfl) (by kernel_rfl) (by intro _ _ _ h; exact h) (Or.inl ⟨by rfl, ?q1hy4⟩) (by assumption) ?q1rest4
  case q1hy4 => (intro w hSw; (try dsimp only at hSw); go_simp; try with_reducible rfl)
  try simp only [Act.put, List.getElem_toArray, List.getElem_cons_succ, List.getElem_cons_zero, List.setIfInBounds_toArray, List.set_cons_zero, List.set_cons_succ]
  refine wpAnyH_take (i := 5) (v := ?q1v5) rfl (by kernel_rfl) (by kernel_rfl) (by kernel_rfl) (by intro _ _ _ h; exact h) (Or.inl ⟨by rfl, ?q1hy5⟩) (by assumption) ?q1rest5
  case q1hy5 => (intro w hSw; (try dsimp only at hSw); go_simp; try with_reducible rfl)
  try simp only [Act.put, List.getElem_toArray, List.getElem_cons_succ, List.getElem_cons_zero, List.setIfInBounds_toArray, List.set_cons_zero, List.set_cons_succ]
  refine wpAnyH_take (i := 6) (v := ?q1v6) rfl (by kernel_rfl) (by kernel_rfl) (by kernel_rfl) (by intro _ _ _ h; exact h) (Or.inl ⟨by rfl, ?q1hy6⟩) (by assumption) ?q1rest6
  case q1hy6 => (intro w hSw; (try dsimp only at hSw); go_simp; try with_reducible rfl)
  try simp only [Act.put, List.getElem_toArray, List.getElem_cons_succ, List.getElem_cons_zero, List.setIfInBounds_toArray, List.set_cons_zero, List.set_cons_succ]
  refine wpAnyH_take (i := 7) (v := ?q1v7) rfl (by kernel_rfl) (by kernel_rfl) (by kernel_rfl) (by intro _ _ _ h; exact h) (Or.inl ⟨by rfl, ?q1hy7⟩) (by assumption) ?q1rest7
  case q1hy7 => (intro w hSw; (try dsimp only at hSw); go_simp; try with_reducible rfl)
  try simp only [Act.put, List.getElem_toArray, List.getElem_cons_succ, List.getElem_cons_zero, List.setIfInBounds_toArray, List.set_cons_zero, List.set_cons_succ]
  refine wpAnyH_take (i := 8) (v := ?q1v8) rfl (by kernel_rfl) (by kernel_rfl) (by kernel_rfl) (by intro _ _ _ h; exact h) (Or.inl ⟨by rfl, ?q1hy8⟩) (by assumption) ?q1rest8
  case q1hy8 => (intro w hSw; (try dsimp only at hSw); go_simp; try with_reducible rfl)
  try simp only [Act.put, List.getElem_toArray, List.getElem_cons_succ, List.getElem_cons_zero, List.setIfInBounds_toArray, List.set_cons_zero, List.set_cons_succ]
  refine wpAnyH_take (i := 9) (v := ?q1v9) rfl (by kernel_rfl) (by kernel_rfl) (by kernel_rfl) (by intro _ _ _ h; exact h) (Or.inl ⟨by rfl, ?q1hy9⟩) (by assumption) ?q1rest9
  case q1hy9 => (intro w hSw; (try dsimp only at hSw); go_simp; try with_reducible rfl)
  try simp only [Act.put, List.getElem_toArray, List.getElem_cons_succ, List.getElem_cons_zero, List.setIfInBounds_toArray, List.set_cons_zero, List.set_cons_succ]
  refine wpAnyH_take (i := 11) (v := ?q1v11) rfl (by kernel_rfl) (by kernel_rfl) (by kernel_rfl) (by intro _ _ _ h; exact h) (Or.inl ⟨by rfl, ?q1hy11⟩) (by assumption) ?q1rest11
  case q1hy11 => (intro w hSw; (try dsimp only at hSw); go_simp; try with_reducible rfl)
  try simp only [Act.put, List.getElem_toArray, List.getElem_cons_succ, List.getElem_cons_zero, List.setIfInBounds_toArray, List.set_cons_zero, List.set_cons_succ]
  refine wpAnyH_ready (rs := [10]) (by kernel_rfl) (by simp) ?_
  refine AllReadyH.cons rfl (fun K hK => ?_) AllReadyH.nil
  go_simp
  go_wp2_with (go_at_call 18; refine (HA.out.1 _ (w0.call rCap_ok (btr b03 hHeld.1 b03.size))).mono ?_; rintro _ w4 ⟨rfl, b4⟩)
  refine hK.out _ _ ?_ (fun hHeld => ?_)
  · try dsimp only
    (first | exact heldB_keep b9 hHeld | exact heldB_keep b8 hHeld | exact heldB_keep b7 hHeld | exact heldB_keep b6 hHeld | exact heldB_keep b5 hHeld | exact heldB_keep b4 hHeld | exact heldB_refl _)
  clear hK K
  refine wpAnyH_ready (rs := [12]) (by kernel_rfl) (by simp) ?_
  refine AllReadyH.cons rfl (fun K hK => ?_) AllReadyH.nil
  go_simp
  go_wp2_with (go_at_call 19; refine (HA.out.2 _ (w0.call rCap_ok (btr b03 hHeld.1 b03.size))).mono ?_; rintro _ w5 ⟨rfl, b5⟩)
  refine hK.out _ _ ?_ (fun hHeld => ?_)
  · try dsimp only
    (first | exact heldB_keep b9 hHeld | exact heldB_keep b8 hHeld | exact heldB_keep b7 hHeld | exact heldB_keep b6 hHeld | exact heldB_keep b5 hHeld | exact heldB_keep b4 hHeld | exact heldB_refl _)
  clear hK K
  refine wpAnyH_take (i := 13) (v := ?q1v13) rfl (by kernel_rfl) (by kernel_rfl) (by kernel_rfl) (by intro _ _ _ h; exact h) (Or.inl ⟨by rfl, ?q1hy13⟩) (by assumption) ?q1rest13
  case q1hy13 => (intro w hSw; (try dsimp only at hSw); go_simp; try with_reducible rfl)
  try simp only [Act.put, List.getElem_toArray, List.getElem_cons_succ, List.getElem_cons_zero, List.setIfInBounds_toArray, List.set_cons_zero, List.set_cons_succ]
  refine wpAnyH_take (i := 14) (v := ?q1v14) rfl (by kernel_rfl) (by kernel_rfl) (by kernel_rfl) (by intro _ _ _ h; exact h) (Or.inl ⟨by rfl, ?q1hy14⟩) (by assumption) ?q1rest14
  case q1hy14 => (intro w hSw; (try dsimp only at hSw); go_simp; try with_reducible rfl)
  try simp only [Act.put, List.getElem_toArray, List.getElem_cons_succ, List.getElem_cons_zero, List.setIfInBounds_toArray, List.set_cons_zero, List.set_cons_succ]
  refine wpAnyH_take (i := 15) (v := ?q1v15) rfl (by kernel_rfl) (by kernel_rfl) (by kernel_rfl) (by intro _ _ _ h; exact h) (Or.inl ⟨by rfl, ?q1hy15⟩) (by assumption) ?q1rest15
  case q1hy15 => (intro w hSw; (try dsimp only at hSw); go_simp; try with_reducible rfl)
  try simp only [Act.put, List.getElem_toArray, List.getElem_cons_succ, List.getElem_cons_zero, List.setIfInBounds_toArray, List.set_cons_zero, List.set_cons_succ]
  refine wpAnyH_take (i := 16) (v := ?q1v16) rfl (by kernel_rfl) (by kernel_rfl) (by kernel_rfl) (by intro _ _ _ h; exact h) (Or.inl ⟨by rfl, ?q1hy16⟩) (by assumption) ?q1rest16
  case q1hy16 => (intro w hSw; (try dsimp only at hSw); go_simp; try with_reducible rfl)
  try simp only [Act.put, List.getElem_toArray, List.getElem_cons_succ, List.getElem_cons_zero, List.setIfInBounds_toArray, List.set_cons_zero, List.set_cons_succ]
  refine wpAnyH_take (i := 17) (v := ?q1v17) rfl (by kernel_rfl) (by kernel_rfl) (by kernel_rfl) (by intro _ _ _ h; exact h) (Or.inl ⟨by rfl, ?q1hy17⟩) (by assumption) ?q1rest17
  case q1hy17 => (intro w hSw; (try dsimp only at hSw); go_simp; try with_reducible rfl)
  try simp only [Act.put, List.getElem_toArray, List.getElem_cons_succ, List.getElem_cons_zero, List.setIfInBounds_toArray, List.set_cons_zero, List.set_cons_succ]
  refine wpAnyH_take (i := 18) (v := ?q1v18) rfl (by kernel_rfl) (by kernel_rfl) (by kernel_rfl) (by intro _ _ _ h; exact h) (Or.inl ⟨by rfl, ?q1hy18⟩) (by assumption) ?q1rest18
  case q1hy18 => (intro w hSw; (try dsimp only at hSw); go_simp; try with_reducible rfl)
  try simp only [Act.put, List.getElem_toArray, List.getElem_cons_succ, List.getElem_cons_zero, List.setIfInBounds_toArray, List.set_cons_zero, List.set_cons_succ]
  refine wpAnyH_take (i := 20) (v := ?q1v20) rfl (by kernel_rfl) (by kernel_rfl) (by kernel_rfl) (by intro _ _ _ h; exact h) (Or.inl ⟨by rfl, ?q1hy20⟩) (by assumption) ?q1rest20
  case q1hy20 => (intro w hSw; (try dsimp only at hSw); go_simp; try with_reducible rfl)
  try simp only [Act.put, List.getElem_toArray, List.getElem_cons_succ, List.getElem_cons_zero, List.setIfInBounds_toArray, List.set_cons_zero, List.set_cons_succ]
  refine wpAnyH_take (i := 21) (v := ?q1v21) rfl (by kernel_rfl) (by kernel_rfl) (by kernel_rfl) (by intro _ _ _ h; exact h) (Or.inl ⟨by rfl, ?q1hy21⟩) (by assumption) ?q1rest21
  case q1hy21 => (intro w hSw; (try dsimp only at hSw); go_simp; try with_reducible rfl)
  try simp only [Act.put, List.getElem_toArray, List.getElem_cons_succ, List.getElem_cons_zero, List.setIfInBounds_toArray, List.set_cons_zero, List.set_cons_succ]
  refine wpAnyH_take (i := 22) (v := ?q1v22) rfl (by kernel_rfl) (by kernel_rfl) (by kernel_rfl) (by intro _ _ _ h; exact h) (Or.inl ⟨by rfl, ?q1hy22⟩) (by assumption) ?q1rest22
  case q1hy22 => (intro w hSw; (try dsimp only at hSw); go_simp; try with_reducible rfl)
  try simp only [Act.put, List.getElem_toArray, List.getElem_cons_succ, List.getElem_cons_zero, List.setIfInBounds_toArray, List.set_cons_zero, List.set_cons_succ]
  refine wpAnyH_ready (rs := [19]) (by kernel_rfl) (by simp) ?_
  refine AllReadyH.cons rfl (fun K hK => ?_) AllReadyH.nil
  go_simp
  go_wp2_with (go_at_call 20; refine (HC.out.1 _ (w0.call rCap_ok (btr b03 hHeld.1 b03.size))).mono ?_; rintro _ w6 ⟨A6, n6, c6, rfl, s6, b6⟩)
  refine hK.out _ _ ?_ (fun hHeld => ?_)
  · try dsimp only
    (first | exact heldB_keep b9 hHeld | exact heldB_keep b8 hHeld | exact heldB_keep b7 hHeld | exact heldB_keep b6 hHeld | exact heldB_keep b5 hHeld | exact heldB_keep b4 hHeld | exact heldB_refl _)
  clear hK K
  refine wpAnyH_ready (rs := [23]) (by kernel_rfl) (by simp) ?_
  refine AllReadyH.cons rfl (fun K hK => ?_) AllReadyH.nil
  go_simp
  go_wp2_with (go_at_call 21; refine (HC.out.2 _ (w0.call rCap_ok (btr b03 hHeld.1 b03.size))).mono ?_; rintro _ w7 ⟨A7, n7, c7, rfl, s7, b7⟩)
  refine hK.out _ _ ?_ (fun hHeld => ?_)
  · try dsimp only
    (first | exact heldB_keep b9 hHeld | exact heldB_keep b8 hHeld | exact heldB_keep b7 hHeld | exact heldB_keep b6 hHeld | exact heldB_keep b5 hHeld | exact heldB_keep b4 hHeld | exact heldB_refl _)
  clear hK K
  refine wpAnyH_ready (rs := [24]) (by kernel_rfl) (by simp) ?_
  refine AllReadyH.cons rfl (fun K hK => ?_) AllReadyH.nil
  go_simp
  go_wp2_with (go_at_call 15; refine (sameFault_self _ _ A6 A7 n6 c6 n7 c7 _ _ (s6.call b7) s7).mono ?_; rintro _ w8 ⟨rfl, b8⟩)
  refine hK.out _ _ ?_ (fun hHeld => ?_)
  · try dsimp only
    (first | exact heldB_keep b9 hHeld | exact heldB_keep b8 hHeld | exact heldB_keep b7 hHeld | exact heldB_keep b6 hHeld | exact heldB_keep b5 hHeld | exact heldB_keep b4 hHeld | exact heldB_refl _)
  clear hK K
  refine wpAnyH_take (i := 25) (v := ?q1v25) rfl (by kernel_rfl) (by kernel_rfl) (by kernel_rfl) (by intro _ _ _ h; exact h) (Or.inl ⟨by rfl, ?q1hy25⟩) (by assumption) ?q1rest25
  case q1hy25 => (intro w hSw; (try dsimp only at hSw); go_simp; try with_reducible rfl)
  try simp only [Act.put, List.getElem_toArray, List.getElem_cons_succ, List.getElem_cons_zero, List.setIfInBounds_toArray, List.set_cons_zero, List.set_cons_succ]
  refine wpAnyH_take (i := 26) (v := ?q1v26) rfl (by kernel_rfl) (by kernel_rfl) (by kernel_rfl) (by intro _ _ _ h; exact h) (Or.inl ⟨by rfl, ?q1hy26⟩) (by assumption) ?q1rest26
  case q1hy26 => (intro w hSw; (try dsimp only at hSw); go_simp; try with_reducible rfl)
  try simp only [Act.put, List.getElem_toArray, List.getElem_cons_succ, List.getElem_cons_zero, List.setIfInBounds_toArray, List.set_cons_zero, List.set_cons_succ]
  refine wpAnyH_ready (rs := [27]) (by kernel_rfl) (by simp) ?_
  refine AllReadyH.cons rfl (fun K hK => ?_) AllReadyH.nil
  go_simp
  go_wp2_with (go_at_call 8; refine (awake06 _).mono ?_; rintro _ w9 ⟨rfl, b9⟩)
  refine hK.out _ _ ?_ (fun hHeld => ?_)
  · try dsimp only
    (first | exact heldB_keep b9 hHeld | exact heldB_keep b8 hHeld | exact heldB_keep b7 hHeld | exact heldB_keep b6 hHeld | exact heldB_keep b5 hHeld | exact heldB_keep b4 hHeld | exact heldB_refl _)
  clear hK K
  refine wpAnyH_take (i := 28) (v := ?q1v28) rfl (by kernel_rfl) (by kernel_rfl) (by kernel_rfl) (by intro _ _ _ h; exact h) (Or.inl ⟨by rfl, ?q1hy28⟩) (by assumption) ?q1rest28
  case q1hy28 => (intro w hSw; (try dsimp only at hSw); go_simp; try with_reducible rfl)
  try simp only [Act.put, List.getElem_toArray, List.getElem_cons_succ, List.getElem_cons_zero, List.setIfInBounds_toArray, List.set_cons_zero, List.set_cons_succ]
  refine wpAnyH_take (i := 29) (v := ?q1v29) rfl (by kernel_rfl) (by kernel_rfl) (by kernel_rfl) (by intro _ _ _ h; exact h) (Or.inl ⟨by rfl, ?q1hy29⟩) (by assumption) ?q1rest29
  case q1hy29 => (intro w hSw; (try dsimp only at hSw); go_simp; try with_reducible rfl)
  try simp only [Act.put, List.getElem_toArray, List.getElem_cons_succ, List.getElem_cons_zero, List.setIfInBounds_toArray, List.set_cons_zero, List.set_cons_succ]
  refine wpAnyH_done (by kernel_rfl) ?_ _
  clear lt_hX
  have bh9 := hHeld.1
  clear hHeld
  clear c_hX0 c_hX1 c_hX2 c_hX3 c_hX4
  have b0h9 := btr b03 bh9 b03.size
  have hX_h9 := hX_3.below bh9 hX_3.lt
  clear hX_3
  have c_hX0 := hX_h9.cell 0
  have c_hX1 := hX_h9.cell 1
  have c_hX2 := hX_h9.cell 2
  have c_hX3 := hX_h9.cell 3
  have c_hX4 := hX_h9.cell 4
  go_wp2_with fail
  go_ret
  exact ⟨rfl, b0h9⟩
end Go.Proofs.Ytnhkpnohadbcdaa
