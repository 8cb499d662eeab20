/- The statements AttrsRight, AttrsSame: their walks. Conditions: the table of looks. -/
import Derived.Test.YtlpkngjeihoknaaDoorProg
import Derived.WalkKit
import Derived.WalkSpells
import Derived.WalkLawsBesides
import Derived.Outline
import Derived.Deep.QuietTactic
import Derived.BigQuiet
import Derived.Handy
import Derived.Lib.Hide
import Derived.Laws.Cover4
import Derived.OrdersHeld
import Derived.Deep.RegionHeld
import Derived.Deep.DeepCutAuto
import Derived.Deep.CutBlock
import Derived.Test.YtlpkngjeihoknaaDoorAttSW
namespace Go.Proofs.YtlpkngjeihoknaaDoor
open Go.RowKit
set_option linter.unusedSimpArgs false
set_option linter.unusedVariables false
set_option maxHeartbeats 16000000 in
set_option maxRecDepth 100000 in
theorem lawAttrsRight (w : World) (o : Int) (A : Option Addr) (n : Nat) (c : Nat) (path : List Seg) (nx : Int) (md : Int) (pf : Int) (at_ : Bool) (ha : Bool) (gs : Int) (ga : Int) (A1 : Option Addr) (n1 : Nat) (c1 : Nat) (comms : List Int) (A2 : Option Addr) (n2 : Nat) (c2 : Nat) (raws : List RawV) (hp : DL rSeg 2 w (Lo w) A n path) (hcm : NF w (Lo w) A1 n1 comms) (hrw : DL rRaw 3 w (Lo w) A2 n2 raws) (hwf : 0 ≤ nx ∧ nx < 4294967296 ∧ 0 ≤ gs ∧ gs < 4294967296 ∧ 0 ≤ ga ∧ ga < 4294967296) (hrm : ∀ x ∈ path, x.2.length ≤ big32) (kind : Int) (wk : (Lit.int .i64 kind).wf = true) (ad : Int) (wa : (Lit.int .u32 ad).wf = true) (ht : LookTab w) :
    Calls Tryd.prog 11 #[.agg #[.int .i64 o, .slice A n c, .int .u32 nx, .int .i64 md, .int .i64 pf, .bool at_, .bool ha, .int .u32 gs, .int .u32 ga, .slice A1 n1 c1, .slice A2 n2 c2], .int .i64 kind, .int .u32 ad] w fun en w' => en = .returned (.bool true) ∧ Below w.heap.size w w' := by
  obtain ⟨r, hr⟩ : ∃ r, fewAt path comms raws = r := ⟨_, rfl⟩
  have HFW := Lib.hid (show ∀ w', DL rSeg 2 w' (Lo w') A n path → DL rRaw 3 w' (Lo w') A2 n2 raws → Calls Tryd.prog 46 #[.agg #[.int .i64 o, .slice A n c, .int .u32 nx, .int .i64 md, .int .i64 pf, .bool at_, .bool ha, .int .u32 gs, .int .u32 ga, .slice A1 n1 c1, .slice A2 n2 c2]] w' fun en w'' => en = .returned (.bool r) ∧ Below w'.heap.size w' w'' from fun w' h1 h2 => by rw [← hr]; exact law04Few o A n c path nx md pf at_ ha gs ga A1 n1 c1 comms A2 n2 c2 raws w' h1 hcm.1 h2)
  have HAW := Lib.hid (show ∀ w', LookTab w' → Calls Tryd.prog 47 #[] w' fun en w'' => en = .returned (.bool true) ∧ Below w'.heap.size w' w'' from fun w' h => awake04 w' h (lt_of_cell (h 0 (by omega)).1))
  cases r
  case false =>
    clear hr hrm
    obtain ⟨W, hW, hX, b0⟩ := box1c w #[.int .i64 o, .slice A n c, .int .u32 nx, .int .i64 md, .int .i64 pf, .bool at_, .bool ha, .int .u32 gs, .int .u32 ga, .slice A1 n1 c1, .slice A2 n2 c2] 54
    go_enter Tryd.func11, Tryd.ntmps11
    go_upto_region 1 with fail
    try rw [hW]
    obtain ⟨q, hq⟩ : ∃ q, w.heap.size = q := ⟨_, rfl⟩
    try rw [hq]
    rw [hq] at hX
    clear hW hq
    have c_hX0 := hX.cell 0
    have c_hX1 := hX.cell 1
    have c_hX2 := hX.cell 2
    have c_hX3 := hX.cell 3
    have c_hX4 := hX.cell 4
    have c_hX5 := hX.cell 5
    have c_hX6 := hX.cell 6
    have c_hX7 := hX.cell 7
    have c_hX8 := hX.cell 8
    have c_hX9 := hX.cell 9
    have c_hX10 := hX.cell 10
    go_wp2_with fail
    refine (HFW.out _ (hp.segB4 b0) (hrw.rawB4 b0)).mono ?_
    rintro _ w1 ⟨rfl, b1⟩
    clear c_hX0 c_hX1 c_hX2 c_hX3 c_hX4 c_hX5 c_hX6 c_hX7 c_hX8 c_hX9 c_hX10
    have b01 := btr b0 b1 b0.size
    have hX_1 := hX.below b1 hX.lt
    have c_hX0 := hX_1.cell 0
    have c_hX1 := hX_1.cell 1
    have c_hX2 := hX_1.cell 2
    have c_hX3 := hX_1.cell 3
    have c_hX4 := hX_1.cell 4
    have c_hX5 := hX_1.cell 5
    have c_hX6 := hX_1.cell 6
    have c_hX7 := hX_1.cell 7
    have c_hX8 := hX_1.cell 8
    have c_hX9 := hX_1.cell 9
    have c_hX10 := hX_1.cell 10
    go_wp2_with fail
    refine (HAW.out _ (ht.call b01)).mono ?_
    rintro _ w2 ⟨rfl, b2⟩
    clear c_hX0 c_hX1 c_hX2 c_hX3 c_hX4 c_hX5 c_hX6 c_hX7 c_hX8 c_hX9 c_hX10
    have b02 := btr b01 b2 b01.size
    have hX_2 := hX_1.below b2 hX_1.lt
    clear hX_1
    have c_hX0 := hX_2.cell 0
    have c_hX1 := hX_2.cell 1
    have c_hX2 := hX_2.cell 2
    have c_hX3 := hX_2.cell 3
    have c_hX4 := hX_2.cell 4
    have c_hX5 := hX_2.cell 5
    have c_hX6 := hX_2.cell 6
    have c_hX7 := hX_2.cell 7
    have c_hX8 := hX_2.cell 8
    have c_hX9 := hX_2.cell 9
    have c_hX10 := hX_2.cell 10
    go_wp2_with fail
    go_ret
    exact ⟨rfl, b02⟩
  obtain ⟨hfw, hc60, hr12, hd400⟩ := fewAt_of hr
  have hfa := fewA_of hfw hrm
  have hn12 : n ≤ 12 := by have := hp.len; omega
  have HS := Lib.hid hfa.2
  have hn1c : n1 ≤ 60 := by have := hcm.1; omega
  have hn2c : n2 ≤ 12 := by have := hrw.len; omega
  obtain ⟨ra, hra⟩ : ∃ x, rightAt (⟨o, path, nx, md, pf, at_, ha, gs, ga, comms, raws⟩ : At) = x := ⟨_, rfl⟩
  obtain ⟨kb, hkb⟩ : ∃ x, knownA kind = x := ⟨_, rfl⟩
  obtain ⟨kf, hkf⟩ : ∃ x, flagsA kind = x := ⟨_, rfl⟩
  obtain ⟨nb, hnb⟩ : ∃ x, nextA ad = x := ⟨_, rfl⟩
  have ekf : (kf != 0) = kb := by rw [← hkb, ← hkf]; unfold knownA; by_cases h : flagsA kind = 0 <;> simp [h]
  have had : 0 ≤ ad ∧ ad ≤ 4294967295 := by simpa [Lit.wf, IntKind.min, IntKind.max, IntKind.signed, IntKind.bits] using wa
  have HR1 := Lib.hid (show ∀ w', DL rSeg 2 w' (Lo w') A n path → DL rRaw 3 w' (Lo w') A2 n2 raws → LookTab w' → Calls Tryd.prog 48 #[.agg #[.int .i64 o, .slice A n c, .int .u32 nx, .int .i64 md, .int .i64 pf, .bool at_, .bool ha, .int .u32 gs, .int .u32 ga, .slice A1 n1 c1, .slice A2 n2 c2]] w' fun en w'' => en = .returned (.bool ra) ∧ Below w'.heap.size w' w'' from fun w' h1 h2 h3 => by rw [← hra]; exact attRight o A n c path nx md pf at_ ha gs ga A1 n1 c1 comms A2 n2 c2 raws w' h1 hcm.1 h2 (by omega) (by omega) h3)
  have HR2 := Lib.hid (show ∀ w', DL rSeg 2 w' (Lo w') A n path → DL rRaw 3 w' (Lo w') A2 n2 raws → Calls Tryd.prog 49 #[.agg #[.int .i64 o, .slice A n c, .int .u32 nx, .int .i64 md, .int .i64 pf, .bool at_, .bool ha, .int .u32 gs, .int .u32 ga, .slice A1 n1 c1, .slice A2 n2 c2]] w' fun en w'' => en = .returned (.bool ra) ∧ Below w'.heap.size w' w'' from fun w' h1 h2 => by rw [← hra]; exact refRight04 o A n c path nx md pf at_ ha gs ga A1 n1 c1 comms A2 n2 c2 raws w' h1 hcm.1 h2 (by omega) (by omega))
  have HK1 := Lib.hid (show ∀ w', LookTab w' → Calls Tryd.prog 50 #[.int .i64 kind] w' fun en w'' => en = .returned (.bool kb) ∧ Below w'.heap.size w' w'' from fun w' h => by rw [← hkb]; exact (attKnown kind w' wk h).mono fun e w'' hx => ⟨hx.1, by rw [← hx.2]; exact Below.refl _ _⟩)
  have HK2 := Lib.hid (show ∀ w', Calls Tryd.prog 51 #[.int .i64 kind] w' fun en w'' => en = .returned (.int .i64 kf) ∧ Below w'.heap.size w' w'' from fun w' => by rw [← hkf]; exact (refFlags04 kind w').mono fun e w'' hx => ⟨hx.1, by rw [← hx.2]; exact Below.refl _ _⟩)
  have HN1 := Lib.hid (show ∀ w', Calls Tryd.prog 52 #[.int .u32 ad] w' fun en w'' => en = .returned (.bool nb) ∧ Below w'.heap.size w' w'' from fun w' => by rw [← hnb]; exact (attNext ad w' had.1 (by omega)).mono fun e w'' hx => ⟨hx.1, by rw [← hx.2]; exact Below.refl _ _⟩)
  have HN2 := Lib.hid (show ∀ w', Calls Tryd.prog 53 #[.int .u32 ad] w' fun en w'' => en = .returned (.bool nb) ∧ Below w'.heap.size w' w'' from fun w' => by rw [← hnb]; exact (refNext04 ad w' had.1 (by omega)).mono fun e w'' hx => ⟨hx.1, by rw [← hx.2]; exact Below.refl _ _⟩)
  have HZS := Lib.hid (show ∀ w', Calls Tryd.prog 54 #[.agg #[.int .i64 0, .slice none 0 0, .int .u32 0, .int .i64 (-1), .int .i64 (-1), .bool false, .bool false, .int .u32 0, .int .u32 0, .slice none 0 0, .slice none 0 0], .agg #[.int .i64 0, .slice none 0 0, .int .u32 0, .int .i64 (-1), .int .i64 (-1), .bool false, .bool false, .int .u32 0, .int .u32 0, .slice none 0 0, .slice none 0 0]] w' fun en w'' => en = .returned (.bool true) ∧ Below w'.heap.size w' w'' from fun w' => by
    have e : sameAt zeroAt zeroAt = true := sameAt_iff.2 rfl
    have := refSame04 0 none 0 0 [] 0 (-1) (-1) false false 0 0 none 0 0 [] none 0 0 [] 0 none 0 0 [] 0 (-1) (-1) false false 0 0 none 0 0 [] none 0 0 [] w' DL.none_ NF.none_ DL.none_ DL.none_ NF.none_ DL.none_ (by decide) (Lib.hid (by decide)) (by decide) (by decide) (Lib.hid (fun x h => by cases h))
    rw [show (sameAt ⟨0, [], 0, -1, -1, false, false, 0, 0, [], []⟩ ⟨0, [], 0, -1, -1, false, false, 0, 0, [], []⟩) = true from e] at this
    exact this)
  have HZ1 := Lib.hid (show ∀ w', Calls Tryd.prog 55 #[] w' fun en w'' => en = .returned (.agg #[.int .i64 0, .slice none 0 0, .int .u32 0, .int .i64 (-1), .int .i64 (-1), .bool false, .bool false, .int .u32 0, .int .u32 0, .slice none 0 0, .slice none 0 0]) ∧ Below w'.heap.size w' w'' from attZero)
  have HZ2 := Lib.hid (show ∀ w', Calls Tryd.prog 56 #[] w' fun en w'' => en = .returned (.agg #[.int .i64 0, .slice none 0 0, .int .u32 0, .int .i64 (-1), .int .i64 (-1), .bool false, .bool false, .int .u32 0, .int .u32 0, .slice none 0 0, .slice none 0 0]) ∧ Below w'.heap.size w' w'' from refZero04)
  have HEKF := Lib.hid ekf
  have e1 : (ra == ra) = true := by simp
  have e2 : (kb == kb) = true := by simp
  have e3 : (nb == nb) = true := by simp
  have e4 : (kb == (kf != 0)) = true := by rw [ekf]; simp
  clear hra hkb hkf hnb had hr hrm hfw hc60 hr12 hd400 hfa hn12 hn1c hn2c HS hwf wk wa
  obtain ⟨W, hW, hX, b0⟩ := box1c w #[.int .i64 o, .slice A n c, .int .u32 nx, .int .i64 md, .int .i64 pf, .bool at_, .bool ha, .int .u32 gs, .int .u32 ga, .slice A1 n1 c1, .slice A2 n2 c2] 54
  go_enter Tryd.func11, Tryd.ntmps11
  go_upto_region 1 with fail
  try rw [hW]
  obtain ⟨q, hq⟩ : ∃ q, w.heap.size = q := ⟨_, rfl⟩
  try rw [hq]
  rw [hq] at hX
  clear hW hq
  have c_hX0 := hX.cell 0
  have c_hX1 := hX.cell 1
  have c_hX2 := hX.cell 2
  have c_hX3 := hX.cell 3
  have c_hX4 := hX.cell 4
  have c_hX5 := hX.cell 5
  have c_hX6 := hX.cell 6
  have c_hX7 := hX.cell 7
  have c_hX8 := hX.cell 8
  have c_hX9 := hX.cell 9
  have c_hX10 := hX.cell 10
  go_wp2_with fail
  refine (HFW.out _ (hp.segB4 b0) (hrw.rawB4 b0)).mono ?_
  rintro _ w1 ⟨rfl, b1⟩
  clear c_hX0 c_hX1 c_hX2 c_hX3 c_hX4 c_hX5 c_hX6 c_hX7 c_hX8 c_hX9 c_hX10
  have b01 := btr b0 b1 b0.size
  have hX_1 := hX.below b1 hX.lt
  have c_hX0 := hX_1.cell 0
  have c_hX1 := hX_1.cell 1
  have c_hX2 := hX_1.cell 2
  have c_hX3 := hX_1.cell 3
  have c_hX4 := hX_1.cell 4
  have c_hX5 := hX_1.cell 5
  have c_hX6 := hX_1.cell 6
  have c_hX7 := hX_1.cell 7
  have c_hX8 := hX_1.cell 8
  have c_hX9 := hX_1.cell 9
  have c_hX10 := hX_1.cell 10
  go_upto_region 3 with fail
  have lt_hX := hX_1.lt
  refine wp_region_held_drew (S := (fun w' => Below w1.heap.size w1 w' ∧ ∀ b o, b < w1.heap.size → w'.cell? ⟨b, o, none⟩ = w1.cell? ⟨b, o, none⟩)) (by kernel_rfl) ?_ (fun hHeld => ?_)
  · (first | exact heldB_keep b12 hHeld | exact heldB_keep b11 hHeld | exact heldB_keep b10 hHeld | exact heldB_keep b9 hHeld | exact heldB_keep b8 hHeld | exact heldB_keep b7 hHeld | exact heldB_keep b6 hHeld | exact heldB_keep b5 hHeld | exact heldB_keep b4 hHeld | exact heldB_keep b3 hHeld | exact hHeld | exact heldB_refl _)
  refine wpAnyH_take (i := 0) (v := ?q1v0) rfl (by kernel_rfl) (by kernel_rfl) (by kernel_rfl) (by intro _ _ _ h; exact h) (Or.inl ⟨by rfl, ?q1hy0⟩) (by assumption) ?q1rest0
  case q1hy0 => (intro w hSw; (try dsimp only at hSw); go_simp; try with_reducible rfl)
  try simp only [Act.put, List.getElem_toArray, List.getElem_cons_succ, List.getElem_cons_zero, List.setIfInBounds_toArray, List.set_cons_zero, List.set_cons_succ]
  refine wpAnyH_take (i := 2) (v := ?q1v2) rfl (by kernel_rfl) (by kernel_rfl) (by kernel_rfl) (by intro _ _ _ h; exact h) (Or.inl ⟨by rfl, ?q1hy2⟩) (by assumption) ?q1rest2
  case q1hy2 => (intro w hSw; (try dsimp only at hSw); go_simp; try with_reducible rfl)
  try simp only [Act.put, List.getElem_toArray, List.getElem_cons_succ, List.getElem_cons_zero, List.setIfInBounds_toArray, List.set_cons_zero, List.set_cons_succ]
  refine wpAnyH_ready (rs := [1]) (by kernel_rfl) (by simp) ?_
  refine AllReadyH.cons rfl (fun K hK => ?_) AllReadyH.nil
  go_simp
  go_wp2_with (go_at_call 48; refine (HR1.out _ (hp.segB4 (btr b01 hHeld.1 b01.size)) (hrw.rawB4 (btr b01 hHeld.1 b01.size)) (ht.call (btr b01 hHeld.1 b01.size))).mono ?_; rintro _ w3 ⟨rfl, b3⟩)
  refine hK.out _ _ ?_ (fun hHeld => ?_)
  · try dsimp only
    (first | exact heldB_keep b12 hHeld | exact heldB_keep b11 hHeld | exact heldB_keep b10 hHeld | exact heldB_keep b9 hHeld | exact heldB_keep b8 hHeld | exact heldB_keep b7 hHeld | exact heldB_keep b6 hHeld | exact heldB_keep b5 hHeld | exact heldB_keep b4 hHeld | exact heldB_keep b3 hHeld | exact hHeld | exact heldB_refl _)
  clear hK K
  refine wpAnyH_ready (rs := [3]) (by kernel_rfl) (by simp) ?_
  refine AllReadyH.cons rfl (fun K hK => ?_) AllReadyH.nil
  go_simp
  go_wp2_with (go_at_call 49; refine (HR2.out _ (hp.segB4 (btr b01 hHeld.1 b01.size)) (hrw.rawB4 (btr b01 hHeld.1 b01.size))).mono ?_; rintro _ w4 ⟨rfl, b4⟩)
  refine hK.out _ _ ?_ (fun hHeld => ?_)
  · try dsimp only
    (first | exact heldB_keep b12 hHeld | exact heldB_keep b11 hHeld | exact heldB_keep b10 hHeld | exact heldB_keep b9 hHeld | exact heldB_keep b8 hHeld | exact heldB_keep b7 hHeld | exact heldB_keep b6 hHeld | exact heldB_keep b5 hHeld | exact heldB_keep b4 hHeld | exact heldB_keep b3 hHeld | exact hHeld | exact heldB_refl _)
  clear hK K
  refine wpAnyH_take (i := 4) (v := ?q1v4) rfl (by kernel_rfl) (by kernel_rfl) (by kernel_rfl) (by intro _ _ _ h; exact h) (Or.inl ⟨by rfl, ?q1hy4⟩) (by assumption) ?q1rest4
  case q1hy4 => (intro w hSw; (try dsimp only at hSw); go_simp; try with_reducible rfl)
  try simp only [Act.put, List.getElem_toArray, List.getElem_cons_succ, List.getElem_cons_zero, List.setIfInBounds_toArray, List.set_cons_zero, List.set_cons_succ]
  refine wpAnyH_take (i := 5) (v := ?q1v5) rfl (by kernel_rfl) (by kernel_rfl) (by kernel_rfl) (by intro _ _ _ h; exact h) (Or.inl ⟨by rfl, ?q1hy5⟩) (by assumption) ?q1rest5
  case q1hy5 => (intro w hSw; (try dsimp only at hSw); go_simp; try with_reducible rfl)
  try simp only [Act.put, List.getElem_toArray, List.getElem_cons_succ, List.getElem_cons_zero, List.setIfInBounds_toArray, List.set_cons_zero, List.set_cons_succ]
  refine wpAnyH_take (i := 6) (v := ?q1v6) rfl (by kernel_rfl) (by kernel_rfl) (by kernel_rfl) (by intro _ _ _ h; exact h) (Or.inl ⟨by rfl, ?q1hy6⟩) (by assumption) ?q1rest6
  case q1hy6 => (intro w hSw; (try dsimp only at hSw); go_simp; try with_reducible rfl)
  try simp only [Act.put, List.getElem_toArray, List.getElem_cons_succ, List.getElem_cons_zero, List.setIfInBounds_toArray, List.set_cons_zero, List.set_cons_succ]
  refine wpAnyH_take (i := 8) (v := ?q1v8) rfl (by kernel_rfl) (by kernel_rfl) (by kernel_rfl) (by intro _ _ _ h; exact h) (Or.inl ⟨by rfl, ?q1hy8⟩) (by assumption) ?q1rest8
  case q1hy8 => (intro w hSw; (try dsimp only at hSw); go_simp; try with_reducible rfl)
  try simp only [Act.put, List.getElem_toArray, List.getElem_cons_succ, List.getElem_cons_zero, List.setIfInBounds_toArray, List.set_cons_zero, List.set_cons_succ]
  refine wpAnyH_ready (rs := [7]) (by kernel_rfl) (by simp) ?_
  refine AllReadyH.cons rfl (fun K hK => ?_) AllReadyH.nil
  go_simp
  go_wp2_with (go_at_call 50; refine (HK1.out _ (ht.call (btr b01 hHeld.1 b01.size))).mono ?_; rintro _ w5 ⟨rfl, b5⟩)
  refine hK.out _ _ ?_ (fun hHeld => ?_)
  · try dsimp only
    (first | exact heldB_keep b12 hHeld | exact heldB_keep b11 hHeld | exact heldB_keep b10 hHeld | exact heldB_keep b9 hHeld | exact heldB_keep b8 hHeld | exact heldB_keep b7 hHeld | exact heldB_keep b6 hHeld | exact heldB_keep b5 hHeld | exact heldB_keep b4 hHeld | exact heldB_keep b3 hHeld | exact hHeld | exact heldB_refl _)
  clear hK K
  refine wpAnyH_ready (rs := [9]) (by kernel_rfl) (by simp) ?_
  refine AllReadyH.cons rfl (fun K hK => ?_) AllReadyH.nil
  go_simp
  go_wp2_with (go_at_call 51; refine (HK2.out _).mono ?_; rintro _ w6 ⟨rfl, b6⟩)
  refine hK.out _ _ ?_ (fun hHeld => ?_)
  · try dsimp only
    (first | exact heldB_keep b12 hHeld | exact heldB_keep b11 hHeld | exact heldB_keep b10 hHeld | exact heldB_keep b9 hHeld | exact heldB_keep b8 hHeld | exact heldB_keep b7 hHeld | exact heldB_keep b6 hHeld | exact heldB_keep b5 hHeld | exact heldB_keep b4 hHeld | exact heldB_keep b3 hHeld | exact hHeld | exact heldB_refl _)
  clear hK K
  refine wpAnyH_take (i := 10) (v := ?q1v10) rfl (by kernel_rfl) (by kernel_rfl) (by kernel_rfl) (by intro _ _ _ h; exact h) (Or.inl ⟨by rfl, ?q1hy10⟩) (by assumption) ?q1rest10
  case q1hy10 => (intro w hSw; (try dsimp only at hSw); go_simp; try with_reducible rfl)
  try simp only [Act.put, List.getElem_toArray, List.getElem_cons_succ, List.getElem_cons_zero, List.setIfInBounds_toArray, List.set_cons_zero, List.set_cons_succ]
  refine wpAnyH_take (i := 11) (v := ?q1v11) rfl (by kernel_rfl) (by kernel_rfl) (by kernel_rfl) (by intro _ _ _ h; exact h) (Or.inl ⟨by rfl, ?q1hy11⟩) (by assumption) ?q1rest11
  case q1hy11 => (intro w hSw; (try dsimp only at hSw); go_simp; try with_reducible rfl)
  try simp only [Act.put, List.getElem_toArray, List.getElem_cons_succ, List.getElem_cons_zero, List.setIfInBounds_toArray, List.set_cons_zero, List.set_cons_succ]
  refine wpAnyH_take (i := 12) (v := ?q1v12) rfl (by kernel_rfl) (by kernel_rfl) (by kernel_rfl) (by intro _ _ _ h; exact h) (Or.inl ⟨by rfl, ?q1hy12⟩) (by assumption) ?q1rest12
  case q1hy12 => (intro w hSw; (try dsimp only at hSw); go_simp; try with_reducible rfl)
  try simp only [Act.put, List.getElem_toArray, List.getElem_cons_succ, List.getElem_cons_zero, List.setIfInBounds_toArray, List.set_cons_zero, List.set_cons_succ]
  refine wpAnyH_take (i := 13) (v := ?q1v13) rfl (by kernel_rfl) (by kernel_rfl) (by kernel_rfl) (by intro _ _ _ h; exact h) (Or.inl ⟨by rfl, ?q1hy13⟩) (by assumption) ?q1rest13
  case q1hy13 => (intro w hSw; (try dsimp only at hSw); go_simp; try with_reducible rfl)
  try simp only [Act.put, List.getElem_toArray, List.getElem_cons_succ, List.getElem_cons_zero, List.setIfInBounds_toArray, List.set_cons_zero, List.set_cons_succ]
  refine wpAnyH_take (i := 14) (v := ?q1v14) rfl (by kernel_rfl) (by kernel_rfl) (by kernel_rfl) (by intro _ _ _ h; exact h) (Or.inl ⟨by rfl, ?q1hy14⟩) (by assumption) ?q1rest14
  case q1hy14 => (intro w hSw; (try dsimp only at hSw); go_simp; try with_reducible rfl)
  try simp only [Act.put, List.getElem_toArray, List.getElem_cons_succ, List.getElem_cons_zero, List.setIfInBounds_toArray, List.set_cons_zero, List.set_cons_succ]
  refine wpAnyH_take (i := 16) (v := ?q1v16) rfl (by kernel_rfl) (by kernel_rfl) (by kernel_rfl) (by intro _ _ _ h; exact h) (Or.inl ⟨by rfl, ?q1hy16⟩) (by assumption) ?q1rest16
  case q1hy16 => (intro w hSw; (try dsimp only at hSw); go_simp; try with_reducible rfl)
  try simp only [Act.put, List.getElem_toArray, List.getElem_cons_succ, List.getElem_cons_zero, List.setIfInBounds_toArray, List.set_cons_zero, List.set_cons_succ]
  refine wpAnyH_ready (rs := [15]) (by kernel_rfl) (by simp) ?_
  refine AllReadyH.cons rfl (fun K hK => ?_) AllReadyH.nil
  go_simp
  go_wp2_with (go_at_call 52; refine (HN1.out _).mono ?_; rintro _ w7 ⟨rfl, b7⟩)
  refine hK.out _ _ ?_ (fun hHeld => ?_)
  · try dsimp only
    (first | exact heldB_keep b12 hHeld | exact heldB_keep b11 hHeld | exact heldB_keep b10 hHeld | exact heldB_keep b9 hHeld | exact heldB_keep b8 hHeld | exact heldB_keep b7 hHeld | exact heldB_keep b6 hHeld | exact heldB_keep b5 hHeld | exact heldB_keep b4 hHeld | exact heldB_keep b3 hHeld | exact hHeld | exact heldB_refl _)
  clear hK K
  refine wpAnyH_ready (rs := [17]) (by kernel_rfl) (by simp) ?_
  refine AllReadyH.cons rfl (fun K hK => ?_) AllReadyH.nil
  go_simp
  go_wp2_with (go_at_call 53; refine (HN2.out _).mono ?_; rintro _ w8 ⟨rfl, b8⟩)
  refine hK.out _ _ ?_ (fun hHeld => ?_)
  · try dsimp only
    (first | exact heldB_keep b12 hHeld | exact heldB_keep b11 hHeld | exact heldB_keep b10 hHeld | exact heldB_keep b9 hHeld | exact heldB_keep b8 hHeld | exact heldB_keep b7 hHeld | exact heldB_keep b6 hHeld | exact heldB_keep b5 hHeld | exact heldB_keep b4 hHeld | exact heldB_keep b3 hHeld | exact hHeld | exact heldB_refl _)
  clear hK K
  refine wpAnyH_take (i := 18) (v := ?q1v18) rfl (by kernel_rfl) (by kernel_rfl) (by kernel_rfl) (by intro _ _ _ h; exact h) (Or.inl ⟨by rfl, ?q1hy18⟩) (by assumption) ?q1rest18
  case q1hy18 => (intro w hSw; (try dsimp only at hSw); go_simp; try with_reducible rfl)
  try simp only [Act.put, List.getElem_toArray, List.getElem_cons_succ, List.getElem_cons_zero, List.setIfInBounds_toArray, List.set_cons_zero, List.set_cons_succ]
  refine wpAnyH_take (i := 19) (v := ?q1v19) rfl (by kernel_rfl) (by kernel_rfl) (by kernel_rfl) (by intro _ _ _ h; exact h) (Or.inl ⟨by rfl, ?q1hy19⟩) (by assumption) ?q1rest19
  case q1hy19 => (intro w hSw; (try dsimp only at hSw); go_simp; try with_reducible rfl)
  try simp only [Act.put, List.getElem_toArray, List.getElem_cons_succ, List.getElem_cons_zero, List.setIfInBounds_toArray, List.set_cons_zero, List.set_cons_succ]
  refine wpAnyH_take (i := 20) (v := ?q1v20) rfl (by kernel_rfl) (by kernel_rfl) (by kernel_rfl) (by intro _ _ _ h; exact h) (Or.inl ⟨by rfl, ?q1hy20⟩) (by assumption) ?q1rest20
  case q1hy20 => (intro w hSw; (try dsimp only at hSw); go_simp; try with_reducible rfl)
  try simp only [Act.put, List.getElem_toArray, List.getElem_cons_succ, List.getElem_cons_zero, List.setIfInBounds_toArray, List.set_cons_zero, List.set_cons_succ]
  refine wpAnyH_ready (rs := [21]) (by kernel_rfl) (by simp) ?_
  refine AllReadyH.cons rfl (fun K hK => ?_) AllReadyH.nil
  go_simp
  go_wp2_with (go_at_call 55; refine (HZ1.out _).mono ?_; rintro _ w9 ⟨rfl, b9⟩)
  refine hK.out _ _ ?_ (fun hHeld => ?_)
  · try dsimp only
    (first | exact heldB_keep b12 hHeld | exact heldB_keep b11 hHeld | exact heldB_keep b10 hHeld | exact heldB_keep b9 hHeld | exact heldB_keep b8 hHeld | exact heldB_keep b7 hHeld | exact heldB_keep b6 hHeld | exact heldB_keep b5 hHeld | exact heldB_keep b4 hHeld | exact heldB_keep b3 hHeld | exact hHeld | exact heldB_refl _)
  clear hK K
  refine wpAnyH_ready (rs := [22]) (by kernel_rfl) (by simp) ?_
  refine AllReadyH.cons rfl (fun K hK => ?_) AllReadyH.nil
  go_simp
  go_wp2_with (go_at_call 56; refine (HZ2.out _).mono ?_; rintro _ w10 ⟨rfl, b10⟩)
  refine hK.out _ _ ?_ (fun hHeld => ?_)
  · try dsimp only
    (first | exact heldB_keep b12 hHeld | exact heldB_keep b11 hHeld | exact heldB_keep b10 hHeld | exact heldB_keep b9 hHeld | exact heldB_keep b8 hHeld | exact heldB_keep b7 hHeld | exact heldB_keep b6 hHeld | exact heldB_keep b5 hHeld | exact heldB_keep b4 hHeld | exact heldB_keep b3 hHeld | exact hHeld | exact heldB_refl _)
  clear hK K
  refine wpAnyH_ready (rs := [23]) (by kernel_rfl) (by simp) ?_
  refine AllReadyH.cons rfl (fun K hK => ?_) AllReadyH.nil
  go_simp
  go_wp2_with (go_at_call 54; refine (HZS.out _).mono ?_; rintro _ w11 ⟨rfl, b11⟩)
  refine hK.out _ _ ?_ (fun hHeld => ?_)
  · try dsimp only
    (first | exact heldB_keep b12 hHeld | exact heldB_keep b11 hHeld | exact heldB_keep b10 hHeld | exact heldB_keep b9 hHeld | exact heldB_keep b8 hHeld | exact heldB_keep b7 hHeld | exact heldB_keep b6 hHeld | exact heldB_keep b5 hHeld | exact heldB_keep b4 hHeld | exact heldB_keep b3 hHeld | exact hHeld | exact heldB_refl _)
  clear hK K
  refine wpAnyH_take (i := 24) (v := ?q1v24) rfl (by kernel_rfl) (by kernel_rfl) (by kernel_rfl) (by intro _ _ _ h; exact h) (Or.inl ⟨by rfl, ?q1hy24⟩) (by assumption) ?q1rest24
  case q1hy24 => (intro w hSw; (try dsimp only at hSw); go_simp; try with_reducible rfl)
  try simp only [Act.put, List.getElem_toArray, List.getElem_cons_succ, List.getElem_cons_zero, List.setIfInBounds_toArray, List.set_cons_zero, List.set_cons_succ]
  refine wpAnyH_take (i := 25) (v := ?q1v25) rfl (by kernel_rfl) (by kernel_rfl) (by kernel_rfl) (by intro _ _ _ h; exact h) (Or.inl ⟨by rfl, ?q1hy25⟩) (by assumption) ?q1rest25
  case q1hy25 => (intro w hSw; (try dsimp only at hSw); go_simp; try with_reducible rfl)
  try simp only [Act.put, List.getElem_toArray, List.getElem_cons_succ, List.getElem_cons_zero, List.setIfInBounds_toArray, List.set_cons_zero, List.set_cons_succ]
  refine wpAnyH_ready (rs := [26]) (by kernel_rfl) (by simp) ?_
  refine AllReadyH.cons rfl (fun K hK => ?_) AllReadyH.nil
  go_simp
  go_wp2_with (go_at_call 47; refine (HAW.out _ (ht.call (btr b01 hHeld.1 b01.size))).mono ?_; rintro _ w12 ⟨rfl, b12⟩)
  refine hK.out _ _ ?_ (fun hHeld => ?_)
  · try dsimp only
    (first | exact heldB_keep b12 hHeld | exact heldB_keep b11 hHeld | exact heldB_keep b10 hHeld | exact heldB_keep b9 hHeld | exact heldB_keep b8 hHeld | exact heldB_keep b7 hHeld | exact heldB_keep b6 hHeld | exact heldB_keep b5 hHeld | exact heldB_keep b4 hHeld | exact heldB_keep b3 hHeld | exact hHeld | exact heldB_refl _)
  clear hK K
  refine wpAnyH_take (i := 27) (v := ?q1v27) rfl (by kernel_rfl) (by kernel_rfl) (by kernel_rfl) (by intro _ _ _ h; exact h) (Or.inl ⟨by rfl, ?q1hy27⟩) (by assumption) ?q1rest27
  case q1hy27 => (intro w hSw; (try dsimp only at hSw); go_simp; try with_reducible rfl)
  try simp only [Act.put, List.getElem_toArray, List.getElem_cons_succ, List.getElem_cons_zero, List.setIfInBounds_toArray, List.set_cons_zero, List.set_cons_succ]
  refine wpAnyH_ready (rs := [28]) (by kernel_rfl) (by simp) ?_
  refine AllReadyH.cons rfl (fun K hK => ?_) AllReadyH.nil
  go_simp
  go_wp2_with (fail)
  refine hK.out _ _ ?_ (fun hHeld => ?_)
  · try dsimp only
    (first | exact heldB_keep b12 hHeld | exact heldB_keep b11 hHeld | exact heldB_keep b10 hHeld | exact heldB_keep b9 hHeld | exact heldB_keep b8 hHeld | exact heldB_keep b7 hHeld | exact heldB_keep b6 hHeld | exact heldB_keep b5 hHeld | exact heldB_keep b4 hHeld | exact heldB_keep b3 hHeld | exact hHeld | exact heldB_refl _)
  clear hK K
  refine wpAnyH_done (by kernel_rfl) ?_ _
  clear lt_hX
  have bh12 := hHeld.1
  clear hHeld
  clear c_hX0 c_hX1 c_hX2 c_hX3 c_hX4 c_hX5 c_hX6 c_hX7 c_hX8 c_hX9 c_hX10
  have b0h12 := btr b01 bh12 b01.size
  have hX_h12 := hX_1.below bh12 hX_1.lt
  clear hX_1
  have c_hX0 := hX_h12.cell 0
  have c_hX1 := hX_h12.cell 1
  have c_hX2 := hX_h12.cell 2
  have c_hX3 := hX_h12.cell 3
  have c_hX4 := hX_h12.cell 4
  have c_hX5 := hX_h12.cell 5
  have c_hX6 := hX_h12.cell 6
  have c_hX7 := hX_h12.cell 7
  have c_hX8 := hX_h12.cell 8
  have c_hX9 := hX_h12.cell 9
  have c_hX10 := hX_h12.cell 10
  go_wp2_with fail
  go_ret
  exact ⟨rfl, b0h12⟩
set_option maxHeartbeats 16000000 in
set_option maxRecDepth 100000 in
theorem lawAttrsSame (w : World) (o : Int) (A : Option Addr) (n : Nat) (c : Nat) (path : List Seg) (nx : Int) (md : Int) (pf : Int) (at_ : Bool) (ha : Bool) (gs : Int) (ga : Int) (A1 : Option Addr) (n1 : Nat) (c1 : Nat) (comms : List Int) (A2 : Option Addr) (n2 : Nat) (c2 : Nat) (raws : List RawV) (hp : DL rSeg 2 w (Lo w) A n path) (hcm : NF w (Lo w) A1 n1 comms) (hrw : DL rRaw 3 w (Lo w) A2 n2 raws) (hwf : 0 ≤ nx ∧ nx < 4294967296 ∧ 0 ≤ gs ∧ gs < 4294967296 ∧ 0 ≤ ga ∧ ga < 4294967296) (hrm : ∀ x ∈ path, x.2.length ≤ big32) (o' : Int) (A' : Option Addr) (n' : Nat) (c' : Nat) (path' : List Seg) (nx' : Int) (md' : Int) (pf' : Int) (at_' : Bool) (ha' : Bool) (gs' : Int) (ga' : Int) (A1' : Option Addr) (n1' : Nat) (c1' : Nat) (comms' : List Int) (A2' : Option Addr) (n2' : Nat) (c2' : Nat) (raws' : List RawV) (hp' : DL rSeg 2 w (Lo w) A' n' path') (hcm' : NF w (Lo w) A1' n1' comms') (hrw' : DL rRaw 3 w (Lo w) A2' n2' raws') (hwf' : 0 ≤ nx' ∧ nx' < 4294967296 ∧ 0 ≤ gs' ∧ gs' < 4294967296 ∧ 0 ≤ ga' ∧ ga' < 4294967296) (hrm' : ∀ x ∈ path', x.2.length ≤ big32) (ht : LookTab w) :
    Calls Tryd.prog 12 #[.agg #[.int .i64 o, .slice A n c, .int .u32 nx, .int .i64 md, .int .i64 pf, .bool at_, .bool ha, .int .u32 gs, .int .u32 ga, .slice A1 n1 c1, .slice A2 n2 c2], .agg #[.int .i64 o', .slice A' n' c', .int .u32 nx', .int .i64 md', .int .i64 pf', .bool at_', .bool ha', .int .u32 gs', .int .u32 ga', .slice A1' n1' c1', .slice A2' n2' c2']] w fun en w' => en = .returned (.bool true) ∧ Below w.heap.size w w' := by
  obtain ⟨r, hr⟩ : ∃ r, fewAt path comms raws = r := ⟨_, rfl⟩
  have HFW := Lib.hid (show ∀ w', DL rSeg 2 w' (Lo w') A n path → DL rRaw 3 w' (Lo w') A2 n2 raws → Calls Tryd.prog 46 #[.agg #[.int .i64 o, .slice A n c, .int .u32 nx, .int .i64 md, .int .i64 pf, .bool at_, .bool ha, .int .u32 gs, .int .u32 ga, .slice A1 n1 c1, .slice A2 n2 c2]] w' fun en w'' => en = .returned (.bool r) ∧ Below w'.heap.size w' w'' from fun w' h1 h2 => by rw [← hr]; exact law04Few o A n c path nx md pf at_ ha gs ga A1 n1 c1 comms A2 n2 c2 raws w' h1 hcm.1 h2)
  obtain ⟨r', hr'⟩ : ∃ r, fewAt path' comms' raws' = r := ⟨_, rfl⟩
  have HFW' := Lib.hid (show ∀ w', DL rSeg 2 w' (Lo w') A' n' path' → DL rRaw 3 w' (Lo w') A2' n2' raws' → Calls Tryd.prog 46 #[.agg #[.int .i64 o', .slice A' n' c', .int .u32 nx', .int .i64 md', .int .i64 pf', .bool at_', .bool ha', .int .u32 gs', .int .u32 ga', .slice A1' n1' c1', .slice A2' n2' c2']] w' fun en w'' => en = .returned (.bool r') ∧ Below w'.heap.size w' w'' from fun w' h1 h2 => by rw [← hr']; exact law04Few o' A' n' c' path' nx' md' pf' at_' ha' gs' ga' A1' n1' c1' comms' A2' n2' c2' raws' w' h1 hcm'.1 h2)
  have HAW := Lib.hid (show ∀ w', LookTab w' → Calls Tryd.prog 47 #[] w' fun en w'' => en = .returned (.bool true) ∧ Below w'.heap.size w' w'' from fun w' h => awake04 w' h (lt_of_cell (h 0 (by omega)).1))
  cases r
  case false =>
    clear hr hrm hr' hrm'
    obtain ⟨W, hW, hX, hY, b0⟩ := boxes2 w #[.int .i64 o, .slice A n c, .int .u32 nx, .int .i64 md, .int .i64 pf, .bool at_, .bool ha, .int .u32 gs, .int .u32 ga, .slice A1 n1 c1, .slice A2 n2 c2] #[.int .i64 o', .slice A' n' c', .int .u32 nx', .int .i64 md', .int .i64 pf', .bool at_', .bool ha', .int .u32 gs', .int .u32 ga', .slice A1' n1' c1', .slice A2' n2' c2'] 54 54
    go_enter Tryd.func12, Tryd.ntmps12
    go_upto_region 1 with fail
    try rw [hW]
    obtain ⟨q, hq⟩ : ∃ q, w.heap.size = q := ⟨_, rfl⟩
    try rw [hq]
    obtain ⟨q1, hq1⟩ : ∃ x, q + 1 = x := ⟨_, rfl⟩
    try rw [hq1]
    rw [hq] at hX hY
    rw [hq1] at hY
    clear hW hq hq1
    have c_hX0 := hX.cell 0
    have c_hX1 := hX.cell 1
    have c_hX2 := hX.cell 2
    have c_hX3 := hX.cell 3
    have c_hX4 := hX.cell 4
    have c_hX5 := hX.cell 5
    have c_hX6 := hX.cell 6
    have c_hX7 := hX.cell 7
    have c_hX8 := hX.cell 8
    have c_hX9 := hX.cell 9
    have c_hX10 := hX.cell 10
    have c_hY0 := hY.cell 0
    have c_hY1 := hY.cell 1
    have c_hY2 := hY.cell 2
    have c_hY3 := hY.cell 3
    have c_hY4 := hY.cell 4
    have c_hY5 := hY.cell 5
    have c_hY6 := hY.cell 6
    have c_hY7 := hY.cell 7
    have c_hY8 := hY.cell 8
    have c_hY9 := hY.cell 9
    have c_hY10 := hY.cell 10
    go_wp2_with fail
    refine (HFW.out _ (hp.segB4 b0) (hrw.rawB4 b0)).mono ?_
    rintro _ w1 ⟨rfl, b1⟩
    clear c_hX0 c_hX1 c_hX2 c_hX3 c_hX4 c_hX5 c_hX6 c_hX7 c_hX8 c_hX9 c_hX10 c_hY0 c_hY1 c_hY2 c_hY3 c_hY4 c_hY5 c_hY6 c_hY7 c_hY8 c_hY9 c_hY10
    have b01 := btr b0 b1 b0.size
    have hX_1 := hX.below b1 hX.lt
    have hY_1 := hY.below b1 hY.lt
    have c_hX0 := hX_1.cell 0
    have c_hX1 := hX_1.cell 1
    have c_hX2 := hX_1.cell 2
    have c_hX3 := hX_1.cell 3
    have c_hX4 := hX_1.cell 4
    have c_hX5 := hX_1.cell 5
    have c_hX6 := hX_1.cell 6
    have c_hX7 := hX_1.cell 7
    have c_hX8 := hX_1.cell 8
    have c_hX9 := hX_1.cell 9
    have c_hX10 := hX_1.cell 10
    have c_hY0 := hY_1.cell 0
    have c_hY1 := hY_1.cell 1
    have c_hY2 := hY_1.cell 2
    have c_hY3 := hY_1.cell 3
    have c_hY4 := hY_1.cell 4
    have c_hY5 := hY_1.cell 5
    have c_hY6 := hY_1.cell 6
    have c_hY7 := hY_1.cell 7
    have c_hY8 := hY_1.cell 8
    have c_hY9 := hY_1.cell 9
    have c_hY10 := hY_1.cell 10
    go_wp2_with fail
    refine (HAW.out _ (ht.call b01)).mono ?_
    rintro _ w2 ⟨rfl, b2⟩
    clear c_hX0 c_hX1 c_hX2 c_hX3 c_hX4 c_hX5 c_hX6 c_hX7 c_hX8 c_hX9 c_hX10 c_hY0 c_hY1 c_hY2 c_hY3 c_hY4 c_hY5 c_hY6 c_hY7 c_hY8 c_hY9 c_hY10
    have b02 := btr b01 b2 b01.size
    have hX_2 := hX_1.below b2 hX_1.lt
    clear hX_1
    have hY_2 := hY_1.below b2 hY_1.lt
    clear hY_1
    have c_hX0 := hX_2.cell 0
    have c_hX1 := hX_2.cell 1
    have c_hX2 := hX_2.cell 2
    have c_hX3 := hX_2.cell 3
    have c_hX4 := hX_2.cell 4
    have c_hX5 := hX_2.cell 5
    have c_hX6 := hX_2.cell 6
    have c_hX7 := hX_2.cell 7
    have c_hX8 := hX_2.cell 8
    have c_hX9 := hX_2.cell 9
    have c_hX10 := hX_2.cell 10
    have c_hY0 := hY_2.cell 0
    have c_hY1 := hY_2.cell 1
    have c_hY2 := hY_2.cell 2
    have c_hY3 := hY_2.cell 3
    have c_hY4 := hY_2.cell 4
    have c_hY5 := hY_2.cell 5
    have c_hY6 := hY_2.cell 6
    have c_hY7 := hY_2.cell 7
    have c_hY8 := hY_2.cell 8
    have c_hY9 := hY_2.cell 9
    have c_hY10 := hY_2.cell 10
    go_wp2_with fail
    go_ret
    exact ⟨rfl, b02⟩
  cases r'
  case false =>
    clear hr hrm hr' hrm'
    obtain ⟨W, hW, hX, hY, b0⟩ := boxes2 w #[.int .i64 o, .slice A n c, .int .u32 nx, .int .i64 md, .int .i64 pf, .bool at_, .bool ha, .int .u32 gs, .int .u32 ga, .slice A1 n1 c1, .slice A2 n2 c2] #[.int .i64 o', .slice A' n' c', .int .u32 nx', .int .i64 md', .int .i64 pf', .bool at_', .bool ha', .int .u32 gs', .int .u32 ga', .slice A1' n1' c1', .slice A2' n2' c2'] 54 54
    go_enter Tryd.func12, Tryd.ntmps12
    go_upto_region 1 with fail
    try rw [hW]
    obtain ⟨q, hq⟩ : ∃ q, w.heap.size = q := ⟨_, rfl⟩
    try rw [hq]
    obtain ⟨q1, hq1⟩ : ∃ x, q + 1 = x := ⟨_, rfl⟩
    try rw [hq1]
    rw [hq] at hX hY
    rw [hq1] at hY
    clear hW hq hq1
    have c_hX0 := hX.cell 0
    have c_hX1 := hX.cell 1
    have c_hX2 := hX.cell 2
    have c_hX3 := hX.cell 3
    have c_hX4 := hX.cell 4
    have c_hX5 := hX.cell 5
    have c_hX6 := hX.cell 6
    have c_hX7 := hX.cell 7
    have c_hX8 := hX.cell 8
    have c_hX9 := hX.cell 9
    have c_hX10 := hX.cell 10
    have c_hY0 := hY.cell 0
    have c_hY1 := hY.cell 1
    have c_hY2 := hY.cell 2
    have c_hY3 := hY.cell 3
    have c_hY4 := hY.cell 4
    have c_hY5 := hY.cell 5
    have c_hY6 := hY.cell 6
    have c_hY7 := hY.cell 7
    have c_hY8 := hY.cell 8
    have c_hY9 := hY.cell 9
    have c_hY10 := hY.cell 10
    go_wp2_with fail
    refine (HFW.out _ (hp.segB4 b0) (hrw.rawB4 b0)).mono ?_
    rintro _ w1 ⟨rfl, b1⟩
    clear c_hX0 c_hX1 c_hX2 c_hX3 c_hX4 c_hX5 c_hX6 c_hX7 c_hX8 c_hX9 c_hX10 c_hY0 c_hY1 c_hY2 c_hY3 c_hY4 c_hY5 c_hY6 c_hY7 c_hY8 c_hY9 c_hY10
    have b01 := btr b0 b1 b0.size
    have hX_1 := hX.below b1 hX.lt
    have hY_1 := hY.below b1 hY.lt
    have c_hX0 := hX_1.cell 0
    have c_hX1 := hX_1.cell 1
    have c_hX2 := hX_1.cell 2
    have c_hX3 := hX_1.cell 3
    have c_hX4 := hX_1.cell 4
    have c_hX5 := hX_1.cell 5
    have c_hX6 := hX_1.cell 6
    have c_hX7 := hX_1.cell 7
    have c_hX8 := hX_1.cell 8
    have c_hX9 := hX_1.cell 9
    have c_hX10 := hX_1.cell 10
    have c_hY0 := hY_1.cell 0
    have c_hY1 := hY_1.cell 1
    have c_hY2 := hY_1.cell 2
    have c_hY3 := hY_1.cell 3
    have c_hY4 := hY_1.cell 4
    have c_hY5 := hY_1.cell 5
    have c_hY6 := hY_1.cell 6
    have c_hY7 := hY_1.cell 7
    have c_hY8 := hY_1.cell 8
    have c_hY9 := hY_1.cell 9
    have c_hY10 := hY_1.cell 10
    go_wp2_with fail
    refine (HFW'.out _ (hp'.segB4 b01) (hrw'.rawB4 b01)).mono ?_
    rintro _ w2 ⟨rfl, b2⟩
    clear c_hX0 c_hX1 c_hX2 c_hX3 c_hX4 c_hX5 c_hX6 c_hX7 c_hX8 c_hX9 c_hX10 c_hY0 c_hY1 c_hY2 c_hY3 c_hY4 c_hY5 c_hY6 c_hY7 c_hY8 c_hY9 c_hY10
    have b02 := btr b01 b2 b01.size
    have hX_2 := hX_1.below b2 hX_1.lt
    clear hX_1
    have hY_2 := hY_1.below b2 hY_1.lt
    clear hY_1
    have c_hX0 := hX_2.cell 0
    have c_hX1 := hX_2.cell 1
    have c_hX2 := hX_2.cell 2
    have c_hX3 := hX_2.cell 3
    have c_hX4 := hX_2.cell 4
    have c_hX5 := hX_2.cell 5
    have c_hX6 := hX_2.cell 6
    have c_hX7 := hX_2.cell 7
    have c_hX8 := hX_2.cell 8
    have c_hX9 := hX_2.cell 9
    have c_hX10 := hX_2.cell 10
    have c_hY0 := hY_2.cell 0
    have c_hY1 := hY_2.cell 1
    have c_hY2 := hY_2.cell 2
    have c_hY3 := hY_2.cell 3
    have c_hY4 := hY_2.cell 4
    have c_hY5 := hY_2.cell 5
    have c_hY6 := hY_2.cell 6
    have c_hY7 := hY_2.cell 7
    have c_hY8 := hY_2.cell 8
    have c_hY9 := hY_2.cell 9
    have c_hY10 := hY_2.cell 10
    go_wp2_with fail
    refine (HAW.out _ (ht.call b02)).mono ?_
    rintro _ w3 ⟨rfl, b3⟩
    clear c_hX0 c_hX1 c_hX2 c_hX3 c_hX4 c_hX5 c_hX6 c_hX7 c_hX8 c_hX9 c_hX10 c_hY0 c_hY1 c_hY2 c_hY3 c_hY4 c_hY5 c_hY6 c_hY7 c_hY8 c_hY9 c_hY10
    have b03 := btr b02 b3 b02.size
    have hX_3 := hX_2.below b3 hX_2.lt
    clear hX_2
    have hY_3 := hY_2.below b3 hY_2.lt
    clear hY_2
    have c_hX0 := hX_3.cell 0
    have c_hX1 := hX_3.cell 1
    have c_hX2 := hX_3.cell 2
    have c_hX3 := hX_3.cell 3
    have c_hX4 := hX_3.cell 4
    have c_hX5 := hX_3.cell 5
    have c_hX6 := hX_3.cell 6
    have c_hX7 := hX_3.cell 7
    have c_hX8 := hX_3.cell 8
    have c_hX9 := hX_3.cell 9
    have c_hX10 := hX_3.cell 10
    have c_hY0 := hY_3.cell 0
    have c_hY1 := hY_3.cell 1
    have c_hY2 := hY_3.cell 2
    have c_hY3 := hY_3.cell 3
    have c_hY4 := hY_3.cell 4
    have c_hY5 := hY_3.cell 5
    have c_hY6 := hY_3.cell 6
    have c_hY7 := hY_3.cell 7
    have c_hY8 := hY_3.cell 8
    have c_hY9 := hY_3.cell 9
    have c_hY10 := hY_3.cell 10
    go_wp2_with fail
    go_ret
    exact ⟨rfl, b03⟩
  obtain ⟨hfw, hc60, hr12, hd400⟩ := fewAt_of hr
  have hfa := fewA_of hfw hrm
  have hn12 : n ≤ 12 := by have := hp.len; omega
  have HS := Lib.hid hfa.2
  have hn1c : n1 ≤ 60 := by have := hcm.1; omega
  have hn2c : n2 ≤ 12 := by have := hrw.len; omega
  obtain ⟨hfw', hc60', hr12', hd400'⟩ := fewAt_of hr'
  have hfa' := fewA_of hfw' hrm'
  have hn12' : n' ≤ 12 := by have := hp'.len; omega
  have HS' := Lib.hid hfa'.2
  have hn1c' : n1' ≤ 60 := by have := hcm'.1; omega
  have hn2c' : n2' ≤ 12 := by have := hrw'.len; omega
  obtain ⟨s1, hs1⟩ : ∃ x, sameAt (⟨o, path, nx, md, pf, at_, ha, gs, ga, comms, raws⟩ : At) (⟨o', path', nx', md', pf', at_', ha', gs', ga', comms', raws'⟩ : At) = x := ⟨_, rfl⟩
  obtain ⟨s2, hs2⟩ : ∃ x, sameAt (⟨o', path', nx', md', pf', at_', ha', gs', ga', comms', raws'⟩ : At) (⟨o, path, nx, md, pf, at_, ha, gs, ga, comms, raws⟩ : At) = x := ⟨_, rfl⟩
  have hs0 : sameAt (⟨o, path, nx, md, pf, at_, ha, gs, ga, comms, raws⟩ : At) (⟨o, path, nx, md, pf, at_, ha, gs, ga, comms, raws⟩ : At) = true := sameAt_iff.2 rfl
  have hs12 : s2 = s1 := by
    rw [← hs1, ← hs2, Bool.eq_iff_iff, sameAt_iff, sameAt_iff]
    exact ⟨Eq.symm, Eq.symm⟩
  rw [hs12] at hs2
  have H1 := Lib.hid (show ∀ w', DL rSeg 2 w' (Lo w') A n path → NF w' (Lo w') A1 n1 comms → DL rRaw 3 w' (Lo w') A2 n2 raws → DL rSeg 2 w' (Lo w') A' n' path' → NF w' (Lo w') A1' n1' comms' → DL rRaw 3 w' (Lo w') A2' n2' raws' → Calls Tryd.prog 57 #[.agg #[.int .i64 o, .slice A n c, .int .u32 nx, .int .i64 md, .int .i64 pf, .bool at_, .bool ha, .int .u32 gs, .int .u32 ga, .slice A1 n1 c1, .slice A2 n2 c2], .agg #[.int .i64 o', .slice A' n' c', .int .u32 nx', .int .i64 md', .int .i64 pf', .bool at_', .bool ha', .int .u32 gs', .int .u32 ga', .slice A1' n1' c1', .slice A2' n2' c2']] w' fun en w'' => en = .returned (.bool s1) ∧ Below w'.heap.size w' w'' from fun w' h1 h2 h3 h4 h5 h6 => by rw [← hs1]; exact attSame o A n c path nx md pf at_ ha gs ga A1 n1 c1 comms A2 n2 c2 raws o' A' n' c' path' nx' md' pf' at_' ha' gs' ga' A1' n1' c1' comms' A2' n2' c2' raws' w' h1 h2 h3 h4 h5 h6 (by omega) HS (by omega) (by omega) (Lib.hid fun x hx => by have := hd400 x hx; omega))
  have H2 := Lib.hid (show ∀ w', DL rSeg 2 w' (Lo w') A n path → NF w' (Lo w') A1 n1 comms → DL rRaw 3 w' (Lo w') A2 n2 raws → DL rSeg 2 w' (Lo w') A' n' path' → NF w' (Lo w') A1' n1' comms' → DL rRaw 3 w' (Lo w') A2' n2' raws' → Calls Tryd.prog 54 #[.agg #[.int .i64 o, .slice A n c, .int .u32 nx, .int .i64 md, .int .i64 pf, .bool at_, .bool ha, .int .u32 gs, .int .u32 ga, .slice A1 n1 c1, .slice A2 n2 c2], .agg #[.int .i64 o', .slice A' n' c', .int .u32 nx', .int .i64 md', .int .i64 pf', .bool at_', .bool ha', .int .u32 gs', .int .u32 ga', .slice A1' n1' c1', .slice A2' n2' c2']] w' fun en w'' => en = .returned (.bool s1) ∧ Below w'.heap.size w' w'' from fun w' h1 h2 h3 h4 h5 h6 => by rw [← hs1]; exact refSame04 o A n c path nx md pf at_ ha gs ga A1 n1 c1 comms A2 n2 c2 raws o' A' n' c' path' nx' md' pf' at_' ha' gs' ga' A1' n1' c1' comms' A2' n2' c2' raws' w' h1 h2 h3 h4 h5 h6 (by omega) HS (by omega) (by omega) (Lib.hid fun x hx => by have := hd400 x hx; omega))
  have H3 := Lib.hid (show ∀ w', DL rSeg 2 w' (Lo w') A n path → NF w' (Lo w') A1 n1 comms → DL rRaw 3 w' (Lo w') A2 n2 raws → DL rSeg 2 w' (Lo w') A n path → NF w' (Lo w') A1 n1 comms → DL rRaw 3 w' (Lo w') A2 n2 raws → Calls Tryd.prog 57 #[.agg #[.int .i64 o, .slice A n c, .int .u32 nx, .int .i64 md, .int .i64 pf, .bool at_, .bool ha, .int .u32 gs, .int .u32 ga, .slice A1 n1 c1, .slice A2 n2 c2], .agg #[.int .i64 o, .slice A n c, .int .u32 nx, .int .i64 md, .int .i64 pf, .bool at_, .bool ha, .int .u32 gs, .int .u32 ga, .slice A1 n1 c1, .slice A2 n2 c2]] w' fun en w'' => en = .returned (.bool true) ∧ Below w'.heap.size w' w'' from fun w' h1 h2 h3 h4 h5 h6 => by rw [← hs0]; exact attSame o A n c path nx md pf at_ ha gs ga A1 n1 c1 comms A2 n2 c2 raws o A n c path nx md pf at_ ha gs ga A1 n1 c1 comms A2 n2 c2 raws w' h1 h2 h3 h4 h5 h6 (by omega) HS (by omega) (by omega) (Lib.hid fun x hx => by have := hd400 x hx; omega))
  have H4 := Lib.hid (show ∀ w', DL rSeg 2 w' (Lo w') A' n' path' → NF w' (Lo w') A1' n1' comms' → DL rRaw 3 w' (Lo w') A2' n2' raws' → DL rSeg 2 w' (Lo w') A n path → NF w' (Lo w') A1 n1 comms → DL rRaw 3 w' (Lo w') A2 n2 raws → Calls Tryd.prog 57 #[.agg #[.int .i64 o', .slice A' n' c', .int .u32 nx', .int .i64 md', .int .i64 pf', .bool at_', .bool ha', .int .u32 gs', .int .u32 ga', .slice A1' n1' c1', .slice A2' n2' c2'], .agg #[.int .i64 o, .slice A n c, .int .u32 nx, .int .i64 md, .int .i64 pf, .bool at_, .bool ha, .int .u32 gs, .int .u32 ga, .slice A1 n1 c1, .slice A2 n2 c2]] w' fun en w'' => en = .returned (.bool s1) ∧ Below w'.heap.size w' w'' from fun w' h1 h2 h3 h4 h5 h6 => by rw [← hs2]; exact attSame o' A' n' c' path' nx' md' pf' at_' ha' gs' ga' A1' n1' c1' comms' A2' n2' c2' raws' o A n c path nx md pf at_ ha gs ga A1 n1 c1 comms A2 n2 c2 raws w' h1 h2 h3 h4 h5 h6 (by omega) HS' (by omega) (by omega) (Lib.hid fun x hx => by have := hd400' x hx; omega))
  have e1 : (s1 == s1) = true := by simp
  clear hs1 hs2 hs0 hs12 hr hrm hfw hc60 hr12 hd400 hfa hn12 hn1c hn2c HS hwf hr' hrm' hfw' hc60' hr12' hd400' hfa' hn12' hn1c' hn2c' HS' hwf'
  obtain ⟨W, hW, hX, hY, b0⟩ := boxes2 w #[.int .i64 o, .slice A n c, .int .u32 nx, .int .i64 md, .int .i64 pf, .bool at_, .bool ha, .int .u32 gs, .int .u32 ga, .slice A1 n1 c1, .slice A2 n2 c2] #[.int .i64 o', .slice A' n' c', .int .u32 nx', .int .i64 md', .int .i64 pf', .bool at_', .bool ha', .int .u32 gs', .int .u32 ga', .slice A1' n1' c1', .slice A2' n2' c2'] 54 54
  go_enter Tryd.func12, Tryd.ntmps12
  go_upto_region 1 with fail
  try rw [hW]
  obtain ⟨q, hq⟩ : ∃ q, w.heap.size = q := ⟨_, rfl⟩
  try rw [hq]
  obtain ⟨q1, hq1⟩ : ∃ x, q + 1 = x := ⟨_, rfl⟩
  try rw [hq1]
  rw [hq] at hX hY
  rw [hq1] at hY
  clear hW hq hq1
  have c_hX0 := hX.cell 0
  have c_hX1 := hX.cell 1
  have c_hX2 := hX.cell 2
  have c_hX3 := hX.cell 3
  have c_hX4 := hX.cell 4
  have c_hX5 := hX.cell 5
  have c_hX6 := hX.cell 6
  have c_hX7 := hX.cell 7
  have c_hX8 := hX.cell 8
  have c_hX9 := hX.cell 9
  have c_hX10 := hX.cell 10
  have c_hY0 := hY.cell 0
  have c_hY1 := hY.cell 1
  have c_hY2 := hY.cell 2
  have c_hY3 := hY.cell 3
  have c_hY4 := hY.cell 4
  have c_hY5 := hY.cell 5
  have c_hY6 := hY.cell 6
  have c_hY7 := hY.cell 7
  have c_hY8 := hY.cell 8
  have c_hY9 := hY.cell 9
  have c_hY10 := hY.cell 10
  go_wp2_with fail
  refine (HFW.out _ (hp.segB4 b0) (hrw.rawB4 b0)).mono ?_
  rintro _ w1 ⟨rfl, b1⟩
  clear c_hX0 c_hX1 c_hX2 c_hX3 c_hX4 c_hX5 c_hX6 c_hX7 c_hX8 c_hX9 c_hX10 c_hY0 c_hY1 c_hY2 c_hY3 c_hY4 c_hY5 c_hY6 c_hY7 c_hY8 c_hY9 c_hY10
  have b01 := btr b0 b1 b0.size
  have hX_1 := hX.below b1 hX.lt
  have hY_1 := hY.below b1 hY.lt
  have c_hX0 := hX_1.cell 0
  have c_hX1 := hX_1.cell 1
  have c_hX2 := hX_1.cell 2
  have c_hX3 := hX_1.cell 3
  have c_hX4 := hX_1.cell 4
  have c_hX5 := hX_1.cell 5
  have c_hX6 := hX_1.cell 6
  have c_hX7 := hX_1.cell 7
  have c_hX8 := hX_1.cell 8
  have c_hX9 := hX_1.cell 9
  have c_hX10 := hX_1.cell 10
  have c_hY0 := hY_1.cell 0
  have c_hY1 := hY_1.cell 1
  have c_hY2 := hY_1.cell 2
  have c_hY3 := hY_1.cell 3
  have c_hY4 := hY_1.cell 4
  have c_hY5 := hY_1.cell 5
  have c_hY6 := hY_1.cell 6
  have c_hY7 := hY_1.cell 7
  have c_hY8 := hY_1.cell 8
  have c_hY9 := hY_1.cell 9
  have c_hY10 := hY_1.cell 10
  go_wp2_with fail
  refine (HFW'.out _ (hp'.segB4 b01) (hrw'.rawB4 b01)).mono ?_
  rintro _ w2 ⟨rfl, b2⟩
  clear c_hX0 c_hX1 c_hX2 c_hX3 c_hX4 c_hX5 c_hX6 c_hX7 c_hX8 c_hX9 c_hX10 c_hY0 c_hY1 c_hY2 c_hY3 c_hY4 c_hY5 c_hY6 c_hY7 c_hY8 c_hY9 c_hY10
  have b02 := btr b01 b2 b01.size
  have hX_2 := hX_1.below b2 hX_1.lt
  clear hX_1
  have hY_2 := hY_1.below b2 hY_1.lt
  clear hY_1
  have c_hX0 := hX_2.cell 0
  have c_hX1 := hX_2.cell 1
  have c_hX2 := hX_2.cell 2
  have c_hX3 := hX_2.cell 3
  have c_hX4 := hX_2.cell 4
  have c_hX5 := hX_2.cell 5
  have c_hX6 := hX_2.cell 6
  have c_hX7 := hX_2.cell 7
  have c_hX8 := hX_2.cell 8
  have c_hX9 := hX_2.cell 9
  have c_hX10 := hX_2.cell 10
  have c_hY0 := hY_2.cell 0
  have c_hY1 := hY_2.cell 1
  have c_hY2 := hY_2.cell 2
  have c_hY3 := hY_2.cell 3
  have c_hY4 := hY_2.cell 4
  have c_hY5 := hY_2.cell 5
  have c_hY6 := hY_2.cell 6
  have c_hY7 := hY_2.cell 7
  have c_hY8 := hY_2.cell 8
  have c_hY9 := hY_2.cell 9
  have c_hY10 := hY_2.cell 10
  go_upto_region 3 with fail
  have lt_hX := hX_2.lt
  have lt_hY := hY_2.lt
  refine wp_region_held_drew (S := (fun w' => Below w2.heap.size w2 w' ∧ ∀ b o, b < w2.heap.size → w'.cell? ⟨b, o, none⟩ = w2.cell? ⟨b, o, none⟩)) (by kernel_rfl) ?_ (fun hHeld => ?_)
  · (first | exact heldB_keep b8 hHeld | exact heldB_keep b7 hHeld | exact heldB_keep b6 hHeld | exact heldB_keep b5 hHeld | exact heldB_keep b4 hHeld | exact heldB_keep b3 hHeld | exact hHeld | exact heldB_refl _)
  refine wpAnyH_take (i := 0) (v := ?q2v0) rfl (by kernel_rfl) (by kernel_rfl) (by kernel_rfl) (by intro _ _ _ h; exact h) (Or.inl ⟨by rfl, ?q2hy0⟩) (by assumption) ?q2rest0
  case q2hy0 => (intro w hSw; (try dsimp only at hSw); go_simp; try with_reducible rfl)
  try simp only [Act.put, List.getElem_toArray, List.getElem_cons_succ, List.getElem_cons_zero, List.setIfInBounds_toArray, List.set_cons_zero, List.set_cons_succ]
  refine wpAnyH_take (i := 1) (v := ?q2v1) rfl (by kernel_rfl) (by kernel_rfl) (by kernel_rfl) (by intro _ _ _ h; exact h) (Or.inl ⟨by rfl, ?q2hy1⟩) (by assumption) ?q2rest1
  case q2hy1 => (intro w hSw; (try dsimp only at hSw); go_simp; try with_reducible rfl)
  try simp only [Act.put, List.getElem_toArray, List.getElem_cons_succ, List.getElem_cons_zero, List.setIfInBounds_toArray, List.set_cons_zero, List.set_cons_succ]
  refine wpAnyH_take (i := 3) (v := ?q2v3) rfl (by kernel_rfl) (by kernel_rfl) (by kernel_rfl) (by intro _ _ _ h; exact h) (Or.inl ⟨by rfl, ?q2hy3⟩) (by assumption) ?q2rest3
  case q2hy3 => (intro w hSw; (try dsimp only at hSw); go_simp; try with_reducible rfl)
  try simp only [Act.put, List.getElem_toArray, List.getElem_cons_succ, List.getElem_cons_zero, List.setIfInBounds_toArray, List.set_cons_zero, List.set_cons_succ]
  refine wpAnyH_take (i := 4) (v := ?q2v4) rfl (by kernel_rfl) (by kernel_rfl) (by kernel_rfl) (by intro _ _ _ h; exact h) (Or.inl ⟨by rfl, ?q2hy4⟩) (by assumption) ?q2rest4
  case q2hy4 => (intro w hSw; (try dsimp only at hSw); go_simp; try with_reducible rfl)
  try simp only [Act.put, List.getElem_toArray, List.getElem_cons_succ, List.getElem_cons_zero, List.setIfInBounds_toArray, List.set_cons_zero, List.set_cons_succ]
  refine wpAnyH_ready (rs := [2]) (by kernel_rfl) (by simp) ?_
  refine AllReadyH.cons rfl (fun K hK => ?_) AllReadyH.nil
  go_simp
  go_wp2_with (go_at_call 57; refine (H1.out _ (hp.segB4 (btr b02 hHeld.1 b02.size)) (hcm.numB4 (btr b02 hHeld.1 b02.size)) (hrw.rawB4 (btr b02 hHeld.1 b02.size)) (hp'.segB4 (btr b02 hHeld.1 b02.size)) (hcm'.numB4 (btr b02 hHeld.1 b02.size)) (hrw'.rawB4 (btr b02 hHeld.1 b02.size))).mono ?_; rintro _ w3 ⟨rfl, b3⟩)
  refine hK.out _ _ ?_ (fun hHeld => ?_)
  · try dsimp only
    (first | exact heldB_keep b8 hHeld | exact heldB_keep b7 hHeld | exact heldB_keep b6 hHeld | exact heldB_keep b5 hHeld | exact heldB_keep b4 hHeld | exact heldB_keep b3 hHeld | exact hHeld | exact heldB_refl _)
  clear hK K
  refine wpAnyH_ready (rs := [5]) (by kernel_rfl) (by simp) ?_
  refine AllReadyH.cons rfl (fun K hK => ?_) AllReadyH.nil
  go_simp
  go_wp2_with (go_at_call 54; refine (H2.out _ (hp.segB4 (btr b02 hHeld.1 b02.size)) (hcm.numB4 (btr b02 hHeld.1 b02.size)) (hrw.rawB4 (btr b02 hHeld.1 b02.size)) (hp'.segB4 (btr b02 hHeld.1 b02.size)) (hcm'.numB4 (btr b02 hHeld.1 b02.size)) (hrw'.rawB4 (btr b02 hHeld.1 b02.size))).mono ?_; rintro _ w4 ⟨rfl, b4⟩)
  refine hK.out _ _ ?_ (fun hHeld => ?_)
  · try dsimp only
    (first | exact heldB_keep b8 hHeld | exact heldB_keep b7 hHeld | exact heldB_keep b6 hHeld | exact heldB_keep b5 hHeld | exact heldB_keep b4 hHeld | exact heldB_keep b3 hHeld | exact hHeld | exact heldB_refl _)
  clear hK K
  refine wpAnyH_take (i := 6) (v := ?q2v6) rfl (by kernel_rfl) (by kernel_rfl) (by kernel_rfl) (by intro _ _ _ h; exact h) (Or.inl ⟨by rfl, ?q2hy6⟩) (by assumption) ?q2rest6
  case q2hy6 => (intro w hSw; (try dsimp only at hSw); go_simp; try with_reducible rfl)
  try simp only [Act.put, List.getElem_toArray, List.getElem_cons_succ, List.getElem_cons_zero, List.setIfInBounds_toArray, List.set_cons_zero, List.set_cons_succ]
  refine wpAnyH_take (i := 7) (v := ?q2v7) rfl (by kernel_rfl) (by kernel_rfl) (by kernel_rfl) (by intro _ _ _ h; exact h) (Or.inl ⟨by rfl, ?q2hy7⟩) (by assumption) ?q2rest7
  case q2hy7 => (intro w hSw; (try dsimp only at hSw); go_simp; try with_reducible rfl)
  try simp only [Act.put, List.getElem_toArray, List.getElem_cons_succ, List.getElem_cons_zero, List.setIfInBounds_toArray, List.set_cons_zero, List.set_cons_succ]
  refine wpAnyH_take (i := 8) (v := ?q2v8) rfl (by kernel_rfl) (by kernel_rfl) (by kernel_rfl) (by intro _ _ _ h; exact h) (Or.inl ⟨by rfl, ?q2hy8⟩) (by assumption) ?q2rest8
  case q2hy8 => (intro w hSw; (try dsimp only at hSw); go_simp; try with_reducible rfl)
  try simp only [Act.put, List.getElem_toArray, List.getElem_cons_succ, List.getElem_cons_zero, List.setIfInBounds_toArray, List.set_cons_zero, List.set_cons_succ]
  refine wpAnyH_take (i := 9) (v := ?q2v9) rfl (by kernel_rfl) (by kernel_rfl) (by kernel_rfl) (by intro _ _ _ h; exact h) (Or.inl ⟨by rfl, ?q2hy9⟩) (by assumption) ?q2rest9
  case q2hy9 => (intro w hSw; (try dsimp only at hSw); go_simp; try with_reducible rfl)
  try simp only [Act.put, List.getElem_toArray, List.getElem_cons_succ, List.getElem_cons_zero, List.setIfInBounds_toArray, List.set_cons_zero, List.set_cons_succ]
  refine wpAnyH_ready (rs := [10]) (by kernel_rfl) (by simp) ?_
  refine AllReadyH.cons rfl (fun K hK => ?_) AllReadyH.nil
  go_simp
  go_wp2_with (go_at_call 57; refine (H3.out _ (hp.segB4 (btr b02 hHeld.1 b02.size)) (hcm.numB4 (btr b02 hHeld.1 b02.size)) (hrw.rawB4 (btr b02 hHeld.1 b02.size)) (hp.segB4 (btr b02 hHeld.1 b02.size)) (hcm.numB4 (btr b02 hHeld.1 b02.size)) (hrw.rawB4 (btr b02 hHeld.1 b02.size))).mono ?_; rintro _ w5 ⟨rfl, b5⟩)
  refine hK.out _ _ ?_ (fun hHeld => ?_)
  · try dsimp only
    (first | exact heldB_keep b8 hHeld | exact heldB_keep b7 hHeld | exact heldB_keep b6 hHeld | exact heldB_keep b5 hHeld | exact heldB_keep b4 hHeld | exact heldB_keep b3 hHeld | exact hHeld | exact heldB_refl _)
  clear hK K
  refine wpAnyH_take (i := 11) (v := ?q2v11) rfl (by kernel_rfl) (by kernel_rfl) (by kernel_rfl) (by intro _ _ _ h; exact h) (Or.inl ⟨by rfl, ?q2hy11⟩) (by assumption) ?q2rest11
  case q2hy11 => (intro w hSw; (try dsimp only at hSw); go_simp; try with_reducible rfl)
  try simp only [Act.put, List.getElem_toArray, List.getElem_cons_succ, List.getElem_cons_zero, List.setIfInBounds_toArray, List.set_cons_zero, List.set_cons_succ]
  refine wpAnyH_take (i := 12) (v := ?q2v12) rfl (by kernel_rfl) (by kernel_rfl) (by kernel_rfl) (by intro _ _ _ h; exact h) (Or.inl ⟨by rfl, ?q2hy12⟩) (by assumption) ?q2rest12
  case q2hy12 => (intro w hSw; (try dsimp only at hSw); go_simp; try with_reducible rfl)
  try simp only [Act.put, List.getElem_toArray, List.getElem_cons_succ, List.getElem_cons_zero, List.setIfInBounds_toArray, List.set_cons_zero, List.set_cons_succ]
  refine wpAnyH_take (i := 13) (v := ?q2v13) rfl (by kernel_rfl) (by kernel_rfl) (by kernel_rfl) (by intro _ _ _ h; exact h) (Or.inl ⟨by rfl, ?q2hy13⟩) (by assumption) ?q2rest13
  case q2hy13 => (intro w hSw; (try dsimp only at hSw); go_simp; try with_reducible rfl)
  try simp only [Act.put, List.getElem_toArray, List.getElem_cons_succ, List.getElem_cons_zero, List.setIfInBounds_toArray, List.set_cons_zero, List.set_cons_succ]
  refine wpAnyH_take (i := 14) (v := ?q2v14) rfl (by kernel_rfl) (by kernel_rfl) (by kernel_rfl) (by intro _ _ _ h; exact h) (Or.inl ⟨by rfl, ?q2hy14⟩) (by assumption) ?q2rest14
  case q2hy14 => (intro w hSw; (try dsimp only at hSw); go_simp; try with_reducible rfl)
  try simp only [Act.put, List.getElem_toArray, List.getElem_cons_succ, List.getElem_cons_zero, List.setIfInBounds_toArray, List.set_cons_zero, List.set_cons_succ]
  refine wpAnyH_take (i := 16) (v := ?q2v16) rfl (by kernel_rfl) (by kernel_rfl) (by kernel_rfl) (by intro _ _ _ h; exact h) (Or.inl ⟨by rfl, ?q2hy16⟩) (by assumption) ?q2rest16
  case q2hy16 => (intro w hSw; (try dsimp only at hSw); go_simp; try with_reducible rfl)
  try simp only [Act.put, List.getElem_toArray, List.getElem_cons_succ, List.getElem_cons_zero, List.setIfInBounds_toArray, List.set_cons_zero, List.set_cons_succ]
  refine wpAnyH_take (i := 17) (v := ?q2v17) rfl (by kernel_rfl) (by kernel_rfl) (by kernel_rfl) (by intro _ _ _ h; exact h) (Or.inl ⟨by rfl, ?q2hy17⟩) (by assumption) ?q2rest17
  case q2hy17 => (intro w hSw; (try dsimp only at hSw); go_simp; try with_reducible rfl)
  try simp only [Act.put, List.getElem_toArray, List.getElem_cons_succ, List.getElem_cons_zero, List.setIfInBounds_toArray, List.set_cons_zero, List.set_cons_succ]
  refine wpAnyH_ready (rs := [15]) (by kernel_rfl) (by simp) ?_
  refine AllReadyH.cons rfl (fun K hK => ?_) AllReadyH.nil
  go_simp
  go_wp2_with (go_at_call 57; refine (H4.out _ (hp'.segB4 (btr b02 hHeld.1 b02.size)) (hcm'.numB4 (btr b02 hHeld.1 b02.size)) (hrw'.rawB4 (btr b02 hHeld.1 b02.size)) (hp.segB4 (btr b02 hHeld.1 b02.size)) (hcm.numB4 (btr b02 hHeld.1 b02.size)) (hrw.rawB4 (btr b02 hHeld.1 b02.size))).mono ?_; rintro _ w6 ⟨rfl, b6⟩)
  refine hK.out _ _ ?_ (fun hHeld => ?_)
  · try dsimp only
    (first | exact heldB_keep b8 hHeld | exact heldB_keep b7 hHeld | exact heldB_keep b6 hHeld | exact heldB_keep b5 hHeld | exact heldB_keep b4 hHeld | exact heldB_keep b3 hHeld | exact hHeld | exact heldB_refl _)
  clear hK K
  refine wpAnyH_ready (rs := [18]) (by kernel_rfl) (by simp) ?_
  refine AllReadyH.cons rfl (fun K hK => ?_) AllReadyH.nil
  go_simp
  go_wp2_with (go_at_call 54; refine (H2.out _ (hp.segB4 (btr b02 hHeld.1 b02.size)) (hcm.numB4 (btr b02 hHeld.1 b02.size)) (hrw.rawB4 (btr b02 hHeld.1 b02.size)) (hp'.segB4 (btr b02 hHeld.1 b02.size)) (hcm'.numB4 (btr b02 hHeld.1 b02.size)) (hrw'.rawB4 (btr b02 hHeld.1 b02.size))).mono ?_; rintro _ w7 ⟨rfl, b7⟩)
  refine hK.out _ _ ?_ (fun hHeld => ?_)
  · try dsimp only
    (first | exact heldB_keep b8 hHeld | exact heldB_keep b7 hHeld | exact heldB_keep b6 hHeld | exact heldB_keep b5 hHeld | exact heldB_keep b4 hHeld | exact heldB_keep b3 hHeld | exact hHeld | exact heldB_refl _)
  clear hK K
  refine wpAnyH_take (i := 19) (v := ?q2v19) rfl (by kernel_rfl) (by kernel_rfl) (by kernel_rfl) (by intro _ _ _ h; exact h) (Or.inl ⟨by rfl, ?q2hy19⟩) (by assumption) ?q2rest19
  case q2hy19 => (intro w hSw; (try dsimp only at hSw); go_simp; try with_reducible rfl)
  try simp only [Act.put, List.getElem_toArray, List.getElem_cons_succ, List.getElem_cons_zero, List.setIfInBounds_toArray, List.set_cons_zero, List.set_cons_succ]
  refine wpAnyH_take (i := 20) (v := ?q2v20) rfl (by kernel_rfl) (by kernel_rfl) (by kernel_rfl) (by intro _ _ _ h; exact h) (Or.inl ⟨by rfl, ?q2hy20⟩) (by assumption) ?q2rest20
  case q2hy20 => (intro w hSw; (try dsimp only at hSw); go_simp; try with_reducible rfl)
  try simp only [Act.put, List.getElem_toArray, List.getElem_cons_succ, List.getElem_cons_zero, List.setIfInBounds_toArray, List.set_cons_zero, List.set_cons_succ]
  refine wpAnyH_take (i := 21) (v := ?q2v21) rfl (by kernel_rfl) (by kernel_rfl) (by kernel_rfl) (by intro _ _ _ h; exact h) (Or.inl ⟨by rfl, ?q2hy21⟩) (by assumption) ?q2rest21
  case q2hy21 => (intro w hSw; (try dsimp only at hSw); go_simp; try with_reducible rfl)
  try simp only [Act.put, List.getElem_toArray, List.getElem_cons_succ, List.getElem_cons_zero, List.setIfInBounds_toArray, List.set_cons_zero, List.set_cons_succ]
  refine wpAnyH_ready (rs := [22]) (by kernel_rfl) (by simp) ?_
  refine AllReadyH.cons rfl (fun K hK => ?_) AllReadyH.nil
  go_simp
  go_wp2_with (go_at_call 47; refine (HAW.out _ (ht.call (btr b02 hHeld.1 b02.size))).mono ?_; rintro _ w8 ⟨rfl, b8⟩)
  refine hK.out _ _ ?_ (fun hHeld => ?_)
  · try dsimp only
    (first | exact heldB_keep b8 hHeld | exact heldB_keep b7 hHeld | exact heldB_keep b6 hHeld | exact heldB_keep b5 hHeld | exact heldB_keep b4 hHeld | exact heldB_keep b3 hHeld | exact hHeld | exact heldB_refl _)
  clear hK K
  refine wpAnyH_take (i := 23) (v := ?q2v23) rfl (by kernel_rfl) (by kernel_rfl) (by kernel_rfl) (by intro _ _ _ h; exact h) (Or.inl ⟨by rfl, ?q2hy23⟩) (by assumption) ?q2rest23
  case q2hy23 => (intro w hSw; (try dsimp only at hSw); go_simp; try with_reducible rfl)
  try simp only [Act.put, List.getElem_toArray, List.getElem_cons_succ, List.getElem_cons_zero, List.setIfInBounds_toArray, List.set_cons_zero, List.set_cons_succ]
  refine wpAnyH_ready (rs := [24]) (by kernel_rfl) (by simp) ?_
  refine AllReadyH.cons rfl (fun K hK => ?_) AllReadyH.nil
  go_simp
  go_wp2_with (fail)
  refine hK.out _ _ ?_ (fun hHeld => ?_)
  · try dsimp only
    (first | exact heldB_keep b8 hHeld | exact heldB_keep b7 hHeld | exact heldB_keep b6 hHeld | exact heldB_keep b5 hHeld | exact heldB_keep b4 hHeld | exact heldB_keep b3 hHeld | exact hHeld | exact heldB_refl _)
  clear hK K
  refine wpAnyH_done (by kernel_rfl) ?_ _
  clear lt_hX lt_hY
  have bh8 := hHeld.1
  clear hHeld
  clear c_hX0 c_hX1 c_hX2 c_hX3 c_hX4 c_hX5 c_hX6 c_hX7 c_hX8 c_hX9 c_hX10 c_hY0 c_hY1 c_hY2 c_hY3 c_hY4 c_hY5 c_hY6 c_hY7 c_hY8 c_hY9 c_hY10
  have b0h8 := btr b02 bh8 b02.size
  have hX_h8 := hX_2.below bh8 hX_2.lt
  clear hX_2
  have hY_h8 := hY_2.below bh8 hY_2.lt
  clear hY_2
  have c_hX0 := hX_h8.cell 0
  have c_hX1 := hX_h8.cell 1
  have c_hX2 := hX_h8.cell 2
  have c_hX3 := hX_h8.cell 3
  have c_hX4 := hX_h8.cell 4
  have c_hX5 := hX_h8.cell 5
  have c_hX6 := hX_h8.cell 6
  have c_hX7 := hX_h8.cell 7
  have c_hX8 := hX_h8.cell 8
  have c_hX9 := hX_h8.cell 9
  have c_hX10 := hX_h8.cell 10
  have c_hY0 := hY_h8.cell 0
  have c_hY1 := hY_h8.cell 1
  have c_hY2 := hY_h8.cell 2
  have c_hY3 := hY_h8.cell 3
  have c_hY4 := hY_h8.cell 4
  have c_hY5 := hY_h8.cell 5
  have c_hY6 := hY_h8.cell 6
  have c_hY7 := hY_h8.cell 7
  have c_hY8 := hY_h8.cell 8
  have c_hY9 := hY_h8.cell 9
  have c_hY10 := hY_h8.cell 10
  go_wp2_with fail
  go_ret
  exact ⟨rfl, b0h8⟩
end Go.Proofs.YtlpkngjeihoknaaDoor
