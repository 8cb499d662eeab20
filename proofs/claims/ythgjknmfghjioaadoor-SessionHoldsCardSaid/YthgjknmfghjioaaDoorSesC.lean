/- Walks of layer 23 (session): a new session, and its times. No conditions but where the session lies. -/
import Derived.Test.YthgjknmfghjioaaDoorProg
import Derived.WalkKit
import Derived.WalkSpells
import Derived.WalkLawsBesides
import Derived.Outline
import Derived.Deep.QuietTactic
import Derived.BigQuiet
import Derived.Handy
import Derived.Lib.Hide
import Derived.Test.YthgjknmfghjioaaDoorSesB
import Derived.OrdersHeld
import Derived.Deep.RegionHeld
import Derived.Laws.Cover4
import Derived.Deep.DeepCutAuto
import Derived.Deep.CutBlock
namespace Go.Proofs.YthgjknmfghjioaaDoor
open Go.RowKit
set_option linter.unusedSimpArgs false
set_option linter.unusedVariables false
set_option maxRecDepth 100000 in
theorem sesNew (K : SesK) (w : World) :
    Calls Tryd.prog 17 #[.agg #[.int .u32 K.la, .int .u32 K.li, .int .u32 K.lx, .int .i64 K.lh], .agg #[.int .u32 K.pa, .int .u32 K.pd, .int .i64 K.pl, .slice K.Ai K.ni K.ci, .slice K.Ao K.no K.co], .bool K.ps] w fun en w' => ∃ q, en = .returned (.pointer (some ⟨q, 0, none⟩)) ∧ w.heap.size ≤ q ∧ Blk w' q 70 (sesC K ses0) ∧ Below w.heap.size w w' := by
  obtain ⟨W, hW, hX, hR, b0⟩ := boxes2 w #[.int .u32 K.la, .int .u32 K.li, .int .u32 K.lx, .int .i64 K.lh] #[.int .u32 K.pa, .int .u32 K.pd, .int .i64 K.pl, .slice K.Ai K.ni K.ci, .slice K.Ao K.no K.co] 24 27
  have HW := Lib.hid hW
  clear hW
  go_enter Tryd.func17, Tryd.ntmps17
  go_upto_region 1 with fail
  rw [HW.out]
  have c_hX0 := hX.cell 0
  have c_hX1 := hX.cell 1
  have c_hX2 := hX.cell 2
  have c_hX3 := hX.cell 3
  have c_hR0 := hR.cell 0
  have c_hR1 := hR.cell 1
  have c_hR2 := hR.cell 2
  have c_hR3 := hR.cell 3
  have c_hR4 := hR.cell 4
  go_wp2_with fail
  go_ret
  exact ⟨_, rfl, b0.size, Blk.new W _ _, b0.alloc b0.size _⟩
set_option maxHeartbeats 2000000 in
set_option maxRecDepth 100000 in
theorem timSet0 (K : SesK) (V : SesV) (d k n : Int) (p1 p2 g : Nat) (w : World) (h1 : Blk w p1 3 #[.int .i64 d]) (h2 : Blk w p2 28 #[.pointer (some ⟨g, 0, none⟩)]) (hS : Blk w g 70 (sesC K V)) (hne : p2 ≠ g) :
    Calls Tryd.prog 35 #[.int .i64 k, .int .i64 0, .int .i64 n, .pointer (some ⟨p1, 0, none⟩), .pointer (some ⟨p2, 0, none⟩)] w fun en w' => en = .returned (.tuple #[]) ∧ Blk w' g 70 (sesC K (timP 0 d k n V)) ∧ Sm w.heap.size [g] w w' := by
  have hgl := hS.lt
  have q1 := h1.cell 0
  have q2 := h2.cell 0
  cases hb : bitB d k
  · have HV := Lib.hid (show timP 0 d k n V = V by unfold timP; rw [hb]; rfl)
    unfold bitB at hb
    go_enter Tryd.func35, Tryd.ntmps35
    go_wp2_with fail
    go_returns
    exact ⟨rfl, by rw [HV.out]; exact hS, Sm.refl _ _ _⟩
  · obtain ⟨st, t0, t1, t2, wd, id, ho⟩ := V
    have HV := Lib.hid (show timP 0 d k n ⟨st, t0, t1, t2, wd, id, ho⟩ = ⟨st, pos n, t1, t2, wd, id, ho⟩ by unfold timP; rw [hb]; rfl)
    have hSd : Blk w g 70 #[.int .u32 K.la, .int .u32 K.li, .int .u32 K.lx, .int .i64 K.lh, .int .u32 K.pa, .int .u32 K.pd, .int .i64 K.pl, .slice K.Ai K.ni K.ci, .slice K.Ao K.no K.co, .bool K.ps, .int .i64 st, .int .i64 t0, .int .i64 t1, .int .i64 t2, .bool wd, .int .u32 id, .int .i64 ho] := hS
    unfold bitB at hb
    go_enter Tryd.func35, Tryd.ntmps35
    go_upto_region 1 with fail
    have s11 := hSd.cell 11
    have s12 := hSd.cell 12
    have s13 := hSd.cell 13
    refine wp_region_held_drew (S := (fun w' => w'.cell? ⟨p2, 0, none⟩ = some (.pointer (some ⟨g, 0, none⟩)))) (by kernel_rfl) ?_ (fun hHeld => ?_)
    · (first | exact q2 | exact h24.cell 0 | exact (h25 _ _ _).cell 0)
    refine wpAnyH_take (i := 0) (v := ?q1v0) rfl (by kernel_rfl) (by kernel_rfl) (by kernel_rfl) (by intro _ _ _ h; exact h) (Or.inl ⟨by rfl, ?q1hy0⟩) (by assumption) ?q1rest0
    case q1hy0 => (intro w hSw; (try dsimp only at hSw); go_simp; try with_reducible rfl)
    try simp only [Act.put, List.getElem_toArray, List.getElem_cons_succ, List.getElem_cons_zero, List.setIfInBounds_toArray, List.set_cons_zero, List.set_cons_succ]
    refine wpAnyH_take (i := 1) (v := ?q1v1) rfl (by kernel_rfl) (by kernel_rfl) (by kernel_rfl) (by intro _ _ _ h; exact h) (Or.inl ⟨by rfl, ?q1hy1⟩) (by assumption) ?q1rest1
    case q1hy1 => (intro w hSw; (try dsimp only at hSw); go_simp; try with_reducible rfl)
    try simp only [Act.put, List.getElem_toArray, List.getElem_cons_succ, List.getElem_cons_zero, List.setIfInBounds_toArray, List.set_cons_zero, List.set_cons_succ]
    refine wpAnyH_take (i := 2) (v := ?q1v2) rfl (by kernel_rfl) (by kernel_rfl) (by kernel_rfl) (by intro _ _ _ h; exact h) (Or.inl ⟨by rfl, ?q1hy2⟩) (by assumption) ?q1rest2
    case q1hy2 => (intro w hSw; (try dsimp only at hSw); go_simp; try with_reducible rfl)
    try simp only [Act.put, List.getElem_toArray, List.getElem_cons_succ, List.getElem_cons_zero, List.setIfInBounds_toArray, List.set_cons_zero, List.set_cons_succ]
    refine wpAnyH_take (i := 3) (v := ?q1v3) rfl (by kernel_rfl) (by kernel_rfl) (by kernel_rfl) (by intro _ _ _ h; exact h) (Or.inl ⟨by rfl, ?q1hy3⟩) (by assumption) ?q1rest3
    case q1hy3 => (intro w hSw; (try dsimp only at hSw); go_simp; try with_reducible rfl)
    try simp only [Act.put, List.getElem_toArray, List.getElem_cons_succ, List.getElem_cons_zero, List.setIfInBounds_toArray, List.set_cons_zero, List.set_cons_succ]
    refine wpAnyH_take (i := 5) (v := ?q1v5) rfl (by kernel_rfl) (by kernel_rfl) (by kernel_rfl) (by intro _ _ _ h; exact h) (Or.inl ⟨by rfl, ?q1hy5⟩) (by assumption) ?q1rest5
    case q1hy5 => (intro w hSw; (try dsimp only at hSw); go_simp; try with_reducible rfl)
    try simp only [Act.put, List.getElem_toArray, List.getElem_cons_succ, List.getElem_cons_zero, List.setIfInBounds_toArray, List.set_cons_zero, List.set_cons_succ]
    refine wpAnyH_take (i := 6) (v := ?q1v6) rfl (by kernel_rfl) (by kernel_rfl) (by kernel_rfl) (by intro _ _ _ h; exact h) (Or.inl ⟨by rfl, ?q1hy6⟩) (by assumption) ?q1rest6
    case q1hy6 => (intro w hSw; (try dsimp only at hSw); go_simp; try with_reducible rfl)
    try simp only [Act.put, List.getElem_toArray, List.getElem_cons_succ, List.getElem_cons_zero, List.setIfInBounds_toArray, List.set_cons_zero, List.set_cons_succ]
    refine wpAnyH_ready (rs := [4]) (by kernel_rfl) (by simp) ?_
    refine AllReadyH.cons rfl (fun K hK => ?_) AllReadyH.nil
    go_simp
    go_wp2_with (fail)
    refine hK.out _ _ ?_ (fun hHeld => ?_)
    · try dsimp only
      (first | exact q2 | exact h24.cell 0 | exact (h25 _ _ _).cell 0)
    clear hK K
    refine wpAnyH_ready (rs := [7]) (by kernel_rfl) (by simp) ?_
    refine AllReadyH.cons rfl (fun K hK => ?_) AllReadyH.nil
    go_simp
    go_wp2_with (go_at_call 36; refine (clockSet0 t0 t1 t2 n _).mono ?_; rintro _ w4 ⟨rfl, b4⟩; have h2d : Blk w.drew p2 28 #[.pointer (some ⟨g, 0, none⟩)] := h2; have hS0 : Blk w.drew g 70 _ := hSd; have h24 := h2d.below b4 h2d.lt; have hS4 := hS0.below b4 hS0.lt; have h25 := fun y0 y1 y2 => ((h24.far (p := ⟨g, 11, none⟩) hne y0).far (p := ⟨g, 12, none⟩) hne y1).far (p := ⟨g, 13, none⟩) hne y2; have g11 := hS4.cell 11; have g12 := hS4.cell 12; have g13 := hS4.cell 13; have u11 := hS4.frozen 11; have u12 := hS4.frozen 12; have u13 := hS4.frozen 13)
    refine hK.out _ _ ?_ (fun hHeld => ?_)
    · try dsimp only
      (first | exact q2 | exact h24.cell 0 | exact (h25 _ _ _).cell 0)
    clear hK K
    refine wpAnyH_take (i := 8) (v := ?q1v8) rfl (by kernel_rfl) (by kernel_rfl) (by kernel_rfl) (by intro _ _ _ h; exact h) (Or.inl ⟨by rfl, ?q1hy8⟩) (by assumption) ?q1rest8
    case q1hy8 => (intro w hSw; (try dsimp only at hSw); go_simp; try with_reducible rfl)
    try simp only [Act.put, List.getElem_toArray, List.getElem_cons_succ, List.getElem_cons_zero, List.setIfInBounds_toArray, List.set_cons_zero, List.set_cons_succ]
    refine wpAnyH_take (i := 9) (v := ?q1v9) rfl (by kernel_rfl) (by kernel_rfl) (by kernel_rfl) (by intro _ _ _ h; exact h) (Or.inl ⟨by rfl, ?q1hy9⟩) (by assumption) ?q1rest9
    case q1hy9 => (intro w hSw; (try dsimp only at hSw); go_simp; try with_reducible rfl)
    try simp only [Act.put, List.getElem_toArray, List.getElem_cons_succ, List.getElem_cons_zero, List.setIfInBounds_toArray, List.set_cons_zero, List.set_cons_succ]
    refine wpAnyH_ready (rs := [10]) (by kernel_rfl) (by simp) ?_
    refine AllReadyH.cons rfl (fun K hK => ?_) AllReadyH.nil
    go_simp
    go_wp2_with (fail)
    refine hK.out _ _ ?_ (fun hHeld => ?_)
    · try dsimp only
      (first | exact q2 | exact h24.cell 0 | exact (h25 _ _ _).cell 0)
    clear hK K
    refine wpAnyH_done (by kernel_rfl) ?_ _
    clear g11 g12 g13 u11 u12 u13 s11 s12 s13
    go_wp2_with fail
    go_returns
    refine ⟨rfl, ?_, ?_⟩
    · rw [HV.out]
      have k := ((hS4.set_ 11 (.int .i64 (pos n))).set_ 12 (.int .i64 (t1))).set_ 13 (.int .i64 (t2))
      simp only [List.setIfInBounds_toArray, List.set_cons_succ, List.set_cons_zero] at k
      exact k
    · exact (((Sm.of_below ((Below.refl w.heap.size w).drew.trans b4) (Nat.le_refl _)).setCell (p := ⟨g, 11, none⟩) (.inr (by simp)) _).setCell (p := ⟨g, 12, none⟩) (.inr (by simp)) _).setCell (p := ⟨g, 13, none⟩) (.inr (by simp)) _
set_option maxHeartbeats 2000000 in
set_option maxRecDepth 100000 in
theorem timSet1 (K : SesK) (V : SesV) (d k n : Int) (p1 p2 g : Nat) (w : World) (h1 : Blk w p1 3 #[.int .i64 d]) (h2 : Blk w p2 28 #[.pointer (some ⟨g, 0, none⟩)]) (hS : Blk w g 70 (sesC K V)) (hne : p2 ≠ g) :
    Calls Tryd.prog 35 #[.int .i64 k, .int .i64 1, .int .i64 n, .pointer (some ⟨p1, 0, none⟩), .pointer (some ⟨p2, 0, none⟩)] w fun en w' => en = .returned (.tuple #[]) ∧ Blk w' g 70 (sesC K (timP 1 d k n V)) ∧ Sm w.heap.size [g] w w' := by
  have hgl := hS.lt
  have q1 := h1.cell 0
  have q2 := h2.cell 0
  cases hb : bitB d k
  · have HV := Lib.hid (show timP 1 d k n V = V by unfold timP; rw [hb]; rfl)
    unfold bitB at hb
    go_enter Tryd.func35, Tryd.ntmps35
    go_wp2_with fail
    go_returns
    exact ⟨rfl, by rw [HV.out]; exact hS, Sm.refl _ _ _⟩
  · obtain ⟨st, t0, t1, t2, wd, id, ho⟩ := V
    have HV := Lib.hid (show timP 1 d k n ⟨st, t0, t1, t2, wd, id, ho⟩ = ⟨st, t0, pos n, t2, wd, id, ho⟩ by unfold timP; rw [hb]; rfl)
    have hSd : Blk w g 70 #[.int .u32 K.la, .int .u32 K.li, .int .u32 K.lx, .int .i64 K.lh, .int .u32 K.pa, .int .u32 K.pd, .int .i64 K.pl, .slice K.Ai K.ni K.ci, .slice K.Ao K.no K.co, .bool K.ps, .int .i64 st, .int .i64 t0, .int .i64 t1, .int .i64 t2, .bool wd, .int .u32 id, .int .i64 ho] := hS
    unfold bitB at hb
    go_enter Tryd.func35, Tryd.ntmps35
    go_upto_region 1 with fail
    have s11 := hSd.cell 11
    have s12 := hSd.cell 12
    have s13 := hSd.cell 13
    refine wp_region_held_drew (S := (fun w' => w'.cell? ⟨p2, 0, none⟩ = some (.pointer (some ⟨g, 0, none⟩)))) (by kernel_rfl) ?_ (fun hHeld => ?_)
    · (first | exact q2 | exact h24.cell 0 | exact (h25 _ _ _).cell 0)
    refine wpAnyH_take (i := 0) (v := ?q2v0) rfl (by kernel_rfl) (by kernel_rfl) (by kernel_rfl) (by intro _ _ _ h; exact h) (Or.inl ⟨by rfl, ?q2hy0⟩) (by assumption) ?q2rest0
    case q2hy0 => (intro w hSw; (try dsimp only at hSw); go_simp; try with_reducible rfl)
    try simp only [Act.put, List.getElem_toArray, List.getElem_cons_succ, List.getElem_cons_zero, List.setIfInBounds_toArray, List.set_cons_zero, List.set_cons_succ]
    refine wpAnyH_take (i := 1) (v := ?q2v1) rfl (by kernel_rfl) (by kernel_rfl) (by kernel_rfl) (by intro _ _ _ h; exact h) (Or.inl ⟨by rfl, ?q2hy1⟩) (by assumption) ?q2rest1
    case q2hy1 => (intro w hSw; (try dsimp only at hSw); go_simp; try with_reducible rfl)
    try simp only [Act.put, List.getElem_toArray, List.getElem_cons_succ, List.getElem_cons_zero, List.setIfInBounds_toArray, List.set_cons_zero, List.set_cons_succ]
    refine wpAnyH_take (i := 2) (v := ?q2v2) rfl (by kernel_rfl) (by kernel_rfl) (by kernel_rfl) (by intro _ _ _ h; exact h) (Or.inl ⟨by rfl, ?q2hy2⟩) (by assumption) ?q2rest2
    case q2hy2 => (intro w hSw; (try dsimp only at hSw); go_simp; try with_reducible rfl)
    try simp only [Act.put, List.getElem_toArray, List.getElem_cons_succ, List.getElem_cons_zero, List.setIfInBounds_toArray, List.set_cons_zero, List.set_cons_succ]
    refine wpAnyH_take (i := 3) (v := ?q2v3) rfl (by kernel_rfl) (by kernel_rfl) (by kernel_rfl) (by intro _ _ _ h; exact h) (Or.inl ⟨by rfl, ?q2hy3⟩) (by assumption) ?q2rest3
    case q2hy3 => (intro w hSw; (try dsimp only at hSw); go_simp; try with_reducible rfl)
    try simp only [Act.put, List.getElem_toArray, List.getElem_cons_succ, List.getElem_cons_zero, List.setIfInBounds_toArray, List.set_cons_zero, List.set_cons_succ]
    refine wpAnyH_take (i := 5) (v := ?q2v5) rfl (by kernel_rfl) (by kernel_rfl) (by kernel_rfl) (by intro _ _ _ h; exact h) (Or.inl ⟨by rfl, ?q2hy5⟩) (by assumption) ?q2rest5
    case q2hy5 => (intro w hSw; (try dsimp only at hSw); go_simp; try with_reducible rfl)
    try simp only [Act.put, List.getElem_toArray, List.getElem_cons_succ, List.getElem_cons_zero, List.setIfInBounds_toArray, List.set_cons_zero, List.set_cons_succ]
    refine wpAnyH_take (i := 6) (v := ?q2v6) rfl (by kernel_rfl) (by kernel_rfl) (by kernel_rfl) (by intro _ _ _ h; exact h) (Or.inl ⟨by rfl, ?q2hy6⟩) (by assumption) ?q2rest6
    case q2hy6 => (intro w hSw; (try dsimp only at hSw); go_simp; try with_reducible rfl)
    try simp only [Act.put, List.getElem_toArray, List.getElem_cons_succ, List.getElem_cons_zero, List.setIfInBounds_toArray, List.set_cons_zero, List.set_cons_succ]
    refine wpAnyH_ready (rs := [4]) (by kernel_rfl) (by simp) ?_
    refine AllReadyH.cons rfl (fun K hK => ?_) AllReadyH.nil
    go_simp
    go_wp2_with (fail)
    refine hK.out _ _ ?_ (fun hHeld => ?_)
    · try dsimp only
      (first | exact q2 | exact h24.cell 0 | exact (h25 _ _ _).cell 0)
    clear hK K
    refine wpAnyH_ready (rs := [7]) (by kernel_rfl) (by simp) ?_
    refine AllReadyH.cons rfl (fun K hK => ?_) AllReadyH.nil
    go_simp
    go_wp2_with (go_at_call 36; refine (clockSet1 t0 t1 t2 n _).mono ?_; rintro _ w4 ⟨rfl, b4⟩; have h2d : Blk w.drew p2 28 #[.pointer (some ⟨g, 0, none⟩)] := h2; have hS0 : Blk w.drew g 70 _ := hSd; have h24 := h2d.below b4 h2d.lt; have hS4 := hS0.below b4 hS0.lt; have h25 := fun y0 y1 y2 => ((h24.far (p := ⟨g, 11, none⟩) hne y0).far (p := ⟨g, 12, none⟩) hne y1).far (p := ⟨g, 13, none⟩) hne y2; have g11 := hS4.cell 11; have g12 := hS4.cell 12; have g13 := hS4.cell 13; have u11 := hS4.frozen 11; have u12 := hS4.frozen 12; have u13 := hS4.frozen 13)
    refine hK.out _ _ ?_ (fun hHeld => ?_)
    · try dsimp only
      (first | exact q2 | exact h24.cell 0 | exact (h25 _ _ _).cell 0)
    clear hK K
    refine wpAnyH_take (i := 8) (v := ?q2v8) rfl (by kernel_rfl) (by kernel_rfl) (by kernel_rfl) (by intro _ _ _ h; exact h) (Or.inl ⟨by rfl, ?q2hy8⟩) (by assumption) ?q2rest8
    case q2hy8 => (intro w hSw; (try dsimp only at hSw); go_simp; try with_reducible rfl)
    try simp only [Act.put, List.getElem_toArray, List.getElem_cons_succ, List.getElem_cons_zero, List.setIfInBounds_toArray, List.set_cons_zero, List.set_cons_succ]
    refine wpAnyH_take (i := 9) (v := ?q2v9) rfl (by kernel_rfl) (by kernel_rfl) (by kernel_rfl) (by intro _ _ _ h; exact h) (Or.inl ⟨by rfl, ?q2hy9⟩) (by assumption) ?q2rest9
    case q2hy9 => (intro w hSw; (try dsimp only at hSw); go_simp; try with_reducible rfl)
    try simp only [Act.put, List.getElem_toArray, List.getElem_cons_succ, List.getElem_cons_zero, List.setIfInBounds_toArray, List.set_cons_zero, List.set_cons_succ]
    refine wpAnyH_ready (rs := [10]) (by kernel_rfl) (by simp) ?_
    refine AllReadyH.cons rfl (fun K hK => ?_) AllReadyH.nil
    go_simp
    go_wp2_with (fail)
    refine hK.out _ _ ?_ (fun hHeld => ?_)
    · try dsimp only
      (first | exact q2 | exact h24.cell 0 | exact (h25 _ _ _).cell 0)
    clear hK K
    refine wpAnyH_done (by kernel_rfl) ?_ _
    clear g11 g12 g13 u11 u12 u13 s11 s12 s13
    go_wp2_with fail
    go_returns
    refine ⟨rfl, ?_, ?_⟩
    · rw [HV.out]
      have k := ((hS4.set_ 11 (.int .i64 (t0))).set_ 12 (.int .i64 (pos n))).set_ 13 (.int .i64 (t2))
      simp only [List.setIfInBounds_toArray, List.set_cons_succ, List.set_cons_zero] at k
      exact k
    · exact (((Sm.of_below ((Below.refl w.heap.size w).drew.trans b4) (Nat.le_refl _)).setCell (p := ⟨g, 11, none⟩) (.inr (by simp)) _).setCell (p := ⟨g, 12, none⟩) (.inr (by simp)) _).setCell (p := ⟨g, 13, none⟩) (.inr (by simp)) _
set_option maxHeartbeats 2000000 in
set_option maxRecDepth 100000 in
theorem timSet2 (K : SesK) (V : SesV) (d k n : Int) (p1 p2 g : Nat) (w : World) (h1 : Blk w p1 3 #[.int .i64 d]) (h2 : Blk w p2 28 #[.pointer (some ⟨g, 0, none⟩)]) (hS : Blk w g 70 (sesC K V)) (hne : p2 ≠ g) :
    Calls Tryd.prog 35 #[.int .i64 k, .int .i64 2, .int .i64 n, .pointer (some ⟨p1, 0, none⟩), .pointer (some ⟨p2, 0, none⟩)] w fun en w' => en = .returned (.tuple #[]) ∧ Blk w' g 70 (sesC K (timP 2 d k n V)) ∧ Sm w.heap.size [g] w w' := by
  have hgl := hS.lt
  have q1 := h1.cell 0
  have q2 := h2.cell 0
  cases hb : bitB d k
  · have HV := Lib.hid (show timP 2 d k n V = V by unfold timP; rw [hb]; rfl)
    unfold bitB at hb
    go_enter Tryd.func35, Tryd.ntmps35
    go_wp2_with fail
    go_returns
    exact ⟨rfl, by rw [HV.out]; exact hS, Sm.refl _ _ _⟩
  · obtain ⟨st, t0, t1, t2, wd, id, ho⟩ := V
    have HV := Lib.hid (show timP 2 d k n ⟨st, t0, t1, t2, wd, id, ho⟩ = ⟨st, t0, t1, pos n, wd, id, ho⟩ by unfold timP; rw [hb]; rfl)
    have hSd : Blk w g 70 #[.int .u32 K.la, .int .u32 K.li, .int .u32 K.lx, .int .i64 K.lh, .int .u32 K.pa, .int .u32 K.pd, .int .i64 K.pl, .slice K.Ai K.ni K.ci, .slice K.Ao K.no K.co, .bool K.ps, .int .i64 st, .int .i64 t0, .int .i64 t1, .int .i64 t2, .bool wd, .int .u32 id, .int .i64 ho] := hS
    unfold bitB at hb
    go_enter Tryd.func35, Tryd.ntmps35
    go_upto_region 1 with fail
    have s11 := hSd.cell 11
    have s12 := hSd.cell 12
    have s13 := hSd.cell 13
    refine wp_region_held_drew (S := (fun w' => w'.cell? ⟨p2, 0, none⟩ = some (.pointer (some ⟨g, 0, none⟩)))) (by kernel_rfl) ?_ (fun hHeld => ?_)
    · (first | exact q2 | exact h24.cell 0 | exact (h25 _ _ _).cell 0)
    refine wpAnyH_take (i := 0) (v := ?q3v0) rfl (by kernel_rfl) (by kernel_rfl) (by kernel_rfl) (by intro _ _ _ h; exact h) (Or.inl ⟨by rfl, ?q3hy0⟩) (by assumption) ?q3rest0
    case q3hy0 => (intro w hSw; (try dsimp only at hSw); go_simp; try with_reducible rfl)
    try simp only [Act.put, List.getElem_toArray, List.getElem_cons_succ, List.getElem_cons_zero, List.setIfInBounds_toArray, List.set_cons_zero, List.set_cons_succ]
    refine wpAnyH_take (i := 1) (v := ?q3v1) rfl (by kernel_rfl) (by kernel_rfl) (by kernel_rfl) (by intro _ _ _ h; exact h) (Or.inl ⟨by rfl, ?q3hy1⟩) (by assumption) ?q3rest1
    case q3hy1 => (intro w hSw; (try dsimp only at hSw); go_simp; try with_reducible rfl)
    try simp only [Act.put, List.getElem_toArray, List.getElem_cons_succ, List.getElem_cons_zero, List.setIfInBounds_toArray, List.set_cons_zero, List.set_cons_succ]
    refine wpAnyH_take (i := 2) (v := ?q3v2) rfl (by kernel_rfl) (by kernel_rfl) (by kernel_rfl) (by intro _ _ _ h; exact h) (Or.inl ⟨by rfl, ?q3hy2⟩) (by assumption) ?q3rest2
    case q3hy2 => (intro w hSw; (try dsimp only at hSw); go_simp; try with_reducible rfl)
    try simp only [Act.put, List.getElem_toArray, List.getElem_cons_succ, List.getElem_cons_zero, List.setIfInBounds_toArray, List.set_cons_zero, List.set_cons_succ]
    refine wpAnyH_take (i := 3) (v := ?q3v3) rfl (by kernel_rfl) (by kernel_rfl) (by kernel_rfl) (by intro _ _ _ h; exact h) (Or.inl ⟨by rfl, ?q3hy3⟩) (by assumption) ?q3rest3
    case q3hy3 => (intro w hSw; (try dsimp only at hSw); go_simp; try with_reducible rfl)
    try simp only [Act.put, List.getElem_toArray, List.getElem_cons_succ, List.getElem_cons_zero, List.setIfInBounds_toArray, List.set_cons_zero, List.set_cons_succ]
    refine wpAnyH_take (i := 5) (v := ?q3v5) rfl (by kernel_rfl) (by kernel_rfl) (by kernel_rfl) (by intro _ _ _ h; exact h) (Or.inl ⟨by rfl, ?q3hy5⟩) (by assumption) ?q3rest5
    case q3hy5 => (intro w hSw; (try dsimp only at hSw); go_simp; try with_reducible rfl)
    try simp only [Act.put, List.getElem_toArray, List.getElem_cons_succ, List.getElem_cons_zero, List.setIfInBounds_toArray, List.set_cons_zero, List.set_cons_succ]
    refine wpAnyH_take (i := 6) (v := ?q3v6) rfl (by kernel_rfl) (by kernel_rfl) (by kernel_rfl) (by intro _ _ _ h; exact h) (Or.inl ⟨by rfl, ?q3hy6⟩) (by assumption) ?q3rest6
    case q3hy6 => (intro w hSw; (try dsimp only at hSw); go_simp; try with_reducible rfl)
    try simp only [Act.put, List.getElem_toArray, List.getElem_cons_succ, List.getElem_cons_zero, List.setIfInBounds_toArray, List.set_cons_zero, List.set_cons_succ]
    refine wpAnyH_ready (rs := [4]) (by kernel_rfl) (by simp) ?_
    refine AllReadyH.cons rfl (fun K hK => ?_) AllReadyH.nil
    go_simp
    go_wp2_with (fail)
    refine hK.out _ _ ?_ (fun hHeld => ?_)
    · try dsimp only
      (first | exact q2 | exact h24.cell 0 | exact (h25 _ _ _).cell 0)
    clear hK K
    refine wpAnyH_ready (rs := [7]) (by kernel_rfl) (by simp) ?_
    refine AllReadyH.cons rfl (fun K hK => ?_) AllReadyH.nil
    go_simp
    go_wp2_with (go_at_call 36; refine (clockSet2 t0 t1 t2 n _).mono ?_; rintro _ w4 ⟨rfl, b4⟩; have h2d : Blk w.drew p2 28 #[.pointer (some ⟨g, 0, none⟩)] := h2; have hS0 : Blk w.drew g 70 _ := hSd; have h24 := h2d.below b4 h2d.lt; have hS4 := hS0.below b4 hS0.lt; have h25 := fun y0 y1 y2 => ((h24.far (p := ⟨g, 11, none⟩) hne y0).far (p := ⟨g, 12, none⟩) hne y1).far (p := ⟨g, 13, none⟩) hne y2; have g11 := hS4.cell 11; have g12 := hS4.cell 12; have g13 := hS4.cell 13; have u11 := hS4.frozen 11; have u12 := hS4.frozen 12; have u13 := hS4.frozen 13)
    refine hK.out _ _ ?_ (fun hHeld => ?_)
    · try dsimp only
      (first | exact q2 | exact h24.cell 0 | exact (h25 _ _ _).cell 0)
    clear hK K
    refine wpAnyH_take (i := 8) (v := ?q3v8) rfl (by kernel_rfl) (by kernel_rfl) (by kernel_rfl) (by intro _ _ _ h; exact h) (Or.inl ⟨by rfl, ?q3hy8⟩) (by assumption) ?q3rest8
    case q3hy8 => (intro w hSw; (try dsimp only at hSw); go_simp; try with_reducible rfl)
    try simp only [Act.put, List.getElem_toArray, List.getElem_cons_succ, List.getElem_cons_zero, List.setIfInBounds_toArray, List.set_cons_zero, List.set_cons_succ]
    refine wpAnyH_take (i := 9) (v := ?q3v9) rfl (by kernel_rfl) (by kernel_rfl) (by kernel_rfl) (by intro _ _ _ h; exact h) (Or.inl ⟨by rfl, ?q3hy9⟩) (by assumption) ?q3rest9
    case q3hy9 => (intro w hSw; (try dsimp only at hSw); go_simp; try with_reducible rfl)
    try simp only [Act.put, List.getElem_toArray, List.getElem_cons_succ, List.getElem_cons_zero, List.setIfInBounds_toArray, List.set_cons_zero, List.set_cons_succ]
    refine wpAnyH_ready (rs := [10]) (by kernel_rfl) (by simp) ?_
    refine AllReadyH.cons rfl (fun K hK => ?_) AllReadyH.nil
    go_simp
    go_wp2_with (fail)
    refine hK.out _ _ ?_ (fun hHeld => ?_)
    · try dsimp only
      (first | exact q2 | exact h24.cell 0 | exact (h25 _ _ _).cell 0)
    clear hK K
    refine wpAnyH_done (by kernel_rfl) ?_ _
    clear g11 g12 g13 u11 u12 u13 s11 s12 s13
    go_wp2_with fail
    go_returns
    refine ⟨rfl, ?_, ?_⟩
    · rw [HV.out]
      have k := ((hS4.set_ 11 (.int .i64 (t0))).set_ 12 (.int .i64 (t1))).set_ 13 (.int .i64 (pos n))
      simp only [List.setIfInBounds_toArray, List.set_cons_succ, List.set_cons_zero] at k
      exact k
    · exact (((Sm.of_below ((Below.refl w.heap.size w).drew.trans b4) (Nat.le_refl _)).setCell (p := ⟨g, 11, none⟩) (.inr (by simp)) _).setCell (p := ⟨g, 12, none⟩) (.inr (by simp)) _).setCell (p := ⟨g, 13, none⟩) (.inr (by simp)) _
theorem tdiv3 {ho : Int} (h0 : 0 ≤ ho) (h1 : ho ≤ 65535) : IntKind.i64.wrap (ho.tdiv 3) = ho.tdiv 3 := by
  have e : ho.tdiv 3 = ho / 3 := by rw [Int.tdiv_eq_ediv_of_nonneg h0]
  rw [e]
  exact IntWalk.i64_in _ ⟨by omega, by omega⟩
theorem sesT_eq (d : Int) (V : SesV) {V1 V2 V3 V4 V5 : SesV} (h1 : V1 = timA d V) (h2 : V2 = timP 0 d 128 10 V1) (h3 : V3 = timP 1 d 256 240 V2) (h4 : V4 = timP 1 d 512 V.ho V3) (h5 : V5 = timP 2 d 1024 (V.ho.tdiv 3) V4) : V5 = sesT d V := by
  subst h1 h2 h3 h4 h5
  rfl
theorem Sm.self {B g : Nat} {w w' : World} (h : Sm B [g] w w') {x : Nat} {t : TypeId} {cs : Array Value} (hx : Blk w x t cs) (hl : x < B) (hn : x ≠ g) : Blk w' x t cs := h.blk hx hl (by simpa using hn)
set_option maxHeartbeats 4000000 in
set_option maxRecDepth 100000 in
theorem sesTimes (K : SesK) (V : SesV) (d : Int) (g : Nat) (w : World) (hS : Blk w g 70 (sesC K V)) (hh0 : 0 ≤ V.ho) (hh1 : V.ho ≤ 65535) :
    Calls Tryd.prog 24 #[.pointer (some ⟨g, 0, none⟩), .int .i64 d] w fun en w' => en = .returned (.tuple #[]) ∧ Blk w' g 70 (sesC K (sesT d V)) ∧ Sm w.heap.size [g] w w' := by
  obtain ⟨W, hW, hP, hD, b0⟩ := boxes2 w #[.pointer (some ⟨g, 0, none⟩)] #[.int .i64 d] 28 3
  have HW := Lib.hid hW
  clear hW
  have hgl := hS.lt
  have hPl := hP.lt
  have hDl := hD.lt
  have hS0 := hS.below b0 hgl
  have HQ := Lib.hid (show IntKind.i64.wrap (V.ho.tdiv 3) = V.ho.tdiv 3 from tdiv3 hh0 hh1)
  go_enter Tryd.func24, Tryd.ntmps24
  go_upto_region 1 with fail
  rw [HW.out]
  have p0 := hP.cell 0
  have d0 := hD.cell 0
  have m0 : Sm w.heap.size [g] w W := Sm.of_below b0 (Nat.le_refl _)
  cases hb : bitB d 2048
  · obtain ⟨V1, hV1⟩ : ∃ V1, V1 = timA d V := ⟨_, rfl⟩
    have eV : V1 = V := by rw [hV1]; unfold timA; rw [hb]; rfl
    have HV1 := Lib.hid hV1
    have S1 : Blk W g 70 (sesC K V1) := by rw [eV]; exact hS0
    have P1 := hP
    have D1 := hD
    have m1 := m0
    have hz1 := m1.size
    clear hV1 eV
    unfold bitB at hb
    go_wp2_with fail
    refine (timSet0 K V1 d 128 10 (w.heap.size + 1) w.heap.size g _ D1 P1 S1 (by omega)).mono ?_
    rintro _ w2 ⟨rfl, S2, m2⟩
    have P2 := m2.self P1 P1.lt (by omega)
    have D2 := m2.self D1 D1.lt (by omega)
    have n2 := m1.trans (m2.less hz1)
    have hz2 := n2.size
    obtain ⟨V2, hV2⟩ : ∃ V2, V2 = timP 0 d 128 10 V1 := ⟨_, rfl⟩
    rw [← hV2] at S2
    have HV2 := Lib.hid hV2
    clear hV2 P1 D1 S1
    go_wp2_with fail
    refine (timSet1 K V2 d 256 240 (w.heap.size + 1) w.heap.size g _ D2 P2 S2 (by omega)).mono ?_
    rintro _ w3 ⟨rfl, S3, m3⟩
    have P3 := m3.self P2 P2.lt (by omega)
    have D3 := m3.self D2 D2.lt (by omega)
    have n3 := n2.trans (m3.less hz2)
    have hz3 := n3.size
    obtain ⟨V3, hV3⟩ : ∃ V3, V3 = timP 1 d 256 240 V2 := ⟨_, rfl⟩
    rw [← hV3] at S3
    have o3 : V3.ho = V.ho := by rw [hV3, timP_ho, HV2.out, timP_ho, HV1.out, timA_ho]
    have HV3 := Lib.hid hV3
    clear hV3 P2 D2 S2
    have p3 := P3.cell 0
    have e3 : w3.cell? ⟨g, 16, none⟩ = some (.int .i64 V.ho) := by rw [← o3]; exact S3.cell 16
    go_wp2_with fail
    refine (timSet1 K V3 d 512 V.ho (w.heap.size + 1) w.heap.size g _ D3 P3 S3 (by omega)).mono ?_
    rintro _ w4 ⟨rfl, S4, m4⟩
    have P4 := m4.self P3 P3.lt (by omega)
    have D4 := m4.self D3 D3.lt (by omega)
    have n4 := n3.trans (m4.less hz3)
    have hz4 := n4.size
    obtain ⟨V4, hV4⟩ : ∃ V4, V4 = timP 1 d 512 V.ho V3 := ⟨_, rfl⟩
    rw [← hV4] at S4
    have o4 : V4.ho = V.ho := by rw [hV4, timP_ho, o3]
    have HV4 := Lib.hid hV4
    clear hV4 P3 D3 S3 p3 e3
    have p4 := P4.cell 0
    have e4 : w4.cell? ⟨g, 16, none⟩ = some (.int .i64 V.ho) := by rw [← o4]; exact S4.cell 16
    have hq := HQ.out
    go_wp2_with fail
    refine (timSet2 K V4 d 1024 (V.ho.tdiv 3) (w.heap.size + 1) w.heap.size g _ D4 P4 S4 (by omega)).mono ?_
    rintro _ w5 ⟨rfl, S5, m5⟩
    have n5 := n4.trans (m5.less hz4)
    clear hq p4 e4
    go_wp2_with fail
    go_returns
    exact ⟨rfl, by rw [← sesT_eq d V HV1.out HV2.out HV3.out HV4.out rfl]; exact S5, n5⟩
  · obtain ⟨st, t0, t1, t2, wd, id, ho⟩ := V
    obtain ⟨V, hVV⟩ : ∃ V : SesV, V = ⟨st, t0, t1, t2, wd, id, ho⟩ := ⟨_, rfl⟩
    have eo : ho = V.ho := by rw [hVV]
    have eV : timA d V = ⟨st, 0, 0, 0, wd, id, ho⟩ := by rw [hVV]; unfold timA; rw [hb]; rfl
    have HVV := Lib.hid hVV
    have HQ := Lib.hid (show IntKind.i64.wrap (V.ho.tdiv 3) = V.ho.tdiv 3 by rw [hVV]; exact HQ.out)
    clear hh0 hh1
    obtain ⟨V1, hV1⟩ : ∃ V1, V1 = timA d V := ⟨_, rfl⟩
    have HV1 := Lib.hid hV1
    have hS1 : Blk W g 70 #[.int .u32 K.la, .int .u32 K.li, .int .u32 K.lx, .int .i64 K.lh, .int .u32 K.pa, .int .u32 K.pd, .int .i64 K.pl, .slice K.Ai K.ni K.ci, .slice K.Ao K.no K.co, .bool K.ps, .int .i64 st, .int .i64 t0, .int .i64 t1, .int .i64 t2, .bool wd, .int .u32 id, .int .i64 ho] := hS0
    have x1 := hS1.cell 11
    have x2 := hS1.cell 12
    have x3 := hS1.cell 13
    have y1 := hS1.frozen 11
    have y2 := hS1.frozen 12
    have y3 := hS1.frozen 13
    have k := ((hS1.set_ 11 (.int .i64 0)).set_ 12 (.int .i64 0)).set_ 13 (.int .i64 0)
    simp only [List.setIfInBounds_toArray, List.set_cons_succ, List.set_cons_zero] at k
    have S1 : Blk _ g 70 (sesC K V1) := (by rw [hV1, eV]; exact k)
    have m1 := ((m0.setCell (p := ⟨g, 11, none⟩) (.inr (by simp)) (.int .i64 0)).setCell (p := ⟨g, 12, none⟩) (.inr (by simp)) (.int .i64 0)).setCell (p := ⟨g, 13, none⟩) (.inr (by simp)) (.int .i64 0)
    have P1 := ((hP.far (p := ⟨g, 11, none⟩) (by show _ ≠ g; omega) (.int .i64 0)).far (p := ⟨g, 12, none⟩) (by show _ ≠ g; omega) (.int .i64 0)).far (p := ⟨g, 13, none⟩) (by show _ ≠ g; omega) (.int .i64 0)
    have D1 := ((hD.far (p := ⟨g, 11, none⟩) (by show _ ≠ g; omega) (.int .i64 0)).far (p := ⟨g, 12, none⟩) (by show _ ≠ g; omega) (.int .i64 0)).far (p := ⟨g, 13, none⟩) (by show _ ≠ g; omega) (.int .i64 0)
    have hz1 := m1.size
    clear hV1 eV hVV eo k
    unfold bitB at hb
    go_wp2_with fail
    clear x1 x2 x3 y1 y2 y3 hS1
    refine (timSet0 K V1 d 128 10 (w.heap.size + 1) w.heap.size g _ D1 P1 S1 (by omega)).mono ?_
    rintro _ w2 ⟨rfl, S2, m2⟩
    have P2 := m2.self P1 P1.lt (by omega)
    have D2 := m2.self D1 D1.lt (by omega)
    have n2 := m1.trans (m2.less hz1)
    have hz2 := n2.size
    obtain ⟨V2, hV2⟩ : ∃ V2, V2 = timP 0 d 128 10 V1 := ⟨_, rfl⟩
    rw [← hV2] at S2
    have HV2 := Lib.hid hV2
    clear hV2 P1 D1 S1
    go_wp2_with fail
    refine (timSet1 K V2 d 256 240 (w.heap.size + 1) w.heap.size g _ D2 P2 S2 (by omega)).mono ?_
    rintro _ w3 ⟨rfl, S3, m3⟩
    have P3 := m3.self P2 P2.lt (by omega)
    have D3 := m3.self D2 D2.lt (by omega)
    have n3 := n2.trans (m3.less hz2)
    have hz3 := n3.size
    obtain ⟨V3, hV3⟩ : ∃ V3, V3 = timP 1 d 256 240 V2 := ⟨_, rfl⟩
    rw [← hV3] at S3
    have o3 : V3.ho = V.ho := by rw [hV3, timP_ho, HV2.out, timP_ho, HV1.out, timA_ho]
    have HV3 := Lib.hid hV3
    clear hV3 P2 D2 S2
    have p3 := P3.cell 0
    have e3 : w3.cell? ⟨g, 16, none⟩ = some (.int .i64 V.ho) := by rw [← o3]; exact S3.cell 16
    go_wp2_with fail
    refine (timSet1 K V3 d 512 V.ho (w.heap.size + 1) w.heap.size g _ D3 P3 S3 (by omega)).mono ?_
    rintro _ w4 ⟨rfl, S4, m4⟩
    have P4 := m4.self P3 P3.lt (by omega)
    have D4 := m4.self D3 D3.lt (by omega)
    have n4 := n3.trans (m4.less hz3)
    have hz4 := n4.size
    obtain ⟨V4, hV4⟩ : ∃ V4, V4 = timP 1 d 512 V.ho V3 := ⟨_, rfl⟩
    rw [← hV4] at S4
    have o4 : V4.ho = V.ho := by rw [hV4, timP_ho, o3]
    have HV4 := Lib.hid hV4
    clear hV4 P3 D3 S3 p3 e3
    have p4 := P4.cell 0
    have e4 : w4.cell? ⟨g, 16, none⟩ = some (.int .i64 V.ho) := by rw [← o4]; exact S4.cell 16
    have hq := HQ.out
    go_wp2_with fail
    refine (timSet2 K V4 d 1024 (V.ho.tdiv 3) (w.heap.size + 1) w.heap.size g _ D4 P4 S4 (by omega)).mono ?_
    rintro _ w5 ⟨rfl, S5, m5⟩
    have n5 := n4.trans (m5.less hz4)
    clear hq p4 e4
    go_wp2_with fail
    go_returns
    exact ⟨rfl, by rw [← HVV.out, ← sesT_eq d V HV1.out HV2.out HV3.out HV4.out rfl]; exact S5, n5⟩
end Go.Proofs.YthgjknmfghjioaaDoor
