/- Walks of layer 4 (attributes): the end of a reading. No conditions but sizes. -/
import Derived.Test.YtlpkngjeihoknaaDoorProg
import Derived.WalkKit
import Derived.WalkSpells
import Derived.WalkLawsBesides
import Derived.Outline
import Derived.Deep.QuietTactic
import Derived.BigQuiet
import Derived.Handy
import Derived.Lib.Hide
import Derived.Laws.Cover4
import Derived.OrdersHeld
import Derived.Deep.RegionHeld
import Derived.Deep.DeepCutAuto
import Derived.Deep.CutBlock
import Derived.Test.YtlpkngjeihoknaaDoorAttQ
import Derived.Test.YtlpkngjeihoknaaDoorAttT
namespace Go.Proofs.YtlpkngjeihoknaaDoor
open Go.RowKit
set_option linter.unusedSimpArgs false
set_option linter.unusedVariables false
/-- What the end of a reading hands back. -/
def RetE (w : World) (B g : Nat) (gs : List Nat) (wide : Bool) (h : GH) (v' : Gr) (e : Ending) (w' : World) : Prop := e = .returned (.tuple #[]) ∧ Below B w w' ∧ ∃ h', GP w' B g gs wide h' v' ∧ Kp w w' (h.qt w [g]) (h'.qt w' [g])
set_option maxHeartbeats 8000000 in
set_option maxRecDepth 100000 in
theorem attEnd (B g : Nat) (gs : List Nat) (h : GH) (v : Gr) (wide : Bool) (w : World) (P : GP w B g gs wide h v) (D : BdX v) (hkl : v.kinds.length ≤ 100000) :
    Calls Tryd.prog 106 #[.pointer (some ⟨g, 0, none⟩)] w (RetE w B g gs wide h { v with a := endA wide v }) := by
  obtain ⟨res, hres⟩ : ∃ x, ({ v with a := endA wide v } : Gr) = x := ⟨_, rfl⟩
  rw [hres]
  have HRES := Lib.hid hres
  clear hres
  obtain ⟨ho, hho⟩ : ∃ x, v.hasOld = x := ⟨_, rfl⟩
  obtain ⟨os, hos⟩ : ∃ x, v.oldAS = x := ⟨_, rfl⟩
  have HHO := Lib.hid hho
  have HOS := Lib.hid hos
  have k11 : w.cell? ⟨g, 11, none⟩ = some (.slice h.ka h.kn h.kc) := P.blk.cell 11
  have k13 : w.cell? ⟨g, 13, none⟩ = some (.bool ho) := by rw [← hho]; exact P.blk.cell 13
  have k14 : w.cell? ⟨g, 14, none⟩ = some (.int .u32 os) := by rw [← hos]; exact P.blk.cell 14
  have k16 : w.cell? ⟨g, 16, none⟩ = some (.bool wide) := P.blk.cell 16
  clear hho hos
  have hgm := P.q.mem
  have KI : Kp w w (h.qt w [g]) (h.qt w [g]) := fun b hb => ⟨hb, rfl⟩
  cases wide
  case true =>
    have HE := Lib.hid (show res = v by rw [← HRES.out]; unfold endA; rw [if_pos (.inl rfl)])
    go_enter Tryd.func106, Tryd.ntmps106
    go_wp2_with fail
    go_returns
    rw [HE.out]
    exact ⟨rfl, Below.refl _ _, h, P, KI⟩
  case false =>
  have go1 : ∀ hx : ho = true ∧ os ≠ 23456, res = v := fun hx => by rw [← HRES.out]; unfold endA; rw [if_pos (.inr (by rw [HHO.out, HOS.out]; exact hx))]
  have go2 : (¬ (ho = true ∧ os ≠ 23456)) → res = { v with a := (let a : At := if hasN v.kinds 2 = true then { v.a with path := mergeA v.a.path v.more } else v.a; if ho = true ∧ 0 < v.newAS.length then { a with aggrAS := numF 4 v.newAS, aggrAddr := numSec 4 v.newAS } else a) } := fun hx => by rw [← HRES.out]; unfold endA; rw [if_neg (fun h0 => h0.elim (fun h0 => by cases h0) (by rw [HHO.out, HOS.out]; exact hx)), HHO.out]
  have GO1 := Lib.hid go1
  have GO2 := Lib.hid go2
  clear go1 go2
  obtain ⟨hb, hhb⟩ : ∃ x, hasN v.kinds 2 = x := ⟨_, rfl⟩
  have HCN := Lib.hid (show Calls Tryd.prog 101 #[.slice h.ka h.kn h.kc, .int .i64 2] w fun en w' => en = .returned (.bool hb) ∧ w = w' by rw [← hhb]; exact containsI h.ka h.kn h.kc v.kinds 2 w w.heap.size P.q.kinds.reads P.q.kinds.1 (by have := P.q.kinds.1; omega))
  have HHB := Lib.hid hhb
  have HM := Lib.hid (show ∀ w', DL rSeg 2 w' (Lo w') h.pa h.pn v.a.path → DL rSeg 2 w' (Lo w') h.ma h.mn v.more → Calls Tryd.prog 26 #[.slice h.pa h.pn h.pc, .slice h.ma h.mn h.mc] w' (RetP w' (mergeA v.a.path v.more)) from fun w' h1 h2 => by
    have s1 := sum_of D.path
    have s2 := sum_of D.more
    exact aspMerge h.pa h.pn h.pc v.a.path h.ma h.mn h.mc v.more w' h1 h2 (by have := h1.len; omega) (by have := h2.len; omega) (Lib.hid (by unfold big32; omega)) (Lib.hid (by unfold big32; omega)))
  have HNW := Lib.hid D.news
  have HNN := Lib.hid P.q.news.1
  clear hhb
  go_enter Tryd.func106, Tryd.ntmps106
  cases ho
  case false =>
    have cc : ¬ (false = true ∧ os ≠ 23456) := by rintro ⟨h0, _⟩; cases h0
    have HE1 := Lib.hid (GO2.out cc)
    have HCC := Lib.hid cc
    clear cc
    go_upto_region 1 with fail
    clear k14 k16
    go_wp2_with fail
    refine HCN.out.mono ?_
    rintro _ _ ⟨rfl, rfl⟩
    have k15 : w.cell? ⟨g, 15, none⟩ = some (.slice h.na h.nn h.nc) := P.blk.cell 15
    cases hb
    case false =>
      have HE2 := Lib.hid (show res = { v with a := (if false = true ∧ 0 < v.newAS.length then { v.a with aggrAS := numF 4 v.newAS, aggrAddr := numSec 4 v.newAS } else v.a) } by rw [HE1.out, HHB.out]; first | rfl | simp)
      clear k11
      have HF := Lib.hid (show res = v by rw [HE2.out, if_neg (by rintro ⟨h0, _⟩; cases h0)])
      go_wp2_with fail
      go_returns
      rw [HF.out]
      exact ⟨rfl, (Below.refl _ _), _, P, KI⟩
    case true =>
      have HE2 := Lib.hid (show res = { ({ v with a := { v.a with path := mergeA v.a.path v.more } }) with a := (if false = true ∧ 0 < v.newAS.length then { ({ v.a with path := mergeA v.a.path v.more } : At) with aggrAS := numF 4 v.newAS, aggrAddr := numSec 4 v.newAS } else { v.a with path := mergeA v.a.path v.more }) } by rw [HE1.out, HHB.out]; first | rfl | simp)
      have Pd := P.call ((Below.refl w.heap.size w).drew)
      have Kd := KI.trans (GQ.kcall h ((Below.refl w.heap.size w).drew))
      have bd : Below B w w.drew := (Below.refl _ _).drew
      go_upto_region 2 with fail
      rename_i hkk
      have HKK := Lib.hid hkk
      clear hkk
      obtain ⟨wd, hwd⟩ : ∃ x, w.drew = x := ⟨_, rfl⟩
      rw [hwd] at Pd Kd bd
      have HWD := Lib.hid hwd
      clear hwd k11 k13 k15
      have d1 : wd.cell? ⟨g, 1, none⟩ = some (.slice h.pa h.pn h.pc) := Pd.blk.cell 1
      have d12 : wd.cell? ⟨g, 12, none⟩ = some (.slice h.ma h.mn h.mc) := Pd.blk.cell 12
      have HMC := Lib.hid (HM.out wd (Pd.q.path.keep rSeg_ok (Kp.sub fun b hb => hb.1)) (Pd.q.more.keep rSeg_ok (Kp.sub fun b hb => hb.1)))
      have HEND := Lib.hid (show ∀ (A5 : Option Addr) (n5 c5 : Nat) (L5 : List (Seg × Hd)) (w5 : World), OP w5 wd.heap.size A5 n5 c5 L5 → L5.map (·.1) = mergeA v.a.path v.more → Below wd.heap.size wd w5 → w5.cell? ⟨g, 12, none⟩ = some (.slice h.ma h.mn h.mc) ∧ w5.cell? ⟨g, 1, none⟩ = some (.slice h.pa h.pn h.pc) ∧ w5.frozen? ⟨g, 1, none⟩ = false ∧ ∃ w6, w5.setCell ⟨g, 1, none⟩ (.slice A5 n5 c5) = w6 ∧ GP w6 B g gs false { h with pa := A5, pn := n5, pc := c5 } { v with a := { v.a with path := mergeA v.a.path v.more } } ∧ Kp w w6 (h.qt w [g]) (GH.qt { h with pa := A5, pn := n5, pc := c5 } w6 [g]) ∧ Below B w w6 from by
        intro A5 n5 c5 L5 w5 o5 hL5 b5
        have P5 := Pd.call b5
        have hdl := o5.dlF (S := h.qt w5 gs) (Pd.q.fresh b5.size)
        rw [hL5] at hdl
        have Q5 := P5.q.setPath (A := A5) (n := n5) (c := c5) hdl
        obtain ⟨P6, K6, b6⟩ := GP.head (i := 1) (u := .slice A5 n5 c5) (h' := { h with pa := A5, pn := n5, pc := c5 }) (v' := { v with a := { v.a with path := mergeA v.a.path v.more } }) P5.blk Q5 rfl
        exact ⟨P5.blk.cell 12, P5.blk.cell 1, P5.blk.frozen 1, _, rfl, P6, (Kd.trans (GQ.kcall h b5)).trans (K6 _ (by simp)), (btr bd b5 Pd.lo).trans b6⟩)
      clear Pd Kd bd
      refine wp_region_held_drew (S := (fun w' => w'.cell? ⟨g, 12, none⟩ = some (.slice h.ma h.mn h.mc))) (by kernel_rfl) ?_ (fun hHeld => ?_)
      · rw [HWD.out]; exact d12
      rw [HWD.out]
      rw [HWD.out] at hHeld
      refine wpAnyH_take (i := 0) (v := ?m1_v0) rfl (by kernel_rfl) (by kernel_rfl) (by kernel_rfl) (by intro _ _ _ h; exact h) (Or.inl ⟨by rfl, ?m1_hy0⟩) (by assumption) ?m1_rest0
      case m1_hy0 => (intro w hSw; (try dsimp only at hSw); go_simp; try with_reducible rfl)
      try simp only [Act.put, List.getElem_toArray, List.getElem_cons_succ, List.getElem_cons_zero, List.setIfInBounds_toArray, List.set_cons_zero, List.set_cons_succ]
      refine wpAnyH_take (i := 1) (v := ?m2_v1) rfl (by kernel_rfl) (by kernel_rfl) (by kernel_rfl) (by intro _ _ _ h; exact h) (Or.inl ⟨by rfl, ?m2_hy1⟩) (by assumption) ?m2_rest1
      case m2_hy1 => (intro w hSw; (try dsimp only at hSw); go_simp; try with_reducible rfl)
      try simp only [Act.put, List.getElem_toArray, List.getElem_cons_succ, List.getElem_cons_zero, List.setIfInBounds_toArray, List.set_cons_zero, List.set_cons_succ]
      refine wpAnyH_take (i := 2) (v := ?m3_v2) rfl (by kernel_rfl) (by kernel_rfl) (by kernel_rfl) (by intro _ _ _ h; exact h) (Or.inl ⟨by rfl, ?m3_hy2⟩) (by assumption) ?m3_rest2
      case m3_hy2 => (intro w hSw; (try dsimp only at hSw); go_simp; try with_reducible rfl)
      try simp only [Act.put, List.getElem_toArray, List.getElem_cons_succ, List.getElem_cons_zero, List.setIfInBounds_toArray, List.set_cons_zero, List.set_cons_succ]
      refine wpAnyH_take (i := 3) (v := ?m4_v3) rfl (by kernel_rfl) (by kernel_rfl) (by kernel_rfl) (by intro _ _ _ h; exact h) (Or.inl ⟨by rfl, ?m4_hy3⟩) (by assumption) ?m4_rest3
      case m4_hy3 => (intro w hSw; (try dsimp only at hSw); go_simp; try with_reducible rfl)
      try simp only [Act.put, List.getElem_toArray, List.getElem_cons_succ, List.getElem_cons_zero, List.setIfInBounds_toArray, List.set_cons_zero, List.set_cons_succ]
      refine wpAnyH_take (i := 4) (v := ?m5_v4) rfl (by kernel_rfl) (by kernel_rfl) (by kernel_rfl) (by intro _ _ _ h; exact h) (Or.inl ⟨by rfl, ?m5_hy4⟩) (by assumption) ?m5_rest4
      case m5_hy4 => (intro w hSw; (try dsimp only at hSw); go_simp; try with_reducible rfl)
      try simp only [Act.put, List.getElem_toArray, List.getElem_cons_succ, List.getElem_cons_zero, List.setIfInBounds_toArray, List.set_cons_zero, List.set_cons_succ]
      refine wpAnyH_take (i := 6) (v := ?m6_v6) rfl (by kernel_rfl) (by kernel_rfl) (by kernel_rfl) (by intro _ _ _ h; exact h) (Or.inl ⟨by rfl, ?m6_hy6⟩) (by assumption) ?m6_rest6
      case m6_hy6 => (intro w hSw; (try dsimp only at hSw); go_simp; try with_reducible rfl)
      try simp only [Act.put, List.getElem_toArray, List.getElem_cons_succ, List.getElem_cons_zero, List.setIfInBounds_toArray, List.set_cons_zero, List.set_cons_succ]
      refine wpAnyH_take (i := 7) (v := ?m7_v7) rfl (by kernel_rfl) (by kernel_rfl) (by kernel_rfl) (by intro _ _ _ h; exact h) (Or.inl ⟨by rfl, ?m7_hy7⟩) (by assumption) ?m7_rest7
      case m7_hy7 => (intro w hSw; (try dsimp only at hSw); go_simp; try with_reducible rfl)
      try simp only [Act.put, List.getElem_toArray, List.getElem_cons_succ, List.getElem_cons_zero, List.setIfInBounds_toArray, List.set_cons_zero, List.set_cons_succ]
      refine wpAnyH_take (i := 8) (v := ?m8_v8) rfl (by kernel_rfl) (by kernel_rfl) (by kernel_rfl) (by intro _ _ _ h; exact h) (Or.inl ⟨by rfl, ?m8_hy8⟩) (by assumption) ?m8_rest8
      case m8_hy8 => (intro w hSw; (try dsimp only at hSw); go_simp; try with_reducible rfl)
      try simp only [Act.put, List.getElem_toArray, List.getElem_cons_succ, List.getElem_cons_zero, List.setIfInBounds_toArray, List.set_cons_zero, List.set_cons_succ]
      refine wpAnyH_take (i := 9) (v := ?m9_v9) rfl (by kernel_rfl) (by kernel_rfl) (by kernel_rfl) (by intro _ _ _ h; exact h) (Or.inl ⟨by rfl, ?m9_hy9⟩) (by assumption) ?m9_rest9
      case m9_hy9 => (intro w hSw; (try dsimp only at hSw); go_simp; try with_reducible rfl)
      try simp only [Act.put, List.getElem_toArray, List.getElem_cons_succ, List.getElem_cons_zero, List.setIfInBounds_toArray, List.set_cons_zero, List.set_cons_succ]
      refine wpAnyH_ready (rs := [5]) (by kernel_rfl) (by simp) ?_
      refine AllReadyH.cons rfl (fun K hK => ?_) AllReadyH.nil
      go_simp
      go_wp2_with (fail)
      refine hK.out _ _ ?_ (fun hHeld => ?_)
      · try dsimp only
        exact d12
      clear hK K
      refine wpAnyH_ready (rs := [10]) (by kernel_rfl) (by simp) ?_
      refine AllReadyH.cons rfl (fun K hK => ?_) AllReadyH.nil
      go_simp
      go_wp2_with ((go_at_call 26; refine HMC.out.mono ?_; rintro _ w5 ⟨A5, n5, c5, L5, rfl, o5, hL5, b5⟩; obtain ⟨e12, e1, f1, w6, hw6, HH⟩ := HEND.out A5 n5 c5 L5 w5 o5 hL5 b5; have HW6 := Lib.hid hw6; have HH6 := Lib.hid HH; clear hw6 HH o5 hL5 b5))
      refine hK.out _ _ ?_ (fun hHeld => ?_)
      · try dsimp only
        exact e12
      clear hK K
      refine wpAnyH_take (i := 11) (v := ?m10_v11) rfl (by kernel_rfl) (by kernel_rfl) (by kernel_rfl) (by intro _ _ _ h; exact h) (Or.inl ⟨by rfl, ?m10_hy11⟩) (by assumption) ?m10_rest11
      case m10_hy11 => (intro w hSw; (try dsimp only at hSw); go_simp; try with_reducible rfl)
      try simp only [Act.put, List.getElem_toArray, List.getElem_cons_succ, List.getElem_cons_zero, List.setIfInBounds_toArray, List.set_cons_zero, List.set_cons_succ]
      refine wpAnyH_take (i := 12) (v := ?m11_v12) rfl (by kernel_rfl) (by kernel_rfl) (by kernel_rfl) (by intro _ _ _ h; exact h) (Or.inl ⟨by rfl, ?m11_hy12⟩) (by assumption) ?m11_rest12
      case m11_hy12 => (intro w hSw; (try dsimp only at hSw); go_simp; try with_reducible rfl)
      try simp only [Act.put, List.getElem_toArray, List.getElem_cons_succ, List.getElem_cons_zero, List.setIfInBounds_toArray, List.set_cons_zero, List.set_cons_succ]
      refine wpAnyH_take (i := 13) (v := ?m12_v13) rfl (by kernel_rfl) (by kernel_rfl) (by kernel_rfl) (by intro _ _ _ h; exact h) (Or.inl ⟨by rfl, ?m12_hy13⟩) (by assumption) ?m12_rest13
      case m12_hy13 => (intro w hSw; (try dsimp only at hSw); go_simp; try with_reducible rfl)
      try simp only [Act.put, List.getElem_toArray, List.getElem_cons_succ, List.getElem_cons_zero, List.setIfInBounds_toArray, List.set_cons_zero, List.set_cons_succ]
      refine wpAnyH_ready (rs := [14]) (by kernel_rfl) (by simp) ?_
      refine AllReadyH.cons rfl (fun K hK => ?_) AllReadyH.nil
      go_simp
      go_wp2_with (fail)
      refine hK.out _ _ ?_ (fun hHeld => ?_)
      · try dsimp only
        rw [HW6.out]; exact HH6.out.1.blk.cell 12
      clear hK K
      refine wpAnyH_done (by kernel_rfl) ?_ _
      rw [HW6.out]
      refine HKK.out _ _ ?_
      obtain ⟨P6, K6, b6⟩ := HH6.out
      have k13 : w6.cell? ⟨g, 13, none⟩ = some (.bool false) := (P6.blk.cell 13).trans (congrArg (fun b => some (Value.bool b)) HHO.out)
      have k15 : w6.cell? ⟨g, 15, none⟩ = some (.slice h.na h.nn h.nc) := P6.blk.cell 15
      clear hHeld d1 d12 e12 e1 f1
      have HF := Lib.hid (show res = { v with a := { v.a with path := mergeA v.a.path v.more } } by rw [HE2.out, if_neg (by rintro ⟨h0, _⟩; cases h0)])
      go_wp2_with fail
      go_returns
      rw [HF.out]
      exact ⟨rfl, b6, _, P6, K6⟩
  case true =>
  by_cases co : os = 23456
  case neg =>
    have u1 : (os != 23456) = true := by simpa using co
    have HF := Lib.hid (GO1.out ⟨rfl, co⟩)
    clear co
    go_wp2_with fail
    go_returns
    rw [HF.out]
    exact ⟨rfl, Below.refl _ _, h, P, KI⟩
  have cc : ¬ (true = true ∧ os ≠ 23456) := fun h0 => h0.2 co
  have u0 : (os != 23456) = false := by simpa using co
  clear co
  have HE1 := Lib.hid (GO2.out cc)
  have HCC := Lib.hid cc
  clear cc
  go_upto_region 1 with fail
  clear k14 k16
  go_wp2_with fail
  refine HCN.out.mono ?_
  rintro _ _ ⟨rfl, rfl⟩
  have k15 : w.cell? ⟨g, 15, none⟩ = some (.slice h.na h.nn h.nc) := P.blk.cell 15
  cases hb
  case false =>
    have HE2 := Lib.hid (show res = { v with a := (if true = true ∧ 0 < v.newAS.length then { v.a with aggrAS := numF 4 v.newAS, aggrAddr := numSec 4 v.newAS } else v.a) } by rw [HE1.out, HHB.out]; first | rfl | simp)
    clear k11
    by_cases cn : 0 < h.nn
    case neg =>
      have HF := Lib.hid (show res = v by rw [HE2.out, if_neg (by rintro ⟨_, h0⟩; rw [← HNN.out] at h0; exact cn h0)])
      have u1 : decide ((0 : Int) < (h.nn : Int)) = false := decide_eq_false (by omega)
      have u2 : decide (0 < h.nn) = false := decide_eq_false cn
      clear cn
      go_wp2_with fail
      go_returns
      rw [HF.out]
      exact ⟨rfl, (Below.refl _ _), _, P, KI⟩
    have HF := Lib.hid (show res = { (v) with a := { (v : Gr).a with aggrAS := numF 4 v.newAS, aggrAddr := numSec 4 v.newAS } } by rw [HE2.out, if_pos (by rw [← HNN.out]; first | exact ⟨rfl, cn⟩ | exact ⟨trivial, cn⟩)])
    have u1 : decide ((0 : Int) < (h.nn : Int)) = true := decide_eq_true (by omega)
    have u2 : decide (0 < h.nn) = true := decide_eq_true cn
    clear cn
    have hnb := P.q.news
    go_wp2_with fail
    refine (rbNew h.na h.nn h.nc v.newAS w hnb.bsq (by have := HNN.out; have := HNW.out; omega)).mono ?_
    rintro _ w3 ⟨g1, rfl, hg, r3, b3⟩
    have P3 := P.add b3 (q := g1) hg r3.lt
    have K3 : Kp w w3 (h.qt w [g]) (GH.qt h w3 [g1, g]) := KI.trans (GQ.kadd _ b3 hg)
    have b03 := btr (Below.refl _ _) b3 P.lo
    have hgg : g ≠ g1 := by have := P.q.hi; omega
    have hg1B : B ≤ g1 := by have := P.lo; omega
    have hm1 : g1 ∈ g1 :: gs := List.mem_cons_self ..
    obtain ⟨Bd, hBd⟩ : ∃ x, w3.heap.size = x := ⟨_, rfl⟩
    rw [hBd] at r3
    have HBd := Lib.hid hBd
    clear hBd
    obtain ⟨V1, t1, s1, E1⟩ : ∃ v1 l1 s1, numL (tkOut v.newAS false (4 : Nat)) = v1 ∧ tkLeft v.newAS false (4 : Nat) = l1 ∧ tkShort v.newAS false (4 : Nat) = s1 := ⟨_, _, _, rfl, rfl, rfl⟩
    obtain ⟨V2, t2, s2, E2⟩ : ∃ v1 l1 s1', numL (tkOut t1 s1 (4 : Nat)) = v1 ∧ tkLeft t1 s1 (4 : Nat) = l1 ∧ tkShort t1 s1 (4 : Nat) = s1' := ⟨_, _, _, rfl, rfl, rfl⟩
    have HF1 := Lib.hid (show numF 4 v.newAS = (V1 : Int) by unfold numF; rw [E1.1])
    have HF2 := Lib.hid (show numSec 4 v.newAS = (V2 : Int) by unfold numSec; rw [E1.2.1, E1.2.2, E2.1])
    have hl0 : v.newAS.length ≤ 140737488355320 := by have := HNW.out; omega
    have hl1 : t1.length ≤ 140737488355320 := by rw [← E1.2.1]; exact Nat.le_trans (tkLeft_len _ _ _) hl0
    have HU1 := Lib.hid (show ∀ w', RB Bd w' g1 v.newAS false → Calls Tryd.prog 82 #[.pointer (some ⟨g1, 0, none⟩)] w' fun en w'' => en = .returned (.int .u32 (V1 : Nat)) ∧ RB Bd w'' g1 t1 s1 ∧ w'.grownBy w'' (some g1) from fun w' h => by have := rbU32 g1 v.newAS false w' h hl0; rw [E1.1, E1.2.1, E1.2.2] at this; exact this)
    have HU2 := Lib.hid (show ∀ w', RB Bd w' g1 t1 s1 → Calls Tryd.prog 82 #[.pointer (some ⟨g1, 0, none⟩)] w' fun en w'' => en = .returned (.int .u32 (V2 : Nat)) ∧ RB Bd w'' g1 t2 s2 ∧ w'.grownBy w'' (some g1) from fun w' h => by have := rbU32 g1 t1 s1 w' h hl1; rw [E2.1, E2.2.1, E2.2.2] at this; exact this)
    clear E1 E2 hl0 hl1
    go_wp2_with fail
    refine (HU1.out _ r3).mono ?_
    rintro _ w4 ⟨rfl, r4, g4⟩
    obtain ⟨cs3, hrb3⟩ := r3.blk
    obtain ⟨cs4, hrb4⟩ := r4.blk
    have P4 := P3.at_ hrb3 hm1 hgg (by decide) (by decide) (by decide) g4
    have K4 := K3.trans (GQ.kat _ (List.mem_cons_self ..) g4)
    have b04 := b03.grown g4 P3.lo (fun k hk => by injection hk with hk; subst hk; exact hg1B)
    go_wp2_with fail
    refine (HU2.out _ r4).mono ?_
    rintro _ w5 ⟨rfl, r5, g5⟩
    have P5 := P4.at_ hrb4 hm1 hgg (by decide) (by decide) (by decide) g5
    have K5 := K4.trans (GQ.kat _ (List.mem_cons_self ..) g5)
    have b05 := b04.grown g5 P4.lo (fun k hk => by injection hk with hk; subst hk; exact hg1B)
    have m7 := P5.blk.cell 7
    have m8 := P5.blk.cell 8
    have f7 := P5.blk.frozen 7
    have f8 := P5.blk.frozen 8
    go_wp2_with fail
    go_returns
    rw [HF.out, HF1.out, HF2.out]
    obtain ⟨P6, K6, b6⟩ := GP.store (i := 7) (u := .int .u32 (V1 : Int)) (v' := { (v) with a := { (v : Gr).a with aggrAS := (V1 : Int) } }) P5 rfl rfl rfl rfl rfl rfl rfl
    obtain ⟨P7, K7, b7⟩ := GP.store (i := 8) (u := .int .u32 (V2 : Int)) (v' := { (v) with a := { (v : Gr).a with aggrAS := (V1 : Int), aggrAddr := (V2 : Int) } }) P6 rfl rfl rfl rfl rfl rfl rfl
    exact ⟨rfl, (b05.trans b6).trans b7, _, P7.drop hgm, ((K5.trans (K6 _ (by simp))).trans (K7 _ (by simp))).trans (GQ.kdrop _ _)⟩
  case true =>
    have HE2 := Lib.hid (show res = { ({ v with a := { v.a with path := mergeA v.a.path v.more } }) with a := (if true = true ∧ 0 < v.newAS.length then { ({ v.a with path := mergeA v.a.path v.more } : At) with aggrAS := numF 4 v.newAS, aggrAddr := numSec 4 v.newAS } else { v.a with path := mergeA v.a.path v.more }) } by rw [HE1.out, HHB.out]; first | rfl | simp)
    have Pd := P.call ((Below.refl w.heap.size w).drew)
    have Kd := KI.trans (GQ.kcall h ((Below.refl w.heap.size w).drew))
    have bd : Below B w w.drew := (Below.refl _ _).drew
    go_upto_region 2 with fail
    rename_i hkk
    have HKK := Lib.hid hkk
    clear hkk
    obtain ⟨wd, hwd⟩ : ∃ x, w.drew = x := ⟨_, rfl⟩
    rw [hwd] at Pd Kd bd
    have HWD := Lib.hid hwd
    clear hwd k11 k13 k15
    have d1 : wd.cell? ⟨g, 1, none⟩ = some (.slice h.pa h.pn h.pc) := Pd.blk.cell 1
    have d12 : wd.cell? ⟨g, 12, none⟩ = some (.slice h.ma h.mn h.mc) := Pd.blk.cell 12
    have HMC := Lib.hid (HM.out wd (Pd.q.path.keep rSeg_ok (Kp.sub fun b hb => hb.1)) (Pd.q.more.keep rSeg_ok (Kp.sub fun b hb => hb.1)))
    have HEND := Lib.hid (show ∀ (A5 : Option Addr) (n5 c5 : Nat) (L5 : List (Seg × Hd)) (w5 : World), OP w5 wd.heap.size A5 n5 c5 L5 → L5.map (·.1) = mergeA v.a.path v.more → Below wd.heap.size wd w5 → w5.cell? ⟨g, 12, none⟩ = some (.slice h.ma h.mn h.mc) ∧ w5.cell? ⟨g, 1, none⟩ = some (.slice h.pa h.pn h.pc) ∧ w5.frozen? ⟨g, 1, none⟩ = false ∧ ∃ w6, w5.setCell ⟨g, 1, none⟩ (.slice A5 n5 c5) = w6 ∧ GP w6 B g gs false { h with pa := A5, pn := n5, pc := c5 } { v with a := { v.a with path := mergeA v.a.path v.more } } ∧ Kp w w6 (h.qt w [g]) (GH.qt { h with pa := A5, pn := n5, pc := c5 } w6 [g]) ∧ Below B w w6 from by
      intro A5 n5 c5 L5 w5 o5 hL5 b5
      have P5 := Pd.call b5
      have hdl := o5.dlF (S := h.qt w5 gs) (Pd.q.fresh b5.size)
      rw [hL5] at hdl
      have Q5 := P5.q.setPath (A := A5) (n := n5) (c := c5) hdl
      obtain ⟨P6, K6, b6⟩ := GP.head (i := 1) (u := .slice A5 n5 c5) (h' := { h with pa := A5, pn := n5, pc := c5 }) (v' := { v with a := { v.a with path := mergeA v.a.path v.more } }) P5.blk Q5 rfl
      exact ⟨P5.blk.cell 12, P5.blk.cell 1, P5.blk.frozen 1, _, rfl, P6, (Kd.trans (GQ.kcall h b5)).trans (K6 _ (by simp)), (btr bd b5 Pd.lo).trans b6⟩)
    clear Pd Kd bd
    refine wp_region_held_drew (S := (fun w' => w'.cell? ⟨g, 12, none⟩ = some (.slice h.ma h.mn h.mc))) (by kernel_rfl) ?_ (fun hHeld => ?_)
    · rw [HWD.out]; exact d12
    rw [HWD.out]
    rw [HWD.out] at hHeld
    refine wpAnyH_take (i := 0) (v := ?m13_v0) rfl (by kernel_rfl) (by kernel_rfl) (by kernel_rfl) (by intro _ _ _ h; exact h) (Or.inl ⟨by rfl, ?m13_hy0⟩) (by assumption) ?m13_rest0
    case m13_hy0 => (intro w hSw; (try dsimp only at hSw); go_simp; try with_reducible rfl)
    try simp only [Act.put, List.getElem_toArray, List.getElem_cons_succ, List.getElem_cons_zero, List.setIfInBounds_toArray, List.set_cons_zero, List.set_cons_succ]
    refine wpAnyH_take (i := 1) (v := ?m14_v1) rfl (by kernel_rfl) (by kernel_rfl) (by kernel_rfl) (by intro _ _ _ h; exact h) (Or.inl ⟨by rfl, ?m14_hy1⟩) (by assumption) ?m14_rest1
    case m14_hy1 => (intro w hSw; (try dsimp only at hSw); go_simp; try with_reducible rfl)
    try simp only [Act.put, List.getElem_toArray, List.getElem_cons_succ, List.getElem_cons_zero, List.setIfInBounds_toArray, List.set_cons_zero, List.set_cons_succ]
    refine wpAnyH_take (i := 2) (v := ?m15_v2) rfl (by kernel_rfl) (by kernel_rfl) (by kernel_rfl) (by intro _ _ _ h; exact h) (Or.inl ⟨by rfl, ?m15_hy2⟩) (by assumption) ?m15_rest2
    case m15_hy2 => (intro w hSw; (try dsimp only at hSw); go_simp; try with_reducible rfl)
    try simp only [Act.put, List.getElem_toArray, List.getElem_cons_succ, List.getElem_cons_zero, List.setIfInBounds_toArray, List.set_cons_zero, List.set_cons_succ]
    refine wpAnyH_take (i := 3) (v := ?m16_v3) rfl (by kernel_rfl) (by kernel_rfl) (by kernel_rfl) (by intro _ _ _ h; exact h) (Or.inl ⟨by rfl, ?m16_hy3⟩) (by assumption) ?m16_rest3
    case m16_hy3 => (intro w hSw; (try dsimp only at hSw); go_simp; try with_reducible rfl)
    try simp only [Act.put, List.getElem_toArray, List.getElem_cons_succ, List.getElem_cons_zero, List.setIfInBounds_toArray, List.set_cons_zero, List.set_cons_succ]
    refine wpAnyH_take (i := 4) (v := ?m17_v4) rfl (by kernel_rfl) (by kernel_rfl) (by kernel_rfl) (by intro _ _ _ h; exact h) (Or.inl ⟨by rfl, ?m17_hy4⟩) (by assumption) ?m17_rest4
    case m17_hy4 => (intro w hSw; (try dsimp only at hSw); go_simp; try with_reducible rfl)
    try simp only [Act.put, List.getElem_toArray, List.getElem_cons_succ, List.getElem_cons_zero, List.setIfInBounds_toArray, List.set_cons_zero, List.set_cons_succ]
    refine wpAnyH_take (i := 6) (v := ?m18_v6) rfl (by kernel_rfl) (by kernel_rfl) (by kernel_rfl) (by intro _ _ _ h; exact h) (Or.inl ⟨by rfl, ?m18_hy6⟩) (by assumption) ?m18_rest6
    case m18_hy6 => (intro w hSw; (try dsimp only at hSw); go_simp; try with_reducible rfl)
    try simp only [Act.put, List.getElem_toArray, List.getElem_cons_succ, List.getElem_cons_zero, List.setIfInBounds_toArray, List.set_cons_zero, List.set_cons_succ]
    refine wpAnyH_take (i := 7) (v := ?m19_v7) rfl (by kernel_rfl) (by kernel_rfl) (by kernel_rfl) (by intro _ _ _ h; exact h) (Or.inl ⟨by rfl, ?m19_hy7⟩) (by assumption) ?m19_rest7
    case m19_hy7 => (intro w hSw; (try dsimp only at hSw); go_simp; try with_reducible rfl)
    try simp only [Act.put, List.getElem_toArray, List.getElem_cons_succ, List.getElem_cons_zero, List.setIfInBounds_toArray, List.set_cons_zero, List.set_cons_succ]
    refine wpAnyH_take (i := 8) (v := ?m20_v8) rfl (by kernel_rfl) (by kernel_rfl) (by kernel_rfl) (by intro _ _ _ h; exact h) (Or.inl ⟨by rfl, ?m20_hy8⟩) (by assumption) ?m20_rest8
    case m20_hy8 => (intro w hSw; (try dsimp only at hSw); go_simp; try with_reducible rfl)
    try simp only [Act.put, List.getElem_toArray, List.getElem_cons_succ, List.getElem_cons_zero, List.setIfInBounds_toArray, List.set_cons_zero, List.set_cons_succ]
    refine wpAnyH_take (i := 9) (v := ?m21_v9) rfl (by kernel_rfl) (by kernel_rfl) (by kernel_rfl) (by intro _ _ _ h; exact h) (Or.inl ⟨by rfl, ?m21_hy9⟩) (by assumption) ?m21_rest9
    case m21_hy9 => (intro w hSw; (try dsimp only at hSw); go_simp; try with_reducible rfl)
    try simp only [Act.put, List.getElem_toArray, List.getElem_cons_succ, List.getElem_cons_zero, List.setIfInBounds_toArray, List.set_cons_zero, List.set_cons_succ]
    refine wpAnyH_ready (rs := [5]) (by kernel_rfl) (by simp) ?_
    refine AllReadyH.cons rfl (fun K hK => ?_) AllReadyH.nil
    go_simp
    go_wp2_with (fail)
    refine hK.out _ _ ?_ (fun hHeld => ?_)
    · try dsimp only
      exact d12
    clear hK K
    refine wpAnyH_ready (rs := [10]) (by kernel_rfl) (by simp) ?_
    refine AllReadyH.cons rfl (fun K hK => ?_) AllReadyH.nil
    go_simp
    go_wp2_with ((go_at_call 26; refine HMC.out.mono ?_; rintro _ w5 ⟨A5, n5, c5, L5, rfl, o5, hL5, b5⟩; obtain ⟨e12, e1, f1, w6, hw6, HH⟩ := HEND.out A5 n5 c5 L5 w5 o5 hL5 b5; have HW6 := Lib.hid hw6; have HH6 := Lib.hid HH; clear hw6 HH o5 hL5 b5))
    refine hK.out _ _ ?_ (fun hHeld => ?_)
    · try dsimp only
      exact e12
    clear hK K
    refine wpAnyH_take (i := 11) (v := ?m22_v11) rfl (by kernel_rfl) (by kernel_rfl) (by kernel_rfl) (by intro _ _ _ h; exact h) (Or.inl ⟨by rfl, ?m22_hy11⟩) (by assumption) ?m22_rest11
    case m22_hy11 => (intro w hSw; (try dsimp only at hSw); go_simp; try with_reducible rfl)
    try simp only [Act.put, List.getElem_toArray, List.getElem_cons_succ, List.getElem_cons_zero, List.setIfInBounds_toArray, List.set_cons_zero, List.set_cons_succ]
    refine wpAnyH_take (i := 12) (v := ?m23_v12) rfl (by kernel_rfl) (by kernel_rfl) (by kernel_rfl) (by intro _ _ _ h; exact h) (Or.inl ⟨by rfl, ?m23_hy12⟩) (by assumption) ?m23_rest12
    case m23_hy12 => (intro w hSw; (try dsimp only at hSw); go_simp; try with_reducible rfl)
    try simp only [Act.put, List.getElem_toArray, List.getElem_cons_succ, List.getElem_cons_zero, List.setIfInBounds_toArray, List.set_cons_zero, List.set_cons_succ]
    refine wpAnyH_take (i := 13) (v := ?m24_v13) rfl (by kernel_rfl) (by kernel_rfl) (by kernel_rfl) (by intro _ _ _ h; exact h) (Or.inl ⟨by rfl, ?m24_hy13⟩) (by assumption) ?m24_rest13
    case m24_hy13 => (intro w hSw; (try dsimp only at hSw); go_simp; try with_reducible rfl)
    try simp only [Act.put, List.getElem_toArray, List.getElem_cons_succ, List.getElem_cons_zero, List.setIfInBounds_toArray, List.set_cons_zero, List.set_cons_succ]
    refine wpAnyH_ready (rs := [14]) (by kernel_rfl) (by simp) ?_
    refine AllReadyH.cons rfl (fun K hK => ?_) AllReadyH.nil
    go_simp
    go_wp2_with (fail)
    refine hK.out _ _ ?_ (fun hHeld => ?_)
    · try dsimp only
      rw [HW6.out]; exact HH6.out.1.blk.cell 12
    clear hK K
    refine wpAnyH_done (by kernel_rfl) ?_ _
    rw [HW6.out]
    refine HKK.out _ _ ?_
    obtain ⟨P6, K6, b6⟩ := HH6.out
    have k13 : w6.cell? ⟨g, 13, none⟩ = some (.bool true) := (P6.blk.cell 13).trans (congrArg (fun b => some (Value.bool b)) HHO.out)
    have k15 : w6.cell? ⟨g, 15, none⟩ = some (.slice h.na h.nn h.nc) := P6.blk.cell 15
    clear hHeld d1 d12 e12 e1 f1
    by_cases cn : 0 < h.nn
    case neg =>
      have HF := Lib.hid (show res = { v with a := { v.a with path := mergeA v.a.path v.more } } by rw [HE2.out, if_neg (by rintro ⟨_, h0⟩; rw [← HNN.out] at h0; exact cn h0)])
      have u1 : decide ((0 : Int) < (h.nn : Int)) = false := decide_eq_false (by omega)
      have u2 : decide (0 < h.nn) = false := decide_eq_false cn
      clear cn
      go_wp2_with fail
      go_returns
      rw [HF.out]
      exact ⟨rfl, b6, _, P6, K6⟩
    have HF := Lib.hid (show res = { ({ v with a := { v.a with path := mergeA v.a.path v.more } }) with a := { ({ v with a := { v.a with path := mergeA v.a.path v.more } } : Gr).a with aggrAS := numF 4 v.newAS, aggrAddr := numSec 4 v.newAS } } by rw [HE2.out, if_pos (by rw [← HNN.out]; first | exact ⟨rfl, cn⟩ | exact ⟨trivial, cn⟩)])
    have u1 : decide ((0 : Int) < (h.nn : Int)) = true := decide_eq_true (by omega)
    have u2 : decide (0 < h.nn) = true := decide_eq_true cn
    clear cn
    have hnb := P6.q.news
    go_wp2_with fail
    refine (rbNew h.na h.nn h.nc v.newAS w6 hnb.bsq (by have := HNN.out; have := HNW.out; omega)).mono ?_
    rintro _ w3 ⟨g1, rfl, hg, r3, b3⟩
    have P3 := P6.add b3 (q := g1) hg r3.lt
    have K3 : Kp w w3 (h.qt w [g]) (GH.qt { h with pa := A5, pn := n5, pc := c5 } w3 [g1, g]) := K6.trans (GQ.kadd _ b3 hg)
    have b03 := btr b6 b3 P6.lo
    have hgg : g ≠ g1 := by have := P6.q.hi; omega
    have hg1B : B ≤ g1 := by have := P6.lo; omega
    have hm1 : g1 ∈ g1 :: gs := List.mem_cons_self ..
    obtain ⟨Bd, hBd⟩ : ∃ x, w3.heap.size = x := ⟨_, rfl⟩
    rw [hBd] at r3
    have HBd := Lib.hid hBd
    clear hBd
    obtain ⟨V1, t1, s1, E1⟩ : ∃ v1 l1 s1, numL (tkOut v.newAS false (4 : Nat)) = v1 ∧ tkLeft v.newAS false (4 : Nat) = l1 ∧ tkShort v.newAS false (4 : Nat) = s1 := ⟨_, _, _, rfl, rfl, rfl⟩
    obtain ⟨V2, t2, s2, E2⟩ : ∃ v1 l1 s1', numL (tkOut t1 s1 (4 : Nat)) = v1 ∧ tkLeft t1 s1 (4 : Nat) = l1 ∧ tkShort t1 s1 (4 : Nat) = s1' := ⟨_, _, _, rfl, rfl, rfl⟩
    have HF1 := Lib.hid (show numF 4 v.newAS = (V1 : Int) by unfold numF; rw [E1.1])
    have HF2 := Lib.hid (show numSec 4 v.newAS = (V2 : Int) by unfold numSec; rw [E1.2.1, E1.2.2, E2.1])
    have hl0 : v.newAS.length ≤ 140737488355320 := by have := HNW.out; omega
    have hl1 : t1.length ≤ 140737488355320 := by rw [← E1.2.1]; exact Nat.le_trans (tkLeft_len _ _ _) hl0
    have HU1 := Lib.hid (show ∀ w', RB Bd w' g1 v.newAS false → Calls Tryd.prog 82 #[.pointer (some ⟨g1, 0, none⟩)] w' fun en w'' => en = .returned (.int .u32 (V1 : Nat)) ∧ RB Bd w'' g1 t1 s1 ∧ w'.grownBy w'' (some g1) from fun w' h => by have := rbU32 g1 v.newAS false w' h hl0; rw [E1.1, E1.2.1, E1.2.2] at this; exact this)
    have HU2 := Lib.hid (show ∀ w', RB Bd w' g1 t1 s1 → Calls Tryd.prog 82 #[.pointer (some ⟨g1, 0, none⟩)] w' fun en w'' => en = .returned (.int .u32 (V2 : Nat)) ∧ RB Bd w'' g1 t2 s2 ∧ w'.grownBy w'' (some g1) from fun w' h => by have := rbU32 g1 t1 s1 w' h hl1; rw [E2.1, E2.2.1, E2.2.2] at this; exact this)
    clear E1 E2 hl0 hl1
    go_wp2_with fail
    refine (HU1.out _ r3).mono ?_
    rintro _ w4 ⟨rfl, r4, g4⟩
    obtain ⟨cs3, hrb3⟩ := r3.blk
    obtain ⟨cs4, hrb4⟩ := r4.blk
    have P4 := P3.at_ hrb3 hm1 hgg (by decide) (by decide) (by decide) g4
    have K4 := K3.trans (GQ.kat _ (List.mem_cons_self ..) g4)
    have b04 := b03.grown g4 P3.lo (fun k hk => by injection hk with hk; subst hk; exact hg1B)
    go_wp2_with fail
    refine (HU2.out _ r4).mono ?_
    rintro _ w5 ⟨rfl, r5, g5⟩
    have P5 := P4.at_ hrb4 hm1 hgg (by decide) (by decide) (by decide) g5
    have K5 := K4.trans (GQ.kat _ (List.mem_cons_self ..) g5)
    have b05 := b04.grown g5 P4.lo (fun k hk => by injection hk with hk; subst hk; exact hg1B)
    have m7 := P5.blk.cell 7
    have m8 := P5.blk.cell 8
    have f7 := P5.blk.frozen 7
    have f8 := P5.blk.frozen 8
    go_wp2_with fail
    go_returns
    rw [HF.out, HF1.out, HF2.out]
    obtain ⟨P6, K6, b6⟩ := GP.store (i := 7) (u := .int .u32 (V1 : Int)) (v' := { ({ v with a := { v.a with path := mergeA v.a.path v.more } }) with a := { ({ v with a := { v.a with path := mergeA v.a.path v.more } } : Gr).a with aggrAS := (V1 : Int) } }) P5 rfl rfl rfl rfl rfl rfl rfl
    obtain ⟨P7, K7, b7⟩ := GP.store (i := 8) (u := .int .u32 (V2 : Int)) (v' := { ({ v with a := { v.a with path := mergeA v.a.path v.more } }) with a := { ({ v with a := { v.a with path := mergeA v.a.path v.more } } : Gr).a with aggrAS := (V1 : Int), aggrAddr := (V2 : Int) } }) P6 rfl rfl rfl rfl rfl rfl rfl
    exact ⟨rfl, (b05.trans b6).trans b7, _, P7.drop hgm, ((K5.trans (K6 _ (by simp))).trans (K7 _ (by simp))).trans (GQ.kdrop _ _)⟩
end Go.Proofs.YtlpkngjeihoknaaDoor
