/- Joined texts (AttU AttV RowS). Conditions: those of the theorems. -/
import Derived.Test.YthgjknmfghjioaaGreatDoorProg
import Derived.WalkKit
import Derived.WalkSpells
import Derived.WalkLawsBesides
import Derived.Outline
import Derived.Deep.QuietTactic
import Derived.BigQuiet
import Derived.Handy
import Derived.Lib.Hide
import Derived.Test.YthgjknmfghjioaaGreatDoorUF1
import Derived.Test.YthgjknmfghjioaaGreatDoorUF3
import Derived.Test.YthgjknmfghjioaaGreatDoorUF4
import Derived.Laws.Cover4
import Derived.OrdersHeld
import Derived.Deep.RegionHeld
import Derived.Deep.DeepCutAuto
import Derived.Deep.CutBlock
import Derived.Deep.LoopGhost
import Derived.Test.YthgjknmfghjioaaGreatDoorTki
namespace Go.Proofs.YthgjknmfghjioaaGreatDoor
open Go.RowKit
set_option linter.unusedSimpArgs false
set_option linter.unusedVariables false
/-- What the end of a reading hands back. -/
def RetE (w : World) (B g : Nat) (gs : List Nat) (wide : Bool) (h : GH) (v' : Gr) (e : Ending) (w' : World) : Prop := e = .returned (.tuple #[]) ∧ Below B w w' ∧ ∃ h', GP w' B g gs wide h' v' ∧ Kp w w' (h.qt w [g]) (h'.qt w' [g])
set_option maxHeartbeats 8000000 in
set_option maxRecDepth 100000 in
theorem attEnd (B g : Nat) (gs : List Nat) (h : GH) (v : Gr) (wide : Bool) (w : World) (P : GP w B g gs wide h v) (D : BdX v) (hkl : v.kinds.length ≤ 100000) :
  Calls Tryz.prog 153 #[.pointer (some ⟨g, 0, none⟩)] w (RetE w B g gs wide h { v with a := endA wide v }) := by
 obtain ⟨res, hres⟩ : ∃ x, ({ v with a := endA wide v } : Gr) = x := ⟨_, rfl⟩
 rw [hres]
 have HRES := Lib.hid hres
 clear hres
 obtain ⟨ho, hho⟩ : ∃ x, v.hasOld = x := ⟨_, rfl⟩
 obtain ⟨os, hos⟩ : ∃ x, v.oldAS = x := ⟨_, rfl⟩
 have HHO := Lib.hid hho
 have HOS := Lib.hid hos
 have k11 : w.cell? ⟨g, 11, none⟩ = some (.slice h.ka h.kn h.kc) := P.blk.cell 11
 have k13 : w.cell? ⟨g, 13, none⟩ = some (.bool ho) := by rw [← hho]; exact P.blk.cell 13
 have k14 : w.cell? ⟨g, 14, none⟩ = some (.int .u32 os) := by rw [← hos]; exact P.blk.cell 14
 have k16 : w.cell? ⟨g, 16, none⟩ = some (.bool wide) := P.blk.cell 16
 clear hho hos
 have hgm := P.q.mem
 have KI : Kp w w (h.qt w [g]) (h.qt w [g]) := fun b hb => ⟨hb, rfl⟩
 cases wide
 case true =>
  have HE := Lib.hid (show res = v by rw [← HRES.out]; unfold endA; rw [if_pos (.inl rfl)])
  go_enter Tryz.func153, Tryz.ntmps153
  go_wp2_with fail
  go_returns
  rw [HE.out]
  exact ⟨rfl, Below.refl _ _, h, P, KI⟩
 case false =>
 have go1 : ∀ hx : ho = true ∧ os ≠ 23456, res = v := fun hx => by rw [← HRES.out]; unfold endA; rw [if_pos (.inr (by rw [HHO.out, HOS.out]; exact hx))]
 have go2 : (¬ (ho = true ∧ os ≠ 23456)) → res = { v with a := (let a : At := if hasN v.kinds 2 = true then { v.a with path := mergeA v.a.path v.more } else v.a; if ho = true ∧ 0 < v.newAS.length then { a with aggrAS := numF 4 v.newAS, aggrAddr := numSec 4 v.newAS } else a) } := fun hx => by rw [← HRES.out]; unfold endA; rw [if_neg (fun h0 => h0.elim (fun h0 => by cases h0) (by rw [HHO.out, HOS.out]; exact hx)), HHO.out]
 have GO1 := Lib.hid go1
 have GO2 := Lib.hid go2
 clear go1 go2
 obtain ⟨hb, hhb⟩ : ∃ x, hasN v.kinds 2 = x := ⟨_, rfl⟩
 have HCN := Lib.hid (show Calls Tryz.prog 147 #[.slice h.ka h.kn h.kc, .int .i64 2] w fun en w' => en = .returned (.bool hb) ∧ w = w' by rw [← hhb]; exact containsI h.ka h.kn h.kc v.kinds 2 w w.heap.size P.q.kinds.reads P.q.kinds.1 (by have := P.q.kinds.1; omega))
 have HHB := Lib.hid hhb
 have HM := Lib.hid (show ∀ w', DL rSeg 2 w' (Lo w') h.pa h.pn v.a.path → DL rSeg 2 w' (Lo w') h.ma h.mn v.more → Calls Tryz.prog 207 #[.slice h.pa h.pn h.pc, .slice h.ma h.mn h.mc] w' (RetP w' (mergeA v.a.path v.more)) from fun w' h1 h2 => by
  have s1 := sum_of D.path
  have s2 := sum_of D.more
  exact aspMerge h.pa h.pn h.pc v.a.path h.ma h.mn h.mc v.more w' h1 h2 (by have := h1.len; omega) (by have := h2.len; omega) (Lib.hid (by unfold big32; omega)) (Lib.hid (by unfold big32; omega)))
 have HNW := Lib.hid D.news
 have HNN := Lib.hid P.q.news.1
 clear hhb
 go_enter Tryz.func153, Tryz.ntmps153
 cases ho
 case false =>
  have cc : ¬ (false = true ∧ os ≠ 23456) := by rintro ⟨h0, _⟩; cases h0
  have HE1 := Lib.hid (GO2.out cc)
  have HCC := Lib.hid cc
  clear cc
  go_upto_region 1 with fail
  clear k14 k16
  go_wp2_with fail
  refine HCN.out.mono ?_
  rintro _ _ ⟨rfl, rfl⟩
  have k15 : w.cell? ⟨g, 15, none⟩ = some (.slice h.na h.nn h.nc) := P.blk.cell 15
  cases hb
  case false =>
   have HE2 := Lib.hid (show res = { v with a := (if false = true ∧ 0 < v.newAS.length then { v.a with aggrAS := numF 4 v.newAS, aggrAddr := numSec 4 v.newAS } else v.a) } by rw [HE1.out, HHB.out]; first | rfl | simp)
   clear k11
   have HF := Lib.hid (show res = v by rw [HE2.out, if_neg (by rintro ⟨h0, _⟩; cases h0)])
   go_wp2_with fail
   go_returns
   rw [HF.out]
   exact ⟨rfl, (Below.refl _ _), _, P, KI⟩
  case true =>
   have HE2 := Lib.hid (show res = { ({ v with a := { v.a with path := mergeA v.a.path v.more } }) with a := (if false = true ∧ 0 < v.newAS.length then { ({ v.a with path := mergeA v.a.path v.more } : At) with aggrAS := numF 4 v.newAS, aggrAddr := numSec 4 v.newAS } else { v.a with path := mergeA v.a.path v.more }) } by rw [HE1.out, HHB.out]; first | rfl | simp)
   have Pd := P.call ((Below.refl w.heap.size w).drew)
   have Kd := KI.trans (GQ.kcall h ((Below.refl w.heap.size w).drew))
   have bd : Below B w w.drew := (Below.refl _ _).drew
   go_upto_region 2 with fail
   rename_i hkk
   have HKK := Lib.hid hkk
   clear hkk
   obtain ⟨wd, hwd⟩ : ∃ x, w.drew = x := ⟨_, rfl⟩
   rw [hwd] at Pd Kd bd
   have HWD := Lib.hid hwd
   clear hwd k11 k13 k15
   have d1 : wd.cell? ⟨g, 1, none⟩ = some (.slice h.pa h.pn h.pc) := Pd.blk.cell 1
   have d12 : wd.cell? ⟨g, 12, none⟩ = some (.slice h.ma h.mn h.mc) := Pd.blk.cell 12
   have HMC := Lib.hid (HM.out wd (Pd.q.path.keep rSeg_ok (Kp.sub fun b hb => hb.1)) (Pd.q.more.keep rSeg_ok (Kp.sub fun b hb => hb.1)))
   have HEND := Lib.hid (show ∀ (A5 : Option Addr) (n5 c5 : Nat) (L5 : List (Seg × Hd)) (w5 : World), OP w5 wd.heap.size A5 n5 c5 L5 → L5.map (·.1) = mergeA v.a.path v.more → Below wd.heap.size wd w5 → w5.cell? ⟨g, 12, none⟩ = some (.slice h.ma h.mn h.mc) ∧ w5.cell? ⟨g, 1, none⟩ = some (.slice h.pa h.pn h.pc) ∧ w5.frozen? ⟨g, 1, none⟩ = false ∧ ∃ w6, w5.setCell ⟨g, 1, none⟩ (.slice A5 n5 c5) = w6 ∧ GP w6 B g gs false { h with pa := A5, pn := n5, pc := c5 } { v with a := { v.a with path := mergeA v.a.path v.more } } ∧ Kp w w6 (h.qt w [g]) (GH.qt { h with pa := A5, pn := n5, pc := c5 } w6 [g]) ∧ Below B w w6 from by
    intro A5 n5 c5 L5 w5 o5 hL5 b5
    have P5 := Pd.call b5
    have hdl := o5.dlF (S := h.qt w5 gs) (Pd.q.fresh b5.size)
    rw [hL5] at hdl
    have Q5 := P5.q.setPath (A := A5) (n := n5) (c := c5) hdl
    obtain ⟨P6, K6, b6⟩ := GP.head (i := 1) (u := .slice A5 n5 c5) (h' := { h with pa := A5, pn := n5, pc := c5 }) (v' := { v with a := { v.a with path := mergeA v.a.path v.more } }) P5.blk Q5 rfl
    exact ⟨P5.blk.cell 12, P5.blk.cell 1, P5.blk.frozen 1, _, rfl, P6, (Kd.trans (GQ.kcall h b5)).trans (K6 _ (by simp)), (btr bd b5 Pd.lo).trans b6⟩)
   clear Pd Kd bd
   refine wp_region_held_drew (S := (fun w' => w'.cell? ⟨g, 12, none⟩ = some (.slice h.ma h.mn h.mc))) (by kernel_rfl) ?_ (fun hHeld => ?_)
   ·rw [HWD.out]; exact d12
   rw [HWD.out]
   rw [HWD.out] at hHeld
   refine tkh 0 (h := ?_)
   try simp only [Act.put, q1, q2, q3, q4, q5, q6]
   refine tkh 1 (h := ?_)
   try simp only [Act.put, q1, q2, q3, q4, q5, q6]
   refine tkh 2 (h := ?_)
   try simp only [Act.put, q1, q2, q3, q4, q5, q6]
   refine tkh 3 (h := ?_)
   try simp only [Act.put, q1, q2, q3, q4, q5, q6]
   refine tkh 4 (h := ?_)
   try simp only [Act.put, q1, q2, q3, q4, q5, q6]
   refine tkh 6 (h := ?_)
   try simp only [Act.put, q1, q2, q3, q4, q5, q6]
   refine tkh 7 (h := ?_)
   try simp only [Act.put, q1, q2, q3, q4, q5, q6]
   refine tkh 8 (h := ?_)
   try simp only [Act.put, q1, q2, q3, q4, q5, q6]
   refine tkh 9 (h := ?_)
   try simp only [Act.put, q1, q2, q3, q4, q5, q6]
   refine tkr 5 fun K hK => ?_
   go_simp
   go_wp2_with (fail)
   refine hK.out _ _ ?_ (fun hHeld => ?_)
   ·try dsimp only
    exact d12
   clear hK K
   refine tkr 10 fun K hK => ?_
   go_simp
   go_wp2_with ((go_at_call 207; refine HMC.out.mono ?_; rintro _ w5 ⟨A5, n5, c5, L5, rfl, o5, hL5, b5⟩; obtain ⟨e12, e1, f1, w6, hw6, HH⟩ := HEND.out A5 n5 c5 L5 w5 o5 hL5 b5; have HW6 := Lib.hid hw6; have HH6 := Lib.hid HH; clear hw6 HH o5 hL5 b5))
   refine hK.out _ _ ?_ (fun hHeld => ?_)
   ·try dsimp only
    exact e12
   clear hK K
   refine tkh 11 (h := ?_)
   try simp only [Act.put, q1, q2, q3, q4, q5, q6]
   refine tkh 12 (h := ?_)
   try simp only [Act.put, q1, q2, q3, q4, q5, q6]
   refine tkh 13 (h := ?_)
   try simp only [Act.put, q1, q2, q3, q4, q5, q6]
   refine tkr 14 fun K hK => ?_
   go_simp
   go_wp2_with (fail)
   refine hK.out _ _ ?_ (fun hHeld => ?_)
   ·try dsimp only
    rw [HW6.out]; exact HH6.out.1.blk.cell 12
   clear hK K
   refine wpAnyH_done (by kernel_rfl) ?_ _
   rw [HW6.out]
   refine HKK.out _ _ ?_
   obtain ⟨P6, K6, b6⟩ := HH6.out
   have k13 : w6.cell? ⟨g, 13, none⟩ = some (.bool false) := (P6.blk.cell 13).trans (congrArg (fun b => some (Value.bool b)) HHO.out)
   have k15 : w6.cell? ⟨g, 15, none⟩ = some (.slice h.na h.nn h.nc) := P6.blk.cell 15
   clear hHeld d1 d12 e12 e1 f1
   have HF := Lib.hid (show res = { v with a := { v.a with path := mergeA v.a.path v.more } } by rw [HE2.out, if_neg (by rintro ⟨h0, _⟩; cases h0)])
   go_wp2_with fail
   go_returns
   rw [HF.out]
   exact ⟨rfl, b6, _, P6, K6⟩
 case true =>
 by_cases co : os = 23456
 case neg =>
  have u1 : (os != 23456) = true := by simpa using co
  have HF := Lib.hid (GO1.out ⟨rfl, co⟩)
  clear co
  go_wp2_with fail
  go_returns
  rw [HF.out]
  exact ⟨rfl, Below.refl _ _, h, P, KI⟩
 have cc : ¬ (true = true ∧ os ≠ 23456) := fun h0 => h0.2 co
 have u0 : (os != 23456) = false := by simpa using co
 clear co
 have HE1 := Lib.hid (GO2.out cc)
 have HCC := Lib.hid cc
 clear cc
 go_upto_region 1 with fail
 clear k14 k16
 go_wp2_with fail
 refine HCN.out.mono ?_
 rintro _ _ ⟨rfl, rfl⟩
 have k15 : w.cell? ⟨g, 15, none⟩ = some (.slice h.na h.nn h.nc) := P.blk.cell 15
 cases hb
 case false =>
  have HE2 := Lib.hid (show res = { v with a := (if true = true ∧ 0 < v.newAS.length then { v.a with aggrAS := numF 4 v.newAS, aggrAddr := numSec 4 v.newAS } else v.a) } by rw [HE1.out, HHB.out]; first | rfl | simp)
  clear k11
  by_cases cn : 0 < h.nn
  case neg =>
   have HF := Lib.hid (show res = v by rw [HE2.out, if_neg (by rintro ⟨_, h0⟩; rw [← HNN.out] at h0; exact cn h0)])
   have u1 : decide ((0 : Int) < (h.nn : Int)) = false := decide_eq_false (by omega)
   have u2 : decide (0 < h.nn) = false := decide_eq_false cn
   clear cn
   go_wp2_with fail
   go_returns
   rw [HF.out]
   exact ⟨rfl, (Below.refl _ _), _, P, KI⟩
  have HF := Lib.hid (show res = { (v) with a := { (v : Gr).a with aggrAS := numF 4 v.newAS, aggrAddr := numSec 4 v.newAS } } by rw [HE2.out, if_pos (by rw [← HNN.out]; first | exact ⟨rfl, cn⟩ | exact ⟨trivial, cn⟩)])
  have u1 : decide ((0 : Int) < (h.nn : Int)) = true := decide_eq_true (by omega)
  have u2 : decide (0 < h.nn) = true := decide_eq_true cn
  clear cn
  have hnb := P.q.news
  go_wp2_with fail
  refine (rbNew h.na h.nn h.nc v.newAS w hnb.bsq (by have := HNN.out; have := HNW.out; omega)).mono ?_
  rintro _ w3 ⟨g1, rfl, hg, r3, b3⟩
  have P3 := P.add b3 (q := g1) hg r3.lt
  have K3 : Kp w w3 (h.qt w [g]) (GH.qt h w3 [g1, g]) := KI.trans (GQ.kadd _ b3 hg)
  have b03 := btr (Below.refl _ _) b3 P.lo
  have hgg : g ≠ g1 := by have := P.q.hi; omega
  have hg1B : B ≤ g1 := by have := P.lo; omega
  have hm1 : g1 ∈ g1 :: gs := List.mem_cons_self ..
  obtain ⟨Bd, hBd⟩ : ∃ x, w3.heap.size = x := ⟨_, rfl⟩
  rw [hBd] at r3
  have HBd := Lib.hid hBd
  clear hBd
  obtain ⟨V1, t1, s1, E1⟩ : ∃ v1 l1 s1, numL (tkOut v.newAS false (4 : Nat)) = v1 ∧ tkLeft v.newAS false (4 : Nat) = l1 ∧ tkShort v.newAS false (4 : Nat) = s1 := ⟨_, _, _, rfl, rfl, rfl⟩
  obtain ⟨V2, t2, s2, E2⟩ : ∃ v1 l1 s1', numL (tkOut t1 s1 (4 : Nat)) = v1 ∧ tkLeft t1 s1 (4 : Nat) = l1 ∧ tkShort t1 s1 (4 : Nat) = s1' := ⟨_, _, _, rfl, rfl, rfl⟩
  have HF1 := Lib.hid (show numF 4 v.newAS = (V1 : Int) by unfold numF; rw [E1.1])
  have HF2 := Lib.hid (show numSec 4 v.newAS = (V2 : Int) by unfold numSec; rw [E1.2.1, E1.2.2, E2.1])
  have hl0 : v.newAS.length ≤ 140737488355320 := by have := HNW.out; omega
  have hl1 : t1.length ≤ 140737488355320 := by rw [← E1.2.1]; exact Nat.le_trans (tkLeft_len _ _ _) hl0
  have HU1 := Lib.hid (show ∀ w', RB Bd w' g1 v.newAS false → Calls Tryz.prog 176 #[.pointer (some ⟨g1, 0, none⟩)] w' fun en w'' => en = .returned (.int .u32 (V1 : Nat)) ∧ RB Bd w'' g1 t1 s1 ∧ w'.grownBy w'' (some g1) from fun w' h => by have := rbU32 g1 v.newAS false w' h hl0; rw [E1.1, E1.2.1, E1.2.2] at this; exact this)
  have HU2 := Lib.hid (show ∀ w', RB Bd w' g1 t1 s1 → Calls Tryz.prog 176 #[.pointer (some ⟨g1, 0, none⟩)] w' fun en w'' => en = .returned (.int .u32 (V2 : Nat)) ∧ RB Bd w'' g1 t2 s2 ∧ w'.grownBy w'' (some g1) from fun w' h => by have := rbU32 g1 t1 s1 w' h hl1; rw [E2.1, E2.2.1, E2.2.2] at this; exact this)
  clear E1 E2 hl0 hl1
  go_wp2_with fail
  refine (HU1.out _ r3).mono ?_
  rintro _ w4 ⟨rfl, r4, g4⟩
  obtain ⟨cs3, hrb3⟩ := r3.blk
  obtain ⟨cs4, hrb4⟩ := r4.blk
  have P4 := P3.at_ hrb3 hm1 hgg (by decide) (by decide) (by decide) g4
  have K4 := K3.trans (GQ.kat _ (List.mem_cons_self ..) g4)
  have b04 := b03.grown g4 P3.lo (fun k hk => by injection hk with hk; subst hk; exact hg1B)
  go_wp2_with fail
  refine (HU2.out _ r4).mono ?_
  rintro _ w5 ⟨rfl, r5, g5⟩
  have P5 := P4.at_ hrb4 hm1 hgg (by decide) (by decide) (by decide) g5
  have K5 := K4.trans (GQ.kat _ (List.mem_cons_self ..) g5)
  have b05 := b04.grown g5 P4.lo (fun k hk => by injection hk with hk; subst hk; exact hg1B)
  have m7 := P5.blk.cell 7
  have m8 := P5.blk.cell 8
  have f7 := P5.blk.frozen 7
  have f8 := P5.blk.frozen 8
  go_wp2_with fail
  go_returns
  rw [HF.out, HF1.out, HF2.out]
  obtain ⟨P6, K6, b6⟩ := GP.store (i := 7) (u := .int .u32 (V1 : Int)) (v' := { (v) with a := { (v : Gr).a with aggrAS := (V1 : Int) } }) P5 rfl rfl rfl rfl rfl rfl rfl
  obtain ⟨P7, K7, b7⟩ := GP.store (i := 8) (u := .int .u32 (V2 : Int)) (v' := { (v) with a := { (v : Gr).a with aggrAS := (V1 : Int), aggrAddr := (V2 : Int) } }) P6 rfl rfl rfl rfl rfl rfl rfl
  exact ⟨rfl, (b05.trans b6).trans b7, _, P7.drop hgm, ((K5.trans (K6 _ (by simp))).trans (K7 _ (by simp))).trans (GQ.kdrop _ _)⟩
 case true =>
  have HE2 := Lib.hid (show res = { ({ v with a := { v.a with path := mergeA v.a.path v.more } }) with a := (if true = true ∧ 0 < v.newAS.length then { ({ v.a with path := mergeA v.a.path v.more } : At) with aggrAS := numF 4 v.newAS, aggrAddr := numSec 4 v.newAS } else { v.a with path := mergeA v.a.path v.more }) } by rw [HE1.out, HHB.out]; first | rfl | simp)
  have Pd := P.call ((Below.refl w.heap.size w).drew)
  have Kd := KI.trans (GQ.kcall h ((Below.refl w.heap.size w).drew))
  have bd : Below B w w.drew := (Below.refl _ _).drew
  go_upto_region 2 with fail
  rename_i hkk
  have HKK := Lib.hid hkk
  clear hkk
  obtain ⟨wd, hwd⟩ : ∃ x, w.drew = x := ⟨_, rfl⟩
  rw [hwd] at Pd Kd bd
  have HWD := Lib.hid hwd
  clear hwd k11 k13 k15
  have d1 : wd.cell? ⟨g, 1, none⟩ = some (.slice h.pa h.pn h.pc) := Pd.blk.cell 1
  have d12 : wd.cell? ⟨g, 12, none⟩ = some (.slice h.ma h.mn h.mc) := Pd.blk.cell 12
  have HMC := Lib.hid (HM.out wd (Pd.q.path.keep rSeg_ok (Kp.sub fun b hb => hb.1)) (Pd.q.more.keep rSeg_ok (Kp.sub fun b hb => hb.1)))
  have HEND := Lib.hid (show ∀ (A5 : Option Addr) (n5 c5 : Nat) (L5 : List (Seg × Hd)) (w5 : World), OP w5 wd.heap.size A5 n5 c5 L5 → L5.map (·.1) = mergeA v.a.path v.more → Below wd.heap.size wd w5 → w5.cell? ⟨g, 12, none⟩ = some (.slice h.ma h.mn h.mc) ∧ w5.cell? ⟨g, 1, none⟩ = some (.slice h.pa h.pn h.pc) ∧ w5.frozen? ⟨g, 1, none⟩ = false ∧ ∃ w6, w5.setCell ⟨g, 1, none⟩ (.slice A5 n5 c5) = w6 ∧ GP w6 B g gs false { h with pa := A5, pn := n5, pc := c5 } { v with a := { v.a with path := mergeA v.a.path v.more } } ∧ Kp w w6 (h.qt w [g]) (GH.qt { h with pa := A5, pn := n5, pc := c5 } w6 [g]) ∧ Below B w w6 from by
   intro A5 n5 c5 L5 w5 o5 hL5 b5
   have P5 := Pd.call b5
   have hdl := o5.dlF (S := h.qt w5 gs) (Pd.q.fresh b5.size)
   rw [hL5] at hdl
   have Q5 := P5.q.setPath (A := A5) (n := n5) (c := c5) hdl
   obtain ⟨P6, K6, b6⟩ := GP.head (i := 1) (u := .slice A5 n5 c5) (h' := { h with pa := A5, pn := n5, pc := c5 }) (v' := { v with a := { v.a with path := mergeA v.a.path v.more } }) P5.blk Q5 rfl
   exact ⟨P5.blk.cell 12, P5.blk.cell 1, P5.blk.frozen 1, _, rfl, P6, (Kd.trans (GQ.kcall h b5)).trans (K6 _ (by simp)), (btr bd b5 Pd.lo).trans b6⟩)
  clear Pd Kd bd
  refine wp_region_held_drew (S := (fun w' => w'.cell? ⟨g, 12, none⟩ = some (.slice h.ma h.mn h.mc))) (by kernel_rfl) ?_ (fun hHeld => ?_)
  ·rw [HWD.out]; exact d12
  rw [HWD.out]
  rw [HWD.out] at hHeld
  refine tkh 0 (h := ?_)
  try simp only [Act.put, q1, q2, q3, q4, q5, q6]
  refine tkh 1 (h := ?_)
  try simp only [Act.put, q1, q2, q3, q4, q5, q6]
  refine tkh 2 (h := ?_)
  try simp only [Act.put, q1, q2, q3, q4, q5, q6]
  refine tkh 3 (h := ?_)
  try simp only [Act.put, q1, q2, q3, q4, q5, q6]
  refine tkh 4 (h := ?_)
  try simp only [Act.put, q1, q2, q3, q4, q5, q6]
  refine tkh 6 (h := ?_)
  try simp only [Act.put, q1, q2, q3, q4, q5, q6]
  refine tkh 7 (h := ?_)
  try simp only [Act.put, q1, q2, q3, q4, q5, q6]
  refine tkh 8 (h := ?_)
  try simp only [Act.put, q1, q2, q3, q4, q5, q6]
  refine tkh 9 (h := ?_)
  try simp only [Act.put, q1, q2, q3, q4, q5, q6]
  refine tkr 5 fun K hK => ?_
  go_simp
  go_wp2_with (fail)
  refine hK.out _ _ ?_ (fun hHeld => ?_)
  ·try dsimp only
   exact d12
  clear hK K
  refine tkr 10 fun K hK => ?_
  go_simp
  go_wp2_with ((go_at_call 207; refine HMC.out.mono ?_; rintro _ w5 ⟨A5, n5, c5, L5, rfl, o5, hL5, b5⟩; obtain ⟨e12, e1, f1, w6, hw6, HH⟩ := HEND.out A5 n5 c5 L5 w5 o5 hL5 b5; have HW6 := Lib.hid hw6; have HH6 := Lib.hid HH; clear hw6 HH o5 hL5 b5))
  refine hK.out _ _ ?_ (fun hHeld => ?_)
  ·try dsimp only
   exact e12
  clear hK K
  refine tkh 11 (h := ?_)
  try simp only [Act.put, q1, q2, q3, q4, q5, q6]
  refine tkh 12 (h := ?_)
  try simp only [Act.put, q1, q2, q3, q4, q5, q6]
  refine tkh 13 (h := ?_)
  try simp only [Act.put, q1, q2, q3, q4, q5, q6]
  refine tkr 14 fun K hK => ?_
  go_simp
  go_wp2_with (fail)
  refine hK.out _ _ ?_ (fun hHeld => ?_)
  ·try dsimp only
   rw [HW6.out]; exact HH6.out.1.blk.cell 12
  clear hK K
  refine wpAnyH_done (by kernel_rfl) ?_ _
  rw [HW6.out]
  refine HKK.out _ _ ?_
  obtain ⟨P6, K6, b6⟩ := HH6.out
  have k13 : w6.cell? ⟨g, 13, none⟩ = some (.bool true) := (P6.blk.cell 13).trans (congrArg (fun b => some (Value.bool b)) HHO.out)
  have k15 : w6.cell? ⟨g, 15, none⟩ = some (.slice h.na h.nn h.nc) := P6.blk.cell 15
  clear hHeld d1 d12 e12 e1 f1
  by_cases cn : 0 < h.nn
  case neg =>
   have HF := Lib.hid (show res = { v with a := { v.a with path := mergeA v.a.path v.more } } by rw [HE2.out, if_neg (by rintro ⟨_, h0⟩; rw [← HNN.out] at h0; exact cn h0)])
   have u1 : decide ((0 : Int) < (h.nn : Int)) = false := decide_eq_false (by omega)
   have u2 : decide (0 < h.nn) = false := decide_eq_false cn
   clear cn
   go_wp2_with fail
   go_returns
   rw [HF.out]
   exact ⟨rfl, b6, _, P6, K6⟩
  have HF := Lib.hid (show res = { ({ v with a := { v.a with path := mergeA v.a.path v.more } }) with a := { ({ v with a := { v.a with path := mergeA v.a.path v.more } } : Gr).a with aggrAS := numF 4 v.newAS, aggrAddr := numSec 4 v.newAS } } by rw [HE2.out, if_pos (by rw [← HNN.out]; first | exact ⟨rfl, cn⟩ | exact ⟨trivial, cn⟩)])
  have u1 : decide ((0 : Int) < (h.nn : Int)) = true := decide_eq_true (by omega)
  have u2 : decide (0 < h.nn) = true := decide_eq_true cn
  clear cn
  have hnb := P6.q.news
  go_wp2_with fail
  refine (rbNew h.na h.nn h.nc v.newAS w6 hnb.bsq (by have := HNN.out; have := HNW.out; omega)).mono ?_
  rintro _ w3 ⟨g1, rfl, hg, r3, b3⟩
  have P3 := P6.add b3 (q := g1) hg r3.lt
  have K3 : Kp w w3 (h.qt w [g]) (GH.qt { h with pa := A5, pn := n5, pc := c5 } w3 [g1, g]) := K6.trans (GQ.kadd _ b3 hg)
  have b03 := btr b6 b3 P6.lo
  have hgg : g ≠ g1 := by have := P6.q.hi; omega
  have hg1B : B ≤ g1 := by have := P6.lo; omega
  have hm1 : g1 ∈ g1 :: gs := List.mem_cons_self ..
  obtain ⟨Bd, hBd⟩ : ∃ x, w3.heap.size = x := ⟨_, rfl⟩
  rw [hBd] at r3
  have HBd := Lib.hid hBd
  clear hBd
  obtain ⟨V1, t1, s1, E1⟩ : ∃ v1 l1 s1, numL (tkOut v.newAS false (4 : Nat)) = v1 ∧ tkLeft v.newAS false (4 : Nat) = l1 ∧ tkShort v.newAS false (4 : Nat) = s1 := ⟨_, _, _, rfl, rfl, rfl⟩
  obtain ⟨V2, t2, s2, E2⟩ : ∃ v1 l1 s1', numL (tkOut t1 s1 (4 : Nat)) = v1 ∧ tkLeft t1 s1 (4 : Nat) = l1 ∧ tkShort t1 s1 (4 : Nat) = s1' := ⟨_, _, _, rfl, rfl, rfl⟩
  have HF1 := Lib.hid (show numF 4 v.newAS = (V1 : Int) by unfold numF; rw [E1.1])
  have HF2 := Lib.hid (show numSec 4 v.newAS = (V2 : Int) by unfold numSec; rw [E1.2.1, E1.2.2, E2.1])
  have hl0 : v.newAS.length ≤ 140737488355320 := by have := HNW.out; omega
  have hl1 : t1.length ≤ 140737488355320 := by rw [← E1.2.1]; exact Nat.le_trans (tkLeft_len _ _ _) hl0
  have HU1 := Lib.hid (show ∀ w', RB Bd w' g1 v.newAS false → Calls Tryz.prog 176 #[.pointer (some ⟨g1, 0, none⟩)] w' fun en w'' => en = .returned (.int .u32 (V1 : Nat)) ∧ RB Bd w'' g1 t1 s1 ∧ w'.grownBy w'' (some g1) from fun w' h => by have := rbU32 g1 v.newAS false w' h hl0; rw [E1.1, E1.2.1, E1.2.2] at this; exact this)
  have HU2 := Lib.hid (show ∀ w', RB Bd w' g1 t1 s1 → Calls Tryz.prog 176 #[.pointer (some ⟨g1, 0, none⟩)] w' fun en w'' => en = .returned (.int .u32 (V2 : Nat)) ∧ RB Bd w'' g1 t2 s2 ∧ w'.grownBy w'' (some g1) from fun w' h => by have := rbU32 g1 t1 s1 w' h hl1; rw [E2.1, E2.2.1, E2.2.2] at this; exact this)
  clear E1 E2 hl0 hl1
  go_wp2_with fail
  refine (HU1.out _ r3).mono ?_
  rintro _ w4 ⟨rfl, r4, g4⟩
  obtain ⟨cs3, hrb3⟩ := r3.blk
  obtain ⟨cs4, hrb4⟩ := r4.blk
  have P4 := P3.at_ hrb3 hm1 hgg (by decide) (by decide) (by decide) g4
  have K4 := K3.trans (GQ.kat _ (List.mem_cons_self ..) g4)
  have b04 := b03.grown g4 P3.lo (fun k hk => by injection hk with hk; subst hk; exact hg1B)
  go_wp2_with fail
  refine (HU2.out _ r4).mono ?_
  rintro _ w5 ⟨rfl, r5, g5⟩
  have P5 := P4.at_ hrb4 hm1 hgg (by decide) (by decide) (by decide) g5
  have K5 := K4.trans (GQ.kat _ (List.mem_cons_self ..) g5)
  have b05 := b04.grown g5 P4.lo (fun k hk => by injection hk with hk; subst hk; exact hg1B)
  have m7 := P5.blk.cell 7
  have m8 := P5.blk.cell 8
  have f7 := P5.blk.frozen 7
  have f8 := P5.blk.frozen 8
  go_wp2_with fail
  go_returns
  rw [HF.out, HF1.out, HF2.out]
  obtain ⟨P6, K6, b6⟩ := GP.store (i := 7) (u := .int .u32 (V1 : Int)) (v' := { ({ v with a := { v.a with path := mergeA v.a.path v.more } }) with a := { ({ v with a := { v.a with path := mergeA v.a.path v.more } } : Gr).a with aggrAS := (V1 : Int) } }) P5 rfl rfl rfl rfl rfl rfl rfl
  obtain ⟨P7, K7, b7⟩ := GP.store (i := 8) (u := .int .u32 (V2 : Int)) (v' := { ({ v with a := { v.a with path := mergeA v.a.path v.more } }) with a := { ({ v with a := { v.a with path := mergeA v.a.path v.more } } : Gr).a with aggrAS := (V1 : Int), aggrAddr := (V2 : Int) } }) P6 rfl rfl rfl rfl rfl rfl rfl
  exact ⟨rfl, (b05.trans b6).trans b7, _, P7.drop hgm, ((K5.trans (K6 _ (by simp))).trans (K7 _ (by simp))).trans (GQ.kdrop _ _)⟩
theorem read_ret {fn : Func} {p u r : Tmp} (h : fn.results = #[.cell p 75, .tmp u, .cell r 88]) (tmps : Array Value) (w : World) (g k : Nat) (x0 x1 x2 x3 x4 x5 x6 x7 x8 x9 x10 y a b c : Value)
  (hp : tmps.getD p undef = .pointer (some ⟨g, 0, none⟩)) (hu : tmps.getD u undef = y) (hr : tmps.getD r undef = .pointer (some ⟨k, 0, none⟩)) (hB : Blk w g 75 #[x0, x1, x2, x3, x4, x5, x6, x7, x8, x9, x10]) (hF : Blk w k 88 #[a, b, c]) :
  (results fn tmps).run Tryz.prog w = .ok (.tuple #[.agg #[x0, x1, x2, x3, x4, x5, x6, x7, x8, x9, x10], y, .agg #[a, b, c]]) w := by
 have hp' : tmps[p]?.getD undef = .pointer (some ⟨g, 0, none⟩) := by simpa using hp
 have hu' : tmps[u]?.getD undef = y := by simpa using hu
 have hr' : tmps[r]?.getD undef = .pointer (some ⟨k, 0, none⟩) := by simpa using hr
 have h1 := run_loadVar_row (P := Tryz.prog) w g 75 75 #[x0, x1, x2, x3, x4, x5, x6, x7, x8, x9, x10] (0, 0) _ hB Tryz.underlying75 rfl att_info1
 have h2 := run_loadVar_row (P := Tryz.prog) w k 88 88 #[a, b, c] (0, 0) _ hF Tryz.underlying88 rfl fltA_info
 simp [results, h, hp', hu', hr', asAddr, h1, h2]
theorem att_store {w : World} {q : Nat} {a0 a1 a2 a3 a4 a5 a6 a7 a8 a9 a10 x0 x1 x2 x3 x4 x5 x6 x7 x8 x9 x10 : Value} (h : Blk w q 75 #[a0, a1, a2, a3, a4, a5, a6, a7, a8, a9, a10]) : Blk (World.setCell (World.setCell (World.setCell (World.setCell (World.setCell (World.setCell (World.setCell (World.setCell (World.setCell (World.setCell (World.setCell w ⟨q, 0, none⟩ x0) ⟨q, 1, none⟩ x1) ⟨q, 2, none⟩ x2) ⟨q, 3, none⟩ x3) ⟨q, 4, none⟩ x4) ⟨q, 5, none⟩ x5) ⟨q, 6, none⟩ x6) ⟨q, 7, none⟩ x7) ⟨q, 8, none⟩ x8) ⟨q, 9, none⟩ x9) ⟨q, 10, none⟩ x10) q 75 #[x0, x1, x2, x3, x4, x5, x6, x7, x8, x9, x10] := by
 have hE := ((((((((((h.set_ 0 x0).set_ 1 x1).set_ 2 x2).set_ 3 x3).set_ 4 x4).set_ 5 x5).set_ 6 x6).set_ 7 x7).set_ 8 x8).set_ 9 x9).set_ 10 x10
 simp only [List.setIfInBounds_toArray, List.set_cons_succ, List.set_cons_zero] at hE
 exact hE
theorem att_grown {q : Nat} {x0 x1 x2 x3 x4 x5 x6 x7 x8 x9 x10 : Value} (w : World) : w.grownBy (World.setCell (World.setCell (World.setCell (World.setCell (World.setCell (World.setCell (World.setCell (World.setCell (World.setCell (World.setCell (World.setCell w ⟨q, 0, none⟩ x0) ⟨q, 1, none⟩ x1) ⟨q, 2, none⟩ x2) ⟨q, 3, none⟩ x3) ⟨q, 4, none⟩ x4) ⟨q, 5, none⟩ x5) ⟨q, 6, none⟩ x6) ⟨q, 7, none⟩ x7) ⟨q, 8, none⟩ x8) ⟨q, 9, none⟩ x9) ⟨q, 10, none⟩ x10) (some q) := by
 repeat' (refine only_setCell ?_ (.inl rfl) _)
 exact World.grownBy.refl w _
theorem BF.of_block {w : World} {B n : Nat} {S : Nat → Prop} {A : Option Addr} {l : List UInt8} (h : BS w B A n l) (hS : 0 < n → ∀ ad, A = some ad → S ad.block) : BF w S A n l := by
 refine ⟨h.1, (bv_length l).trans (by have := h.1; omega), fun hn => ?_⟩
 obtain ⟨b, off, e, hb, hc⟩ := (Rw.of_reads (S := fun _ => True) h.2 (by omega) (fun _ _ => trivial)).2 hn
 exact ⟨b, off, e, hS hn _ e, hc⟩
theorem BF.block {w : World} {n : Nat} {S : Nat → Prop} {A : Option Addr} {l : List UInt8} (h : BF w S A n l) (hn : 0 < n) : ∃ a0, A = some a0 ∧ S a0.block := by
 obtain ⟨b, off, e, hb, _⟩ := h.2.2 hn
 exact ⟨_, e, hb⟩
/-- append onto numbers of the call's own, in a region that draws its order. -/
theorem step_appI {w : World} {ops : Array Oper} {o : Oper} {a : Act} {K : Act → World → Prop} {Q : Exit → Act → World → Prop} {E : Prop} (hgd : o.guard = none) (s x : Operand)
  (ho : o.op = .call { callee := .builtin .append, args := #[s, x], argTypes := #[105, 105] })
  (base : Nat) (A : Option Addr) (n c : Nat) (l : List Int) (hs : a.eval s = .slice A n c) (hown : OI w base A n c l)
  (B : Nat) (A' : Option Addr) (m c' : Nat) (l' : List Int) (hx : a.eval x = .slice A' m c') (hr : Reads w B 1 A' m (iv l'))
  (hlen : l.length + l'.length ≤ 17592186044416) (hbase : base ≤ w.heap.size)
  (h : ∀ (A2 : Option Addr) (n2 c2 : Nat) (w' : World), OI w' base A2 n2 c2 (l ++ l') → Below base w w' → w.grownBy w' (Value.ownBlock (.slice A n c)) → (Value.ownBlock (.slice A2 n2 c2) = Value.ownBlock (.slice A n c) ∨ Value.ownBlock (.slice A2 n2 c2) = some w.heap.size) → K (a.put o.dst (.slice A2 n2 c2)) w') :
  if Region.wanted o (yielded ops a.tmps) = true then Oper.wp Tryz.prog o a w K Q else E := by
 obtain ⟨i, hi, hz, h1', h2'⟩ : ∃ i, Tryz.prog.info? 3 = some i ∧ i.zero = some (.int .i64 0) ∧ i.size = 1 ∧ i.bytes = 8 := by
  have := i64info
  simp only [Option.map_eq_some_iff, Prod.mk.injEq] at this
  exact this
 have e1 := hown.1
 have e2 : m = l'.length := by have := hr.1; rw [iv_length] at this; omega
 refine step_append_any _ hgd s x 105 ho base 3 i (.int .i64 0) 1 8 Tryz.underlying105 hi hz h1' h2' rfl (by omega) (.slice A n c) n (iv l) hs hown.2 B A' m c' (iv l') hx hr (iv_one l') (by unfold maxLen; omega) (by omega) hbase ?_
 intro v' w' o' g' hat
 obtain ⟨A2, c2, rfl⟩ : ∃ A2 c2, v' = .slice A2 (n + m) c2 := by
  rcases o'.2 with ⟨rfl, hnil⟩ | ⟨g, cap, cur, hv, _⟩
  ·exact ⟨none, 0, by rw [hnil]⟩
  ·exact ⟨_, _, hv⟩
 exact h A2 (n + m) c2 w' ⟨by rw [List.length_append]; omega, by rw [iv_append]; exact o'⟩ ((Below.refl base w).grown g' hbase (fun k hk => (hown.2.lt k hk).1)) g' hat
/-- What a reading hands back. -/
def RetRX (w : World) (ex : List Nat) (r : Except FtA (At × List Int)) (e : Ending) (w' : World) : Prop := Below w.heap.size w w' ∧ match r with
 | .error f => ∃ (A : Option Addr) (n c : Nat), e = .returned (.tuple #[.agg #[.int .i64 0, .slice none 0 0, .int .u32 0, .int .i64 0, .int .i64 0, .bool false, .bool false, .int .u32 0, .int .u32 0, .slice none 0 0, .slice none 0 0], .slice none 0 0, .agg #[.int .i64 3, .int .i64 f.1, .slice A n c]]) ∧ BF w' (Ex w' ex) A n f.2 ∧ n ≤ c
 | .ok x => ∃ (A : Option Addr) (n c : Nat) (A1 : Option Addr) (n1 c1 : Nat) (A2 : Option Addr) (n2 c2 : Nat) (A3 : Option Addr) (n3 c3 : Nat),
  e = .returned (.tuple #[.agg #[.int .i64 x.1.origin, .slice A n c, .int .u32 x.1.next, .int .i64 x.1.med, .int .i64 x.1.pref, .bool x.1.atomic, .bool x.1.hasAggr, .int .u32 x.1.aggrAS, .int .u32 x.1.aggrAddr, .slice A1 n1 c1, .slice A2 n2 c2], .slice A3 n3 c3, .agg #[.int .i64 0, .int .i64 0, .slice none 0 0]]) ∧
  DL rSeg 2 w' (Ex w' ex) A n x.1.path ∧ NF w' (Ex w' ex) A1 n1 x.1.comms ∧ DL rRaw 3 w' (Ex w' ex) A2 n2 x.1.raws ∧ Rw w' (Ex w' ex) 1 A3 n3 (iv x.2) ∧ n3 = x.2.length ∧
  ((rightA x.1.path = true ∨ x.1.path = []) ∧ x.1.comms.length ≤ 32 ∧ x.1.raws.length ≤ 8 ∧ ∀ y ∈ x.1.raws, y.2.2.length ≤ 64)
/-- The same, where nothing is asked of where it lies. -/
def RetRA (w : World) (r : Except FtA (At × List Int)) (e : Ending) (w' : World) : Prop := Below w.heap.size w w' ∧ match r with
 | .error f => ∃ (A : Option Addr) (n c : Nat), e = .returned (.tuple #[.agg #[.int .i64 0, .slice none 0 0, .int .u32 0, .int .i64 0, .int .i64 0, .bool false, .bool false, .int .u32 0, .int .u32 0, .slice none 0 0, .slice none 0 0], .slice none 0 0, .agg #[.int .i64 3, .int .i64 f.1, .slice A n c]]) ∧ BS w' w'.heap.size A n f.2 ∧ n ≤ c
 | .ok x => ∃ (A : Option Addr) (n c : Nat) (A1 : Option Addr) (n1 c1 : Nat) (A2 : Option Addr) (n2 c2 : Nat) (A3 : Option Addr) (n3 c3 : Nat),
  e = .returned (.tuple #[.agg #[.int .i64 x.1.origin, .slice A n c, .int .u32 x.1.next, .int .i64 x.1.med, .int .i64 x.1.pref, .bool x.1.atomic, .bool x.1.hasAggr, .int .u32 x.1.aggrAS, .int .u32 x.1.aggrAddr, .slice A1 n1 c1, .slice A2 n2 c2], .slice A3 n3 c3, .agg #[.int .i64 0, .int .i64 0, .slice none 0 0]]) ∧
  DL rSeg 2 w' (Lo w') A n x.1.path ∧ NF w' (Lo w') A1 n1 x.1.comms ∧ DL rRaw 3 w' (Lo w') A2 n2 x.1.raws ∧ Reads w' w'.heap.size 1 A3 n3 (iv x.2) ∧ n3 = x.2.length ∧
  ((rightA x.1.path = true ∨ x.1.path = []) ∧ x.1.comms.length ≤ 32 ∧ x.1.raws.length ≤ 8 ∧ ∀ y ∈ x.1.raws, y.2.2.length ≤ 64)
theorem RetRX.ra {w : World} {ex : List Nat} {r : Except FtA (At × List Int)} {e : Ending} {w' : World} (h : RetRX w ex r e w') : RetRA w r e w' := by
 refine ⟨h.1, ?_⟩
 have h2 := h.2
 cases r with
 | error f =>
  obtain ⟨A, n, c, h1, h2, h3⟩ := h2
  exact ⟨A, n, c, h1, h2.bs (fun b hb => hb.1), h3⟩
 | ok x =>
  obtain ⟨A, n, c, A1, n1, c1, A2, n2, c2, A3, n3, c3, h1, h2, h3, h4, h5, h6⟩ := h2
  exact ⟨A, n, c, A1, n1, c1, A2, n2, c2, A3, n3, c3, h1, h2.keep rSeg_ok (Kp.sub fun b hb => hb.1), h3.keep (Kp.sub fun b hb => hb.1), h4.keep rRaw_ok (Kp.sub fun b hb => hb.1), h5.reads (fun b hb => hb.1), h6⟩
theorem own_rw {w : World} {base size n c : Nat} {e : TypeId} {A : Option Addr} {xs : List Value} {S : Nat → Prop} (h : w.ownsRow base e size (.slice A n c) n xs) (hS : ∀ b, base ≤ b → b < w.heap.size → S b) : Rw w S size A n xs := by
 refine ⟨h.1, fun hn => ?_⟩
 obtain ⟨g, cap, hv, hg, hlt⟩ := h.form hn
 have hA : A = some ⟨g, 0, none⟩ := by injection hv
 subst hA
 exact ⟨g, 0, rfl, hS g hg hlt, fun j u hu => by have := h.cells (g := g) rfl j u hu; rwa [addr_add] at this⟩
theorem OR.dlX {w : World} {base n c : Nat} {S S' : Nat → Prop} {A : Option Addr} {l : List RawV} (h : OR w base S A n c l) (hS : ∀ b, base ≤ b → b < w.heap.size → S' b) (hs : ∀ b, S b → S' b) : DL rRaw 3 w S' A n l := by
 obtain ⟨css, h1, h2, h3, h4, h5⟩ := h
 exact ⟨css, h1, h2, own_rw h3 hS, fun i cs a hi ha => rRaw_ok.keep (h4 i cs a hi ha) (Kp.sub hs), h5⟩
/-- The end with a fault: the fault is put into its place. -/
theorem RetRX.err {w wE : World} {q4 q6 : Nat} {ex : List Nat} {S : Nat → Prop} {A : Option Addr} {n c : Nat} {l : List UInt8} {r : Except FtA (At × List Int)} {k : Int} (hb : Below w.heap.size w wE) (h4 : w.heap.size ≤ q4) (h6 : w.heap.size ≤ q6) (hl : BF wE S A n l) (hS : ∀ b, S b → b < wE.heap.size ∧ b ≠ q4 ∧ b ≠ q6 ∧ b ∉ ex) (hnc : n ≤ c) (hr : r = .error (k, l)) :
  RetRX w ex r (.returned (.tuple #[.agg #[.int .i64 0, .slice none 0 0, .int .u32 0, .int .i64 0, .int .i64 0, .bool false, .bool false, .int .u32 0, .int .u32 0, .slice none 0 0, .slice none 0 0], .slice none 0 0, .agg #[.int .i64 3, .int .i64 k, .slice A n c]])) (World.setCell (World.setCell (World.setCell (World.setCell (World.setCell (World.setCell (World.setCell (World.setCell (World.setCell (World.setCell (World.setCell (World.setCell (World.setCell (World.setCell wE ⟨q4, 0, none⟩ (.int .i64 0)) ⟨q4, 1, none⟩ (.slice none 0 0)) ⟨q4, 2, none⟩ (.int .u32 0)) ⟨q4, 3, none⟩ (.int .i64 0)) ⟨q4, 4, none⟩ (.int .i64 0)) ⟨q4, 5, none⟩ (.bool false)) ⟨q4, 6, none⟩ (.bool false)) ⟨q4, 7, none⟩ (.int .u32 0)) ⟨q4, 8, none⟩ (.int .u32 0)) ⟨q4, 9, none⟩ (.slice none 0 0)) ⟨q4, 10, none⟩ (.slice none 0 0)) ⟨q6, 0, none⟩ (.int .i64 3)) ⟨q6, 1, none⟩ (.int .i64 k)) ⟨q6, 2, none⟩ (.slice A n c)) := by
 have g1 := att_grown (q := q4) (x0 := .int .i64 0) (x1 := .slice none 0 0) (x2 := .int .u32 0) (x3 := .int .i64 0) (x4 := .int .i64 0) (x5 := .bool false) (x6 := .bool false) (x7 := .int .u32 0) (x8 := .int .u32 0) (x9 := .slice none 0 0) (x10 := .slice none 0 0) wE
 have g2 := flt_grown (q := q6) (x := .int .i64 3) (y := .int .i64 k) (z := .slice A n c) (World.setCell (World.setCell (World.setCell (World.setCell (World.setCell (World.setCell (World.setCell (World.setCell (World.setCell (World.setCell (World.setCell wE ⟨q4, 0, none⟩ (.int .i64 0)) ⟨q4, 1, none⟩ (.slice none 0 0)) ⟨q4, 2, none⟩ (.int .u32 0)) ⟨q4, 3, none⟩ (.int .i64 0)) ⟨q4, 4, none⟩ (.int .i64 0)) ⟨q4, 5, none⟩ (.bool false)) ⟨q4, 6, none⟩ (.bool false)) ⟨q4, 7, none⟩ (.int .u32 0)) ⟨q4, 8, none⟩ (.int .u32 0)) ⟨q4, 9, none⟩ (.slice none 0 0)) ⟨q4, 10, none⟩ (.slice none 0 0))
 have b1 := hb.grown g1 hb.size (fun k hk => by injection hk with hk; omega)
 have b2 := b1.grown g2 b1.size (fun k hk => by injection hk with hk; omega)
 refine ⟨b2, ?_⟩
 rw [hr]
 refine ⟨A, n, c, rfl, hl.keep (fun b hb => ⟨⟨Nat.lt_of_lt_of_le (hS b hb).1 (Nat.le_trans g1.size g2.size), (hS b hb).2.2.2⟩, ?_⟩), hnc⟩
 exact (g2.block b (Nat.lt_of_lt_of_le (hS b hb).1 g1.size) (fun e => by injection e with e; exact (hS b hb).2.2.1 e)).trans (g1.block b (hS b hb).1 (fun e => by injection e with e; exact (hS b hb).2.1 e))
theorem endA_bd (wide : Bool) {v : Gr} (D : BdX v) : (rightA (endA wide v).path = true ∨ (endA wide v).path = []) ∧ (endA wide v).comms = v.a.comms ∧ (endA wide v).raws = v.a.raws := by
 unfold endA
 by_cases c1 : wide = true ∨ v.hasOld = true ∧ v.oldAS ≠ 23456
 ·rw [if_pos c1]; exact ⟨D.path, rfl, rfl⟩
 rw [if_neg c1]
 have hm := mergeA_right (m := v.more) D.path
 by_cases c2 : hasN v.kinds 2 = true
 ·by_cases c3 : v.hasOld = true ∧ 0 < v.newAS.length
  ·simp only [c2, if_true, if_pos c3]; first | exact ⟨hm, rfl, rfl⟩ | exact ⟨hm, trivial, trivial⟩
  ·simp only [c2, if_true, if_neg c3]; first | exact ⟨hm, rfl, rfl⟩ | exact ⟨hm, trivial, trivial⟩
 ·by_cases c3 : v.hasOld = true ∧ 0 < v.newAS.length
  ·simp only [if_neg c2, if_pos c3]; first | exact ⟨D.path, rfl, rfl⟩ | exact ⟨D.path, trivial, trivial⟩
  ·simp only [if_neg c2, if_neg c3]; first | exact ⟨D.path, rfl, rfl⟩ | exact ⟨D.path, trivial, trivial⟩
theorem share {G C : Prop} (f : G → C) (hg : G) : C := f hg
theorem tkOut_le (l : List UInt8) (s : Bool) (k : Int) : (tkOut l s k).length ≤ l.length := by
 unfold tkOut
 split
 ·simp
 ·rw [List.length_take]; omega
theorem splitA_val {b t : List UInt8} {x : One} (h : splitA b = some (x, t)) : x.val.length ≤ b.length := by
 unfold splitA at h
 simp only at h
 split at h
 ·cases h
 ·injection h with h
  injection h with h1 h2
  rw [← h1]
  simp only
  refine Nat.le_trans (tkOut_le _ _ _) (Nat.le_trans (tkLeft_len _ _ _) (Nat.le_trans (tkLeft_len _ _ _) (tkLeft_len _ _ _)))
/-- One round of a reading. -/
def contR (wide : Bool) (f : Nat) (t' : List UInt8) : Except FtA Gr → Except FtA Gr
 | .error e => .error e
 | .ok g' => loopA wide f g' t'
def nextR (wide : Bool) (f : Nat) (v : Gr) : Option (One × List UInt8) → Except FtA Gr
 | none => .error (1, [])
 | some (x, t') => contR wide f t' (stepA wide v x)
theorem loopA_next {wide : Bool} {f : Nat} {v : Gr} {t : List UInt8} (ht : t ≠ []) : loopA wide (f + 1) v t = nextR wide f v (splitA t) := by
 rw [loopA_step ht]
 cases splitA t with
 | none => rfl
 | some q =>
  obtain ⟨x, t'⟩ := q
  unfold nextR contR
  try simp only
  try (cases stepA wide v x <;> rfl)
set_option maxHeartbeats 32000000 in
set_option maxRecDepth 100000 in
theorem attReadX (ex : List Nat) (A0 : Option Addr) (n0 c0 : Nat) (b : List UInt8) (wide : Bool) (w : World) (hex0 : ∀ x ∈ ex, x < w.heap.size) (hb0 : BS w w.heap.size A0 n0 b) (hn0 : n0 ≤ 100000) (ht : LookTab w) :
  Calls Tryz.prog 92 #[.slice A0 n0 c0, .bool wide] w (RetRX w ex (readAt b wide)) := by
 have HEX := Lib.hid hex0
 clear hex0
 obtain ⟨W, hW, hR4, hR6, bW⟩ := boxes2 w #[.int .i64 0, .slice none 0 0, .int .u32 0, .int .i64 0, .int .i64 0, .bool false, .bool false, .int .u32 0, .int .u32 0, .slice none 0 0, .slice none 0 0] #[.int .i64 0, .int .i64 0, .slice none 0 0] 75 88
 obtain ⟨q4, hq4⟩ : ∃ q, w.heap.size = q := ⟨_, rfl⟩
 obtain ⟨q6, hq6⟩ : ∃ x, q4 + 1 = x := ⟨_, rfl⟩
 obtain ⟨res, hres⟩ : ∃ r, readAt b wide = r := ⟨_, rfl⟩
 rw [hres]
 have HR0 := Lib.hid (show finA wide (loopA wide b.length zeroGr b) = res by rw [← readAt_fin]; exact hres)
 have HT := Lib.hid ht
 have hbl : b.length ≤ 100000 := by rw [← hb0.1]; exact hn0
 have HBL := Lib.hid hbl
 have hq46 : q4 < q6 := by omega
 have HQ4 := Lib.hid hq4
 clear hres ht hbl
 rw [hq4] at hR4 hR6
 rw [hq6] at hR6
 have hl6 := hR6.lt
 have bW' : Below q4 w W := by rw [← hq4]; exact bW
 have hbW := hb0.call bW
 go_enter Tryz.func92, Tryz.ntmps92
 go_upto_region 1 with fail
 try rw [hW]
 try rw [hq4]
 try rw [hq6]
 clear hW hq6 hq4 hb0
 go_wp2_with fail
 refine (attZero W).mono ?_
 rintro _ w1 ⟨rfl, b1⟩
 have hb1 := hbW.call b1
 have z1 := b1.size
 go_upto_region 2 with fail
 obtain ⟨w2, hw2, hG, b2⟩ := box1c w1 #[.int .i64 0, .slice none 0 0, .int .u32 0, .int .i64 (-1), .int .i64 (-1), .bool false, .bool false, .int .u32 0, .int .u32 0, .slice none 0 0, .slice none 0 0, .slice none 0 0, .slice none 0 0, .bool false, .int .u32 0, .slice none 0 0, .bool wide] 219
 try rw [hw2]
 obtain ⟨gg, hgg⟩ : ∃ q, w1.heap.size = q := ⟨_, rfl⟩
 try rw [hgg]
 rw [hgg] at hG
 have hGl := hG.lt
 have hb2 := hb1.call b2
 have b02 : Below q4 w w2 := btr (btr bW' b1 (by omega)) b2 (by omega)
 have R4 := (hR4.below b1 hR4.lt).below b2 (by omega)
 have R6 := (hR6.below b1 hl6).below b2 (by omega)
 have h6g : q6 < gg := by omega
 clear hw2 hgg hR4 hR6 hbW b1 bW bW' hb1 b2 z1
 have P2 : GP w2 q4 gg (gg :: q4 :: q6 :: ex) wide ⟨none, 0, 0, none, 0, 0, none, 0, 0, none, 0, 0, none, 0, 0, none, 0, 0⟩ zeroGr := ⟨hG, ⟨DL.none_, DL.none_, OU.nil_, OI.nil_, ⟨[], rfl, rfl, World.ownsRow_nil _ _ _ _, (fun i cs a h => by simp at h), fun cs h => by simp at h⟩, ⟨rfl, Rw.none_⟩, Nat.le_refl _, by omega, hGl, by simp, (fun x hx => by have he := HEX.out x; rw [HQ4.out] at he; simp at hx; rcases hx with rfl | rfl | rfl | hx; omega; omega; omega; have := he hx; omega), fun x _ => ⟨(fun e => by cases e), (fun e => by cases e), fun e => by cases e⟩⟩⟩
 go_wp2_with fail
 refine (cloneB A0 n0 c0 b w2 hb2 (by omega)).mono ?_
 rintro _ w3 ⟨A3, n3, c3, rfl, o3, b3⟩
 have P3 := P2.call b3
 have hr3 : BF w3 (GH.qt ⟨none, 0, 0, none, 0, 0, none, 0, 0, none, 0, 0, none, 0, 0, none, 0, 0⟩ w3 (gg :: q4 :: q6 :: ex)) A3 n3 b := BF.ownF o3 (P2.q.fresh b3.size)
 have hc3 := o3.cap
 have b03 := btr b02 b3 P2.lo
 have R43 := R4.below b3 R4.lt
 have R63 := R6.below b3 R6.lt
 clear o3 b3 P2 b02 R4 R6 hb2
 go_wp2_with fail
 go_loopg [8] b.length (fun fu x wr => ∃ (h : GH) (v : Gr) (A : Option Addr) (n c : Nat) (t : List UInt8), x = .slice A n c ∧ GP wr q4 gg (gg :: q4 :: q6 :: ex) wide h v ∧ BF wr (h.qt wr (gg :: q4 :: q6 :: ex)) A n t ∧ n ≤ c ∧ Blk wr q4 75 #[.int .i64 0, .slice none 0 0, .int .u32 0, .int .i64 0, .int .i64 0, .bool false, .bool false, .int .u32 0, .int .u32 0, .slice none 0 0, .slice none 0 0] ∧ Blk wr q6 88 #[.int .i64 0, .int .i64 0, .slice none 0 0] ∧ Below q4 w wr ∧ Hid (BdX v ∧ t.length ≤ fu ∧ v.kinds.length + t.length ≤ b.length ∧ finA wide (loopA wide fu v t) = res ∧ (hasN v.kinds 8 = false → h.cb = none)))
 case atStart => exact ⟨_, _, A3, n3, c3, b, rfl, P3, hr3, hc3, R43, R63, b03, Lib.hid ⟨zero_bd, Nat.le_refl _, by simp [zeroGr], HR0.out, fun _ => rfl⟩⟩
 case round =>
  obtain ⟨h, v, A, n, c, t, rfl, P, hr, hnc, R4, R6, bw, HI⟩ := hrel
  have HTL := Lib.hid hr.1
  have hm4 : q4 ∈ (gg :: q4 :: q6 :: ex) := by simp
  have hm6 : q6 ∈ (gg :: q4 :: q6 :: ex) := by simp
  have hmg : gg ∈ (gg :: q4 :: q6 :: ex) := by simp
  by_cases hn : n = 0
  case pos =>
   subst hn
   have ht0 : t = [] := List.eq_nil_of_length_eq_zero (by have := HTL.out; omega)
   obtain ⟨v5, hv5⟩ : ∃ x, ({ v with a := endA wide v } : Gr) = x := ⟨_, rfl⟩
   have HE := Lib.hid (show res = .ok (v5.a, v5.kinds) by rw [← HI.out.2.2.2.1, ht0, loopA_nil, ← hv5]; rfl)
   have HBE := Lib.hid (show (rightA v5.a.path = true ∨ v5.a.path = []) ∧ v5.a.comms.length ≤ 32 ∧ v5.a.raws.length ≤ 8 ∧ ∀ y ∈ v5.a.raws, y.2.2.length ≤ 64 by
    have h1 := endA_bd wide HI.out.1
    have D := HI.out.1
    rw [← hv5]
    simp only
    rw [h1.2.1, h1.2.2]
    exact ⟨h1.1, D.comms, D.raws, D.data⟩)
   have HEN := Lib.hid (show Calls Tryz.prog 153 #[.pointer (some ⟨gg, 0, none⟩)] wr (RetE wr q4 gg (gg :: q4 :: q6 :: ex) wide h v5) by rw [← hv5]; exact attEnd q4 gg (gg :: q4 :: q6 :: ex) h v wide wr P HI.out.1 (by have := HI.out.2.2.1; have := HBL.out; omega))
   clear hv5 ht0
   go_wp2_with fail
   refine HEN.out.mono ?_
   rintro _ w5 ⟨rfl, b5, h5, P5, K5⟩
   have R45 : Blk w5 q4 75 _ := (K5 q4 (P.q.side hm4 (by omega))).2.trans R4
   have R65 : Blk w5 q6 88 _ := (K5 q6 (P.q.side hm6 (by omega))).2.trans R6
   have b05 := bw.trans b5
   clear b5 K5 R4 R6 P hr bw
   have Pd := P5.call ((Below.refl w5.heap.size w5).drew)
   have R4d := R45.below ((Below.refl w5.heap.size w5).drew) R45.lt
   have R6d := R65.below ((Below.refl w5.heap.size w5).drew) R65.lt
   have bd := btr b05 ((Below.refl w5.heap.size w5).drew) P5.lo
   go_upto_region 18 with fail
   obtain ⟨wd, hwd⟩ : ∃ x, w5.drew = x := ⟨_, rfl⟩
   rw [hwd] at Pd R4d R6d bd
   have HWD := Lib.hid hwd
   clear hwd P5 R45 R65 b05
   have ne4 : gg ≠ q4 := by omega
   have ne6 : gg ≠ q6 := by omega
   have HK1 := Lib.hid (Pd.at_ R4d hm4 ne4 (by decide) (by decide) (by decide) (att_grown (q := q4) (x0 := .int .i64 v5.a.origin) (x1 := .slice h5.pa h5.pn h5.pc) (x2 := .int .u32 v5.a.next) (x3 := .int .i64 v5.a.med) (x4 := .int .i64 v5.a.pref) (x5 := .bool v5.a.atomic) (x6 := .bool v5.a.hasAggr) (x7 := .int .u32 v5.a.aggrAS) (x8 := .int .u32 v5.a.aggrAddr) (x9 := .slice h5.ca h5.cn h5.cc) (x10 := .slice h5.ra h5.rn h5.rc) wd))
   have R6e := R6d.grown (att_grown (q := q4) (x0 := .int .i64 v5.a.origin) (x1 := .slice h5.pa h5.pn h5.pc) (x2 := .int .u32 v5.a.next) (x3 := .int .i64 v5.a.med) (x4 := .int .i64 v5.a.pref) (x5 := .bool v5.a.atomic) (x6 := .bool v5.a.hasAggr) (x7 := .int .u32 v5.a.aggrAS) (x8 := .int .u32 v5.a.aggrAddr) (x9 := .slice h5.ca h5.cn h5.cc) (x10 := .slice h5.ra h5.rn h5.rc) wd) (by intro e; injection e with e; omega)
   have HK2 := Lib.hid (HK1.out.at_ R6e hm6 ne6 (by decide) (by decide) (by decide) (flt_grown (q := q6) (x := .int .i64 0) (y := .int .i64 0) (z := .slice none 0 0) _))
   have HRT := Lib.hid (show RetRX w ex res (.returned (.tuple #[.agg #[.int .i64 v5.a.origin, .slice h5.pa h5.pn h5.pc, .int .u32 v5.a.next, .int .i64 v5.a.med, .int .i64 v5.a.pref, .bool v5.a.atomic, .bool v5.a.hasAggr, .int .u32 v5.a.aggrAS, .int .u32 v5.a.aggrAddr, .slice h5.ca h5.cn h5.cc, .slice h5.ra h5.rn h5.rc], .slice h5.ka h5.kn h5.kc, .agg #[.int .i64 0, .int .i64 0, .slice none 0 0]])) _ from by
    have g1 := att_grown (q := q4) (x0 := .int .i64 v5.a.origin) (x1 := .slice h5.pa h5.pn h5.pc) (x2 := .int .u32 v5.a.next) (x3 := .int .i64 v5.a.med) (x4 := .int .i64 v5.a.pref) (x5 := .bool v5.a.atomic) (x6 := .bool v5.a.hasAggr) (x7 := .int .u32 v5.a.aggrAS) (x8 := .int .u32 v5.a.aggrAddr) (x9 := .slice h5.ca h5.cn h5.cc) (x10 := .slice h5.ra h5.rn h5.rc) wd
    have g2 := flt_grown (q := q6) (x := .int .i64 0) (y := .int .i64 0) (z := .slice none 0 0) (World.setCell (World.setCell (World.setCell (World.setCell (World.setCell (World.setCell (World.setCell (World.setCell (World.setCell (World.setCell (World.setCell wd ⟨q4, 0, none⟩ (.int .i64 v5.a.origin)) ⟨q4, 1, none⟩ (.slice h5.pa h5.pn h5.pc)) ⟨q4, 2, none⟩ (.int .u32 v5.a.next)) ⟨q4, 3, none⟩ (.int .i64 v5.a.med)) ⟨q4, 4, none⟩ (.int .i64 v5.a.pref)) ⟨q4, 5, none⟩ (.bool v5.a.atomic)) ⟨q4, 6, none⟩ (.bool v5.a.hasAggr)) ⟨q4, 7, none⟩ (.int .u32 v5.a.aggrAS)) ⟨q4, 8, none⟩ (.int .u32 v5.a.aggrAddr)) ⟨q4, 9, none⟩ (.slice h5.ca h5.cn h5.cc)) ⟨q4, 10, none⟩ (.slice h5.ra h5.rn h5.rc))
    have b1 := bd.grown g1 Pd.lo (fun k hk => by injection hk with hk; omega)
    have b2 := b1.grown g2 (Nat.le_trans Pd.lo g1.size) (fun k hk => by injection hk with hk; omega)
    refine ⟨by rw [HQ4.out]; exact b2, ?_⟩
    rw [HE.out]
    have Q := HK2.out.q
    have hfr : ∀ {W' : World} (b : Nat), q4 ≤ b → b < W'.heap.size → Ex W' ex b := fun b h1 h2 => ⟨h2, fun hm => by have h3 := HEX.out b hm; rw [HQ4.out] at h3; omega⟩
    exact ⟨_, _, _, _, _, _, _, _, _, _, _, _, rfl, Q.path.keep rSeg_ok (Kp.sub fun b hb => ⟨hb.1, fun hm => hb.2.1 (by simp [hm])⟩), ⟨Q.comms.1, own_rw Q.comms.2.1 hfr, Q.comms.2.2⟩, Q.raws.dlX hfr (fun b hb => ⟨hb.1, fun hm => hb.2.1 (by simp [hm])⟩), own_rw Q.kinds.2 hfr, Q.kinds.1, HBE.out⟩)
   have ic0 := R4d.cell 0
   have if0 := R4d.frozen 0
   have ic1 := R4d.cell 1
   have if1 := R4d.frozen 1
   have ic2 := R4d.cell 2
   have if2 := R4d.frozen 2
   have ic3 := R4d.cell 3
   have if3 := R4d.frozen 3
   have ic4 := R4d.cell 4
   have if4 := R4d.frozen 4
   have ic5 := R4d.cell 5
   have if5 := R4d.frozen 5
   have ic6 := R4d.cell 6
   have if6 := R4d.frozen 6
   have ic7 := R4d.cell 7
   have if7 := R4d.frozen 7
   have ic8 := R4d.cell 8
   have if8 := R4d.frozen 8
   have ic9 := R4d.cell 9
   have if9 := R4d.frozen 9
   have ic10 := R4d.cell 10
   have if10 := R4d.frozen 10
   have jc0 := R6e.cell 0
   have jf0 := R6e.frozen 0
   have jc1 := R6e.cell 1
   have jf1 := R6e.frozen 1
   have jc2 := R6e.cell 2
   have jf2 := R6e.frozen 2
   refine wp_region_held_drew (S := (fun w' => Blk w' gg 219 (GC h5 v5 wide))) (by kernel_rfl) ?_ (fun hHeld => ?_)
   ·rw [HWD.out]; exact Pd.blk
   rw [HWD.out]
   rw [HWD.out] at hHeld
   refine tkh 0 (h := ?_)
   try simp only [Act.put, q1, q2, q3, q4, q5, q6]
   refine tkh 1 (h := ?_)
   try simp only [Act.put, q1, q2, q3, q4, q5, q6]
   refine tkh 2 (h := ?_)
   try simp only [Act.put, q1, q2, q3, q4, q5, q6]
   refine wpAnyH_take (i := 3) (v := ?m4_v3) rfl (by kernel_rfl) (by kernel_rfl) (by kernel_rfl) (by intro _ _ _ h; exact h) (Or.inl ⟨by rfl, ?m4_hy3⟩) (by assumption) ?m4_rest3
   case m4_hy3 => (intro w hSw; (try dsimp only at hSw); have z0 := Blk.cell hSw 0; have z1 := Blk.cell hSw 1; have z2 := Blk.cell hSw 2; have z3 := Blk.cell hSw 3; have z4 := Blk.cell hSw 4; have z5 := Blk.cell hSw 5; have z6 := Blk.cell hSw 6; have z7 := Blk.cell hSw 7; have z8 := Blk.cell hSw 8; have z9 := Blk.cell hSw 9; have z10 := Blk.cell hSw 10; have z11 := Blk.cell hSw 11; clear hSw; go_simp; try with_reducible rfl)
   try simp only [Act.put, q1, q2, q3, q4, q5, q6]
   refine tkh 4 (h := ?_)
   try simp only [Act.put, q1, q2, q3, q4, q5, q6]
   refine tkh 5 (h := ?_)
   try simp only [Act.put, q1, q2, q3, q4, q5, q6]
   refine tkh 6 (h := ?_)
   try simp only [Act.put, q1, q2, q3, q4, q5, q6]
   refine wpAnyH_take (i := 7) (v := ?m8_v7) rfl (by kernel_rfl) (by kernel_rfl) (by kernel_rfl) (by intro _ _ _ h; exact h) (Or.inl ⟨by rfl, ?m8_hy7⟩) (by assumption) ?m8_rest7
   case m8_hy7 => (intro w hSw; (try dsimp only at hSw); have z0 := Blk.cell hSw 0; have z1 := Blk.cell hSw 1; have z2 := Blk.cell hSw 2; have z3 := Blk.cell hSw 3; have z4 := Blk.cell hSw 4; have z5 := Blk.cell hSw 5; have z6 := Blk.cell hSw 6; have z7 := Blk.cell hSw 7; have z8 := Blk.cell hSw 8; have z9 := Blk.cell hSw 9; have z10 := Blk.cell hSw 10; have z11 := Blk.cell hSw 11; clear hSw; go_simp; try with_reducible rfl)
   try simp only [Act.put, q1, q2, q3, q4, q5, q6]
   refine tkh 8 (h := ?_)
   try simp only [Act.put, q1, q2, q3, q4, q5, q6]
   refine tkr 9 fun K hK => ?_
   go_simp
   go_wp2_with (fail)
   refine hK.out _ _ ?_ (fun hHeld => ?_)
   ·try dsimp only
    exact HK1.out.blk
   clear hK K
   refine tkr 10 fun K hK => ?_
   go_simp
   go_wp2_with (fail)
   refine hK.out _ _ ?_ (fun hHeld => ?_)
   ·try dsimp only
    exact HK1.out.blk
   clear hK K
   refine tkr 11 fun K hK => ?_
   go_simp
   go_wp2_with (fail)
   refine hK.out _ _ ?_ (fun hHeld => ?_)
   ·try dsimp only
    exact HK2.out.blk
   clear hK K
   refine wpAnyH_done (by kernel_rfl) ?_ _
   go_wp2_with fail
   exact bodyPost_ret (read_ret rfl _ _ q4 q6 _ _ _ _ _ _ _ _ _ _ _ (.slice h5.ka h5.kn h5.kc) (.int .i64 0) (.int .i64 0) (.slice none 0 0) rfl rfl rfl ((att_store R4d).grown (flt_grown _) (by intro e; injection e with e; omega)) (flt_store R6e)) rfl HRT.out
  have hnp : 0 < n := Nat.pos_of_ne_zero hn
  have d1 : decide (0 < n) = true := decide_eq_true hnp
  have d1' : decide ((0 : Int) < (n : Int)) = true := decide_eq_true (by omega)
  have HNP := Lib.hid hnp
  have htn : t ≠ [] := by intro e; rw [e] at HTL; have := HTL.out; simp at this; omega
  cases gk with
  | zero => exact absurd (List.eq_nil_of_length_eq_zero (by have := HI.out.2.1; omega)) htn
  | succ f =>
   obtain ⟨sp, hsp⟩ : ∃ x, splitA t = x := ⟨_, rfl⟩
   have HST0 : finA wide (nextR wide f v sp) = res := by rw [← HI.out.2.2.2.1, loopA_next htn, hsp]
   have HST := Lib.hid HST0
   have HSL := Lib.hid (show ∀ x t', sp = some (x, t') → t'.length < t.length from fun x t' e => (splitA_len (hsp.trans e)).resolve_right htn)
   have HSV := Lib.hid (show ∀ x t', sp = some (x, t') → x.val.length ≤ t.length from fun x t' e => splitA_val (hsp.trans e))
   have HSPC := Lib.hid (show Calls Tryz.prog 146 #[.slice A n c] wr (RetSp wr A sp) by rw [← hsp]; exact attSplit A n c t wr hr.bsq (by have := HTL.out; have := HI.out.2.2.1; have := HBL.out; omega) hnc)
   have HBLK := Lib.hid (hr.block hnp)
   clear hsp htn hn hnp HST0
   cases sp with
   | none =>
    have HE := Lib.hid (show res = .error (1, []) from HST.out.symm)
    go_wp2_with fail
    refine HSPC.out.mono ?_
    rintro _ w4 ⟨b4, rfl⟩
    have R44 := R4.below b4 R4.lt
    have R64 := R6.below b4 R6.lt
    have b04 := btr bw b4 P.lo
    go_upto_region 5 with fail
    obtain ⟨w5, hw5, hX, b5⟩ := box1c w4 #[.int .i64 0, .int .i64 0, .slice none 0 0, .slice none 0 0] 222
    try rw [hw5]
    have R45 := R44.below b5 R44.lt
    have R65 := R64.below b5 R64.lt
    have b05 := btr b04 b5 (by have := R44.lt; omega)
    clear hw5 hX b5 R44 R64 b04 b4 R4 R6 bw P hr
    go_quiet (fail)
    have R4n := R45.below (below_drewN (Below.refl w5.heap.size w5) nq) R45.lt
    have R6n := R65.below (below_drewN (Below.refl w5.heap.size w5) nq) R65.lt
    have bn : Below q4 w (w5.drewN nq) := btr b05 (below_drewN (Below.refl w5.heap.size w5) nq) (by have := R45.lt; omega)
    obtain ⟨w6, hw6⟩ : ∃ x, w5.drewN nq = x := ⟨_, rfl⟩
    rw [hw6] at R4n R6n bn
    try rw [hw6]
    clear hw6 R45 R65 b05
    go_wp2_with fail
    refine (attFault 1 none 0 0 w6).mono ?_
    rintro _ wq ⟨rfl, bq⟩
    have R4q := R4n.below bq R4n.lt
    have R6q := R6n.below bq R6n.lt
    have bwq := btr bn bq (by have := R4n.lt; omega)
    have ic0 := R4q.cell 0
    have if0 := R4q.frozen 0
    have ic1 := R4q.cell 1
    have if1 := R4q.frozen 1
    have ic2 := R4q.cell 2
    have if2 := R4q.frozen 2
    have ic3 := R4q.cell 3
    have if3 := R4q.frozen 3
    have ic4 := R4q.cell 4
    have if4 := R4q.frozen 4
    have ic5 := R4q.cell 5
    have if5 := R4q.frozen 5
    have ic6 := R4q.cell 6
    have if6 := R4q.frozen 6
    have ic7 := R4q.cell 7
    have if7 := R4q.frozen 7
    have ic8 := R4q.cell 8
    have if8 := R4q.frozen 8
    have ic9 := R4q.cell 9
    have if9 := R4q.frozen 9
    have ic10 := R4q.cell 10
    have if10 := R4q.frozen 10
    have jc0 := R6q.cell 0
    have jf0 := R6q.frozen 0
    have jc1 := R6q.cell 1
    have jf1 := R6q.frozen 1
    have jc2 := R6q.cell 2
    have jf2 := R6q.frozen 2
    go_wp2_with fail
    exact bodyPost_ret (read_ret rfl _ _ q4 q6 _ _ _ _ _ _ _ _ _ _ _ (.slice none 0 0) (.int .i64 3) (.int .i64 1) (.slice none 0 0) rfl rfl rfl ((att_store R4q).grown (flt_grown _) (by intro e; injection e with e; omega)) (flt_store (R6q.grown (att_grown _) (by intro e; injection e with e; omega)))) rfl (RetRX.err (S := fun _ => False) (by rw [HQ4.out]; exact bwq) (by rw [HQ4.out]; exact Nat.le_refl _) (by rw [HQ4.out]; omega) ⟨rfl, Rw.none_⟩ (fun b hb => hb.elim) (Nat.le_refl _) HE.out)
   | some q =>
    obtain ⟨⟨fl, kind, all, val⟩, t'⟩ := q
    have hlt := HSL.out _ _ rfl
    have HLT := Lib.hid hlt
    go_wp2_with fail
    refine HSPC.out.mono ?_
    rintro _ w4 ⟨b4, A1, n1, c1, A2, n2, c2, A3, n3, c3, rfl, hall, oval, hbeh, hnc3, hfl, hkd, hA1, hA3, hnc1⟩
    simp only at hall oval hbeh hfl hkd
    have P4 := P.call b4
    have hfr := P.q.fresh b4.size
    have hnc2 := oval.cap
    have hn2 : n2 ≤ 100000 := by rw [oval.1]; have h1 := HSV.out _ _ rfl; simp only at h1; have := HI.out.2.2.1; have := HBL.out; omega
    have hall4 : BF w4 (h.qt w4 (gg :: q4 :: q6 :: ex)) A1 n1 all := BF.of_block hall (fun _ ad e => by
     obtain ⟨a0, e0, h0⟩ := HBLK.out
     rw [hA1, e0] at e
     injection e with e
     rw [← e]
     exact ⟨Nat.lt_of_lt_of_le h0.1 b4.size, h0.2⟩)
    have hbeh4 : BF w4 (h.qt w4 (gg :: q4 :: q6 :: ex)) A3 n3 t' := BF.of_block hbeh (fun _ ad e => by
     obtain ⟨a0, e0, h0⟩ := HBLK.out
     rw [hA3 ad a0 e e0]
     exact ⟨Nat.lt_of_lt_of_le h0.1 b4.size, h0.2⟩)
    have hval4 : BF w4 (h.qt w4 (gg :: q4 :: q6 :: ex)) A2 n2 val := BF.ownF oval hfr
    have R44 := R4.below b4 R4.lt
    have R64 := R6.below b4 R6.lt
    have b04 := btr bw b4 P.lo
    clear hall oval hbeh hA1 hA3 hfr
    go_upto_region 5 with fail
    obtain ⟨w5, hw5, hX, b5⟩ := box1c w4 #[.int .i64 fl, .int .i64 kind, .slice A1 n1 c1, .slice A2 n2 c2] 222
    try rw [hw5]
    obtain ⟨q9, hq9⟩ : ∃ x, w4.heap.size = x := ⟨_, rfl⟩
    try rw [hq9]
    have hz9 : w4.heap.size ≤ q9 := by omega
    have hg9 : gg < q9 := by have := P4.q.hi; omega
    rw [hq9] at hX
    have P5 := P4.call b5
    have hall5 := hall4.keep (GQ.kcall h b5)
    have hval5 := hval4.keep (GQ.kcall h b5)
    have hbeh5 := hbeh4.keep (GQ.kcall h b5)
    have R45 := R44.below b5 R44.lt
    have R65 := R64.below b5 R64.lt
    have b05 := btr b04 b5 P4.lo
    have h46 : q6 < q9 := by have := R64.lt; omega
    clear hw5 hq9 b5 R44 R64 b04 b4 R4 R6 bw P hr P4 hall4 hval4 hbeh4
    obtain ⟨hb, hhb⟩ : ∃ x, hasN v.kinds kind = x := ⟨_, rfl⟩
    have HCN := Lib.hid (show ∀ w', OI w' q4 h.ka h.kn h.kc v.kinds → Calls Tryz.prog 147 #[.slice h.ka h.kn h.kc, .int .i64 kind] w' fun en w'' => en = .returned (.bool hb) ∧ w' = w'' from fun w' ho => by rw [← hhb]; exact containsI h.ka h.kn h.kc v.kinds kind w' w'.heap.size ho.reads ho.1 (by have := ho.1; have := HI.out.2.2.1; have := HBL.out; omega))
    have HHB := Lib.hid hhb
    clear hhb
    have k11 : w5.cell? ⟨gg, 11, none⟩ = some (.slice h.ka h.kn h.kc) := P5.blk.cell 11
    have k1 : w5.cell? ⟨q9, 1, none⟩ = some (.int .i64 kind) := hX.cell 1
    have HKI := Lib.hid P5.q.kinds
    go_quiet ((go_at_call 147; exact quiet_left (HCN.out _ HKI.out)))
    have bq := below_drewN (Below.refl w5.heap.size w5) nq
    have P6 := P5.call bq
    have hall6 := hall5.keep (GQ.kcall h bq)
    have hval6 := hval5.keep (GQ.kcall h bq)
    have hbeh6 := hbeh5.keep (GQ.kcall h bq)
    have R46 := R45.below bq R45.lt
    have R66 := R65.below bq R65.lt
    have X6 := hX.below bq hX.lt
    have b06 := btr b05 bq P5.lo
    obtain ⟨w6, hw6⟩ : ∃ x, w5.drewN nq = x := ⟨_, rfl⟩
    rw [hw6] at P6 hall6 hval6 hbeh6 R46 R66 X6 b06
    try rw [hw6]
    clear hw6 bq k11 k1 HKI P5 hall5 hval5 hbeh5 R45 R65 hX b05
    cases hb
    case true =>
     have HE := Lib.hid (show res = .error (1, []) by
      rw [← HST.out]
      unfold nextR stepA
      simp only
      rw [if_pos HHB.out]
      rfl)
     go_wp2_with fail
     refine (attFault 1 none 0 0 w6).mono ?_
     rintro _ wq ⟨rfl, bq⟩
     have R4q := R46.below bq R46.lt
     have R6q := R66.below bq R66.lt
     have bwq := btr b06 bq (by have := R46.lt; omega)
     have ic0 := R4q.cell 0
     have if0 := R4q.frozen 0
     have ic1 := R4q.cell 1
     have if1 := R4q.frozen 1
     have ic2 := R4q.cell 2
     have if2 := R4q.frozen 2
     have ic3 := R4q.cell 3
     have if3 := R4q.frozen 3
     have ic4 := R4q.cell 4
     have if4 := R4q.frozen 4
     have ic5 := R4q.cell 5
     have if5 := R4q.frozen 5
     have ic6 := R4q.cell 6
     have if6 := R4q.frozen 6
     have ic7 := R4q.cell 7
     have if7 := R4q.frozen 7
     have ic8 := R4q.cell 8
     have if8 := R4q.frozen 8
     have ic9 := R4q.cell 9
     have if9 := R4q.frozen 9
     have ic10 := R4q.cell 10
     have if10 := R4q.frozen 10
     have jc0 := R6q.cell 0
     have jf0 := R6q.frozen 0
     have jc1 := R6q.cell 1
     have jf1 := R6q.frozen 1
     have jc2 := R6q.cell 2
     have jf2 := R6q.frozen 2
     go_wp2_with fail
     exact bodyPost_ret (read_ret rfl _ _ q4 q6 _ _ _ _ _ _ _ _ _ _ _ (.slice none 0 0) (.int .i64 3) (.int .i64 1) (.slice none 0 0) rfl rfl rfl ((att_store R4q).grown (flt_grown _) (by intro e; injection e with e; omega)) (flt_store (R6q.grown (att_grown _) (by intro e; injection e with e; omega)))) rfl (RetRX.err (S := fun _ => False) (by rw [HQ4.out]; exact bwq) (by rw [HQ4.out]; exact Nat.le_refl _) (by rw [HQ4.out]; omega) ⟨rfl, Rw.none_⟩ (fun b hb => hb.elim) (Nat.le_refl _) HE.out)
    case false =>
     have HS2 := Lib.hid (show finA wide (contR wide f t' (if knownA kind = true then (if formA wide ⟨fl, kind, all, val⟩ ≠ 0 then .error (formA wide ⟨fl, kind, all, val⟩, all) else knwA wide { v with kinds := v.kinds ++ [kind] } ⟨fl, kind, all, val⟩) else unkA { v with kinds := v.kinds ++ [kind] } ⟨fl, kind, all, val⟩)) = res by
      rw [← HST.out]
      unfold nextR
      refine congrArg (fun r => finA wide (contR wide f t' r)) ?_
      unfold stepA
      exact (if_neg (by simp only; rw [HHB.out]; decide)).symm)
     have bq := (Below.refl w6.heap.size w6).drew
     have Pd := P6.call bq
     have halld := hall6.keep (GQ.kcall h bq)
     have hvald := hval6.keep (GQ.kcall h bq)
     have hbehd := hbeh6.keep (GQ.kcall h bq)
     have R4d := R46.below bq R46.lt
     have R6d := R66.below bq R66.lt
     have Xd := X6.below bq X6.lt
     have bd := btr b06 bq P6.lo
     go_upto_region 8 with fail
     rename_i hkk
     have HKK := Lib.hid hkk
     clear hkk
     obtain ⟨wd, hwd⟩ : ∃ x, w6.drew = x := ⟨_, rfl⟩
     rw [hwd] at Pd halld hvald hbehd R4d R6d Xd bd
     have HWD := Lib.hid hwd
     clear hwd bq P6 hall6 hval6 hbeh6 R46 R66 X6 b06
     obtain ⟨v2, hv2⟩ : ∃ x, ({ v with kinds := v.kinds ++ [kind] } : Gr) = x := ⟨_, rfl⟩
     rw [hv2] at HS2
     have D2 : BdX v2 := by rw [← hv2]; exact HI.out.1.push kind
     have HV2 := Lib.hid hv2
     clear hv2
     have y1 : wd.cell? ⟨q9, 1, none⟩ = some (.int .i64 kind) := Xd.cell 1
     have c11 : wd.cell? ⟨gg, 11, none⟩ = some (.slice h.ka h.kn h.kc) := Pd.blk.cell 11
     have ba := (Below.refl wd.heap.size wd).alloc (Nat.le_refl _) (.cells #[.int .i64 kind] 3)
     have Pa := Pd.call ba
     have Xa := Xd.below ba Xd.lt
     have a11 : (wd.alloc (.cells #[.int .i64 kind] 3)).cell? ⟨gg, 11, none⟩ = some (.slice h.ka h.kn h.kc) := Pa.blk.cell 11
     have ya1 : (wd.alloc (.cells #[.int .i64 kind] 3)).cell? ⟨q9, 1, none⟩ = some (.int .i64 kind) := Xa.cell 1
     have oI := Pa.q.kinds
     have hBa := Pa.lo
     have HAP := Lib.hid (show ∀ (A6 : Option Addr) (n6 c6 : Nat) (w7 : World), OI w7 q4 A6 n6 c6 (v.kinds ++ [kind]) → (wd.alloc (.cells #[.int .i64 kind] 3)).grownBy w7 (Value.ownBlock (.slice h.ka h.kn h.kc)) → (Value.ownBlock (.slice A6 n6 c6) = Value.ownBlock (.slice h.ka h.kn h.kc) ∨ Value.ownBlock (.slice A6 n6 c6) = some (wd.alloc (.cells #[.int .i64 kind] 3)).heap.size) → w7.frozen? ⟨gg, 11, none⟩ = false ∧ w7.cell? ⟨gg, 11, none⟩ = some (.slice h.ka h.kn h.kc) ∧ w7.cell? ⟨q9, 1, none⟩ = some (.int .i64 kind) ∧ ∃ w8 h2, w7.setCell ⟨gg, 11, none⟩ (.slice A6 n6 c6) = w8 ∧ GP w8 q4 gg (gg :: q4 :: q6 :: ex) wide h2 v2 ∧ h2.cb = h.cb ∧ BF w8 (h2.qt w8 (gg :: q4 :: q6 :: ex)) A1 n1 all ∧ BF w8 (h2.qt w8 (gg :: q4 :: q6 :: ex)) A2 n2 val ∧ BF w8 (h2.qt w8 (gg :: q4 :: q6 :: ex)) A3 n3 t' ∧ Blk w8 q4 75 #[.int .i64 0, .slice none 0 0, .int .u32 0, .int .i64 0, .int .i64 0, .bool false, .bool false, .int .u32 0, .int .u32 0, .slice none 0 0, .slice none 0 0] ∧ Blk w8 q6 88 #[.int .i64 0, .int .i64 0, .slice none 0 0] ∧ Blk w8 q9 222 #[.int .i64 fl, .int .i64 kind, .slice A1 n1 c1, .slice A2 n2 c2] ∧ Below q4 w w8 from by
      intro A6 n6 c6 w7 o7 g7 hat
      obtain ⟨Q7, K7⟩ := Pa.q.kinds_push o7 g7 hat
      have ne : ∀ {b : Nat} {T : TypeId} {cs : Array Value}, Blk (wd.alloc (.cells #[.int .i64 kind] 3)) b T cs → 3 ≠ T → some b ≠ Value.ownBlock (.slice h.ka h.kn h.kc) := fun hb hne e => own_blk_ne oI.2 hb hne e.symm
      have hb7 := Pa.blk.grown g7 (ne Pa.blk (by decide))
      have X7 := Xa.grown g7 (ne Xa (by decide))
      have R4a := R4d.below ba R4d.lt
      have R6a := R6d.below ba R6d.lt
      have R47 := R4a.grown g7 (ne R4a (by decide))
      have R67 := R6a.grown g7 (ne R6a (by decide))
      have b7 := (btr bd ba Pd.lo).grown g7 Pa.lo (fun k hk => (Pa.q.kbl k hk).1)
      have KA : ∀ {A : Option Addr} {n : Nat} {l : List UInt8}, BF wd (h.qt wd (gg :: q4 :: q6 :: ex)) A n l → BF w7 (GH.qt { h with ka := A6, kn := n6, kc := c6 } w7 (gg :: q4 :: q6 :: ex)) A n l := fun hx => (hx.keep (GQ.kcall h ba)).keep (K7 _)
      obtain ⟨P8, K8, b8⟩ := GP.head (i := 11) (u := .slice A6 n6 c6) (v' := v2) hb7 (by rw [← HV2.out]; exact Q7) (by rw [← HV2.out]; rfl)
      refine ⟨hb7.frozen 11, hb7.cell 11, X7.cell 1, _, _, rfl, P8, rfl, (KA halld).keep (K8 _ (by simp)), (KA hvald).keep (K8 _ (by simp)), (KA hbehd).keep (K8 _ (by simp)), R47.far (p := ⟨gg, 11, none⟩) (by show q4 ≠ gg; omega) _, R67.far (p := ⟨gg, 11, none⟩) (by show q6 ≠ gg; omega) _, X7.far (p := ⟨gg, 11, none⟩) (by show q9 ≠ gg; omega) _, b7.trans b8⟩)
     clear Pd Pa Xa R4d R6d bd halld hvald hbehd ba
     apply share
     case f =>
      intro HG0
      have HG := Lib.hid HG0
      clear HG0
      refine wp_region_held_drew (S := (fun w' => w'.cell? ⟨q9, 1, none⟩ = some (.int .i64 kind))) (by kernel_rfl) ?_ (fun hHeld => ?_)
      ·rw [HWD.out]; exact y1
      rw [HWD.out]
      rw [HWD.out] at hHeld
      refine tkh 0 (h := ?_)
      try simp only [Act.put, q1, q2, q3, q4, q5, q6]
      refine tkh 1 (h := ?_)
      try simp only [Act.put, q1, q2, q3, q4, q5, q6]
      refine tkh 2 (h := ?_)
      try simp only [Act.put, q1, q2, q3, q4, q5, q6]
      refine tkh 3 (h := ?_)
      try simp only [Act.put, q1, q2, q3, q4, q5, q6]
      refine tkh 5 (h := ?_)
      try simp only [Act.put, q1, q2, q3, q4, q5, q6]
      refine tkh 6 (h := ?_)
      try simp only [Act.put, q1, q2, q3, q4, q5, q6]
      refine wpAnyH_ready (rs := [4, 7]) (by kernel_rfl) (by simp) ?_
      refine AllReadyH.cons rfl (fun K hK => ?_) (AllReadyH.cons rfl (fun K hK => ?_) AllReadyH.nil)
      ·skip
       go_simp
       go_wp2_with (fail)
       refine hK.out _ _ ?_ (fun hHeld => ?_)
       ·try dsimp only
        first | exact y1 | exact ya1
       clear hK K
       refine tkr 7 fun K hK => ?_
       go_simp
       go_wp2_with (fail)
       refine hK.out _ _ ?_ (fun hHeld => ?_)
       ·try dsimp only
        first | exact y1 | exact ya1
       clear hK K
       refine tkr 8 fun K hK => ?_
       refine step_appI rfl (.tmp 46) (.tmp 49) rfl q4 h.ka h.kn h.kc v.kinds (by rfl) oI (wd.heap.size + 1) (some ⟨wd.heap.size, 0, none⟩) 1 1 [kind] (by rfl) (Reads.oneI wd 3 kind) (by have := HI.out.2.2.1; have := HBL.out; simp; omega) hBa ?_; intro A6 n6 c6 w7 o7 b7 g7 hat; obtain ⟨f11, d11, y7, w8, h2, hw8, HH⟩ := HAP.out A6 n6 c6 w7 o7 g7 hat; have HW8 := Lib.hid hw8; have HH8 := Lib.hid HH; clear hw8 HH o7 b7 g7 hat
       refine hK.out _ _ ?_ (fun hHeld => ?_)
       ·try dsimp only
        exact y7
       clear hK K
       refine tkh 9 (h := ?_)
       try simp only [Act.put, q1, q2, q3, q4, q5, q6]
       refine tkh 10 (h := ?_)
       try simp only [Act.put, q1, q2, q3, q4, q5, q6]
       refine tkr 11 fun K hK => ?_
       go_simp
       go_wp2_with (fail)
       refine hK.out _ _ ?_ (fun hHeld => ?_)
       ·try dsimp only
        rw [HW8.out]; exact HH8.out.2.2.2.2.2.2.2.1.cell 1
       clear hK K
       refine wpAnyH_done (by kernel_rfl) ?_ _
       rw [HW8.out]
       clear hHeld f11 d11 y7
       revert A6 n6 c6 w7 w8 h2 HW8 HH8
       exact HG.out
      ·skip
       go_simp
       go_wp2_with (fail)
       refine hK.out _ _ ?_ (fun hHeld => ?_)
       ·try dsimp only
        first | exact y1 | exact ya1
       clear hK K
       refine tkr 4 fun K hK => ?_
       go_simp
       go_wp2_with (fail)
       refine hK.out _ _ ?_ (fun hHeld => ?_)
       ·try dsimp only
        first | exact y1 | exact ya1
       clear hK K
       refine tkr 8 fun K hK => ?_
       refine step_appI rfl (.tmp 46) (.tmp 49) rfl q4 h.ka h.kn h.kc v.kinds (by rfl) oI (wd.heap.size + 1) (some ⟨wd.heap.size, 0, none⟩) 1 1 [kind] (by rfl) (Reads.oneI wd 3 kind) (by have := HI.out.2.2.1; have := HBL.out; simp; omega) hBa ?_; intro A6 n6 c6 w7 o7 b7 g7 hat; obtain ⟨f11, d11, y7, w8, h2, hw8, HH⟩ := HAP.out A6 n6 c6 w7 o7 g7 hat; have HW8 := Lib.hid hw8; have HH8 := Lib.hid HH; clear hw8 HH o7 b7 g7 hat
       refine hK.out _ _ ?_ (fun hHeld => ?_)
       ·try dsimp only
        exact y7
       clear hK K
       refine tkh 9 (h := ?_)
       try simp only [Act.put, q1, q2, q3, q4, q5, q6]
       refine tkh 10 (h := ?_)
       try simp only [Act.put, q1, q2, q3, q4, q5, q6]
       refine tkr 11 fun K hK => ?_
       go_simp
       go_wp2_with (fail)
       refine hK.out _ _ ?_ (fun hHeld => ?_)
       ·try dsimp only
        rw [HW8.out]; exact HH8.out.2.2.2.2.2.2.2.1.cell 1
       clear hK K
       refine wpAnyH_done (by kernel_rfl) ?_ _
       rw [HW8.out]
       clear hHeld f11 d11 y7
       revert A6 n6 c6 w7 w8 h2 HW8 HH8
       exact HG.out
     intro A6 n6 c6 w7 w8 h2 HW8 HH8
     intro _
     clear HAP y1 ya1 c11 a11 oI hBa
     obtain ⟨P8, hcb8, hall8, hval8, hbeh8, R48, R68, X8, b08⟩ := HH8.out
     have HCB8 := Lib.hid hcb8
     clear hcb8 HH8
     refine HKK.out _ _ ?_
     have hB8 := P8.lo
     go_upto_region 10 with fail
     obtain ⟨w9, hw9, F9, b9⟩ := box1c w8 #[.int .i64 0, .int .i64 0, .slice none 0 0] 88
     try rw [hw9]
     obtain ⟨q12, hq12⟩ : ∃ x, w8.heap.size = x := ⟨_, rfl⟩
     try rw [hq12]
     have F9l := F9.lt
     have P9 := P8.add b9 (q := q12) (by omega) (by omega)
     have hall9 := hall8.keep (GQ.kadd h2 b9 (q := q12) (by omega))
     have hval9 := hval8.keep (GQ.kadd h2 b9 (q := q12) (by omega))
     have hbeh9 := hbeh8.keep (GQ.kadd h2 b9 (q := q12) (by omega))
     have R49 := R48.below b9 R48.lt
     have R69 := R68.below b9 R68.lt
     have X9 := X8.below b9 X8.lt
     have b09 := btr b08 b9 P8.lo
     have hq612 : q9 < q12 := by have := X8.lt; omega
     rw [hq12] at F9 F9l
     clear hw9 hq12 P8 hall8 hval8 hbeh8 R48 R68 X8 b08 b9
     have hm12 : q12 ∈ q12 :: (gg :: q4 :: q6 :: ex) := List.mem_cons_self ..
     have hm4' : q4 ∈ q12 :: (gg :: q4 :: q6 :: ex) := by simp
     have hm6' : q6 ∈ q12 :: (gg :: q4 :: q6 :: ex) := by simp
     have k0 := X9.cell 0
     have k1 : w9.cell? ⟨q9, 1, none⟩ = some (.int .i64 kind) := X9.cell 1
     have k2 := X9.cell 2
     have k3 := X9.cell 3
     obtain ⟨kb, hkb⟩ : ∃ x, knownA kind = x := ⟨_, rfl⟩
     have HKN := Lib.hid (show Calls Tryz.prog 149 #[.int .i64 kind] w9 fun en w' => en = .returned (.bool kb) ∧ w9 = w' by
      rw [← hkb]
      exact attKnown kind w9 (by simp [Lit.wf, IntKind.min, IntKind.max, IntKind.signed, IntKind.bits]; omega) (HT.out.call (by rw [HQ4.out]; exact b09)))
     have HKB := Lib.hid hkb
     have s12 := P9.q.side hm12 (by omega)
     have s4 := P9.q.side hm4' (by omega)
     have s6 := P9.q.side hm6' (by omega)
     have HLEN := Lib.hid (show v2.kinds.length + t'.length ≤ b.length by rw [← HV2.out]; have := HI.out.2.2.1; have := HLT.out; simp; omega)
     have HF := Lib.hid (show t'.length ≤ f by have := HI.out.2.1; have := HLT.out; omega)
     clear hkb
     go_wp2_with fail
     refine HKN.out.mono ?_
     rintro _ _ ⟨rfl, rfl⟩
     cases kb
     case false =>
      have HU := Lib.hid (attUnk q4 gg (q12 :: (gg :: q4 :: q6 :: ex)) h2 v2 wide fl kind A1 n1 c1 all A2 n2 c2 val w9 P9 (D2.g (by rw [← HV2.out]; simp)) hall9 hnc1 hval9 hnc2 hfl hkd)
      obtain ⟨r, hrr⟩ : ∃ x, unkA v2 ⟨fl, kind, all, val⟩ = x := ⟨_, rfl⟩
      rw [hrr] at HU
      have HS3 := Lib.hid (show finA wide (contR wide f t' r) = res by rw [← HS2.out, HKB.out, if_neg (by decide), hrr])
      have HRB := Lib.hid (show ∀ v', r = .ok v' → BdX v' ∧ v'.kinds = v2.kinds from fun v' e => unkA_bd D2 (hrr.trans e))
      clear hrr
      go_wp2_with fail
      refine HU.out.mono ?_
      rintro e10 w10 ⟨b10, s10, hm⟩
      clear k0 k1 k2 k3
      have R12 : Blk w10 q12 88 #[.int .i64 0, .int .i64 0, .slice none 0 0] := (s10 q12 s12).trans F9
      have R410 : Blk w10 q4 75 #[.int .i64 0, .slice none 0 0, .int .u32 0, .int .i64 0, .int .i64 0, .bool false, .bool false, .int .u32 0, .int .u32 0, .slice none 0 0, .slice none 0 0] := (s10 q4 s4).trans R49
      have R610 : Blk w10 q6 88 #[.int .i64 0, .int .i64 0, .slice none 0 0] := (s10 q6 s6).trans R69
      have b010 := b09.trans b10
      cases r with
      | error fe =>
       obtain ⟨k, l⟩ := fe
       obtain ⟨A9, n9, c9, rfl, hbf, hn9⟩ := hm
       have HE := Lib.hid (show res = .error (k, l) from HS3.out.symm)
       clear P9 hall9 hval9 hbeh9 R49 R69 X9 b09 F9 s12 s4 s6 s10 b10
       have mc0 := R12.cell 0
       have mf0 := R12.frozen 0
       have mc1 := R12.cell 1
       have mf1 := R12.frozen 1
       have mc2 := R12.cell 2
       have mf2 := R12.frozen 2
       go_upto_region 15 with fail
       have F11 := flt_store (x := .int .i64 3) (y := .int .i64 k) (z := .slice A9 n9 c9) R12
       have gF := flt_grown (q := q12) (x := .int .i64 3) (y := .int .i64 k) (z := .slice A9 n9 c9) w10
       have R411 := R410.grown gF (by intro e; injection e with e; omega)
       have R611 := R610.grown gF (by intro e; injection e with e; omega)
       have b011 := b010.grown gF (by have := R410.lt; omega) (fun k hk => by injection hk with hk; omega)
       have hbf11 := hbf.keep (S' := fun b => b < w10.heap.size ∧ b ∉ q12 :: (gg :: q4 :: q6 :: ex)) (fun b hb => ⟨hb, gF.block b hb.1 (fun e => by injection e with e; exact hb.2 (by rw [e]; simp))⟩)
       have hzF := gF.size
       obtain ⟨w11, hw11⟩ : ∃ x, (((World.setCell w10 ⟨q12, 0, none⟩ (.int .i64 3)).setCell ⟨q12, 1, none⟩ (.int .i64 k)).setCell ⟨q12, 2, none⟩ (.slice A9 n9 c9)) = x := ⟨_, rfl⟩
       rw [hw11] at F11 R411 R611 b011 hbf11 hzF
       try rw [hw11]
       clear hw11 gF mc0 mf0 mc1 mf1 mc2 mf2
       have l0 := F11.cell 0
       go_upto_region 16 with fail
       clear l0
       have Fd := F11.below ((Below.refl w11.heap.size w11).drew) F11.lt
       have R4d := R411.below ((Below.refl w11.heap.size w11).drew) R411.lt
       have R6d := R611.below ((Below.refl w11.heap.size w11).drew) R611.lt
       have bdd : Below q4 w w11.drew := btr b011 ((Below.refl w11.heap.size w11).drew) (by have := R411.lt; omega)
       have hbfd := hbf11.keep (S' := (fun b => b < w10.heap.size ∧ b ∉ q12 :: (gg :: q4 :: q6 :: ex))) (fun b hb => ⟨hb, rfl⟩ : Kp w11 w11.drew _ _)
       obtain ⟨wd, hwd⟩ : ∃ x, w11.drew = x := ⟨_, rfl⟩
       have hzd : wd.heap.size = w11.heap.size := by rw [← hwd]; rfl
       rw [hwd] at Fd R4d R6d bdd hbfd
       have HWD := Lib.hid hwd
       clear hwd
       have ne4 : q12 ≠ q4 := by omega
       have ne6 : q12 ≠ q6 := by omega
       have HK1 := Lib.hid (Fd.grown (att_grown (q := q4) (x0 := .int .i64 0) (x1 := .slice none 0 0) (x2 := .int .u32 0) (x3 := .int .i64 0) (x4 := .int .i64 0) (x5 := .bool false) (x6 := .bool false) (x7 := .int .u32 0) (x8 := .int .u32 0) (x9 := .slice none 0 0) (x10 := .slice none 0 0) wd) (by intro e; injection e with e; exact ne4 e))
       have R6e := R6d.grown (att_grown (q := q4) (x0 := .int .i64 0) (x1 := .slice none 0 0) (x2 := .int .u32 0) (x3 := .int .i64 0) (x4 := .int .i64 0) (x5 := .bool false) (x6 := .bool false) (x7 := .int .u32 0) (x8 := .int .u32 0) (x9 := .slice none 0 0) (x10 := .slice none 0 0) wd) (by intro e; injection e with e; omega)
       have HK2 := Lib.hid (HK1.out.grown (flt_grown (q := q6) (x := .int .i64 3) (y := .int .i64 k) (z := .slice A9 n9 c9) _) (by intro e; injection e with e; exact ne6 e))
       have HRT := Lib.hid (RetRX.err (ex := ex) (w := w) (q4 := q4) (q6 := q6) (by rw [HQ4.out]; exact bdd) (by rw [HQ4.out]; exact Nat.le_refl _) (by rw [HQ4.out]; omega) hbfd (fun b hb => by rw [hzd]; exact ⟨Nat.lt_of_lt_of_le hb.1 hzF, fun e => hb.2 (by rw [e]; simp), fun e => hb.2 (by rw [e]; simp), fun hm => hb.2 (by simp [hm])⟩) hn9 HE.out)
       have ic0 := R4d.cell 0
       have if0 := R4d.frozen 0
       have ic1 := R4d.cell 1
       have if1 := R4d.frozen 1
       have ic2 := R4d.cell 2
       have if2 := R4d.frozen 2
       have ic3 := R4d.cell 3
       have if3 := R4d.frozen 3
       have ic4 := R4d.cell 4
       have if4 := R4d.frozen 4
       have ic5 := R4d.cell 5
       have if5 := R4d.frozen 5
       have ic6 := R4d.cell 6
       have if6 := R4d.frozen 6
       have ic7 := R4d.cell 7
       have if7 := R4d.frozen 7
       have ic8 := R4d.cell 8
       have if8 := R4d.frozen 8
       have ic9 := R4d.cell 9
       have if9 := R4d.frozen 9
       have ic10 := R4d.cell 10
       have if10 := R4d.frozen 10
       have jc0 := R6e.cell 0
       have jf0 := R6e.frozen 0
       have jc1 := R6e.cell 1
       have jf1 := R6e.frozen 1
       have jc2 := R6e.cell 2
       have jf2 := R6e.frozen 2
       refine wp_region_held_drew (S := (fun w' => Blk w' q12 88 #[.int .i64 3, .int .i64 k, .slice A9 n9 c9])) (by kernel_rfl) ?_ (fun hHeld => ?_)
       ·rw [HWD.out]; exact Fd
       rw [HWD.out]
       rw [HWD.out] at hHeld
       refine tkh 0 (h := ?_)
       try simp only [Act.put, q1, q2, q3, q4, q5, q6]
       refine wpAnyH_take (i := 1) (v := ?m21_v1) rfl (by kernel_rfl) (by kernel_rfl) (by kernel_rfl) (by intro _ _ _ h; exact h) (Or.inl ⟨by rfl, ?m21_hy1⟩) (by assumption) ?m21_rest1
       case m21_hy1 => (intro w hSw; (try dsimp only at hSw); have z0 := Blk.cell hSw 0; have z1 := Blk.cell hSw 1; have z2 := Blk.cell hSw 2; clear hSw; go_simp; try with_reducible rfl)
       try simp only [Act.put, q1, q2, q3, q4, q5, q6]
       refine tkr 2 fun K hK => ?_
       go_simp
       go_wp2_with (fail)
       refine hK.out _ _ ?_ (fun hHeld => ?_)
       ·try dsimp only
        exact HK1.out
       clear hK K
       refine tkr 3 fun K hK => ?_
       go_simp
       go_wp2_with (fail)
       refine hK.out _ _ ?_ (fun hHeld => ?_)
       ·try dsimp only
        exact HK1.out
       clear hK K
       refine tkr 4 fun K hK => ?_
       go_simp
       go_wp2_with (fail)
       refine hK.out _ _ ?_ (fun hHeld => ?_)
       ·try dsimp only
        exact HK2.out
       clear hK K
       refine wpAnyH_done (by kernel_rfl) ?_ _
       go_wp2_with fail
       exact bodyPost_ret (read_ret rfl _ _ q4 q6 _ _ _ _ _ _ _ _ _ _ _ (.slice none 0 0) (.int .i64 3) (.int .i64 k) (.slice A9 n9 c9) rfl rfl rfl ((att_store R4d).grown (flt_grown _) (by intro e; injection e with e; omega)) (flt_store R6e)) rfl HRT.out
      | ok v3 =>
       obtain ⟨rfl, h3, P10, K10, hcb⟩ := hm
       obtain ⟨D3, hk3⟩ := HRB.out v3 rfl
       have hbeh10 := hbeh9.keep (K10.wide (gs := q12 :: (gg :: q4 :: q6 :: ex)) (by simp))
       have HREL := Lib.hid (show BdX v3 ∧ t'.length ≤ f ∧ v3.kinds.length + t'.length ≤ b.length ∧ finA wide (loopA wide f v3 t') = res ∧ (hasN v3.kinds 8 = false → h3.cb = none) from ⟨D3, HF.out, by rw [hk3]; exact HLEN.out, HS3.out, fun h8 => by
        rcases hcb with e | e
        ·rw [e, HCB8.out]
         refine HI.out.2.2.2.2 ?_
         rw [hk3, ← HV2.out] at h8
         simp only at h8
         rw [hasN_app] at h8
         exact (Bool.or_eq_false_iff.1 h8).1
        ·exact absurd (D3.c8 h8) e⟩)
       clear P9 hall9 hval9 hbeh9 R49 R69 X9 b09 F9 s12 s4 s6 s10 b10 K10 hcb D3 hk3
       have mc0 := R12.cell 0
       have mf0 := R12.frozen 0
       have mc1 := R12.cell 1
       have mf1 := R12.frozen 1
       have mc2 := R12.cell 2
       have mf2 := R12.frozen 2
       go_upto_region 15 with fail
       have F11 := flt_store (x := .int .i64 0) (y := .int .i64 0) (z := .slice none 0 0) R12
       have gF := flt_grown (q := q12) (x := .int .i64 0) (y := .int .i64 0) (z := .slice none 0 0) w10
       have R411 := R410.grown gF (by intro e; injection e with e; omega)
       have R611 := R610.grown gF (by intro e; injection e with e; omega)
       have b011 := b010.grown gF (by have := R410.lt; omega) (fun k hk => by injection hk with hk; omega)
       have P11 := (P10.at_ R12 (List.mem_cons_self ..) (by omega) (by decide) (by decide) (by decide) gF).drop hmg
       have hbe11 := (hbeh10.keep (GQ.kat _ (List.mem_cons_self ..) gF)).keep (GQ.kdrop _ _)
       obtain ⟨w11, hw11⟩ : ∃ x, (((World.setCell w10 ⟨q12, 0, none⟩ (.int .i64 0)).setCell ⟨q12, 1, none⟩ (.int .i64 0)).setCell ⟨q12, 2, none⟩ (.slice none 0 0)) = x := ⟨_, rfl⟩
       rw [hw11] at F11 R411 R611 b011 P11 hbe11
       try rw [hw11]
       clear hw11 gF mc0 mf0 mc1 mf1 mc2 mf2
       have l0 := F11.cell 0
       go_wp2_with fail
       go_roundg f
       case measure => omega
       case rel => exact ⟨_, _, A3, n3, c3, t', rfl, P11, hbe11, hnc3, R411, R611, b011, HREL⟩
     case true =>
      obtain ⟨fv, hfv⟩ : ∃ x, formA wide ⟨fl, kind, all, val⟩ = x := ⟨_, rfl⟩
      have hk18 : 0 ≤ kind ∧ kind ≤ 18 := ⟨hkd.1, by
       have := HKB.out
       rcases Int.lt_or_le 18 kind with h0 | h0
       ·unfold knownA at this
        rw [flags_out (.inr h0)] at this
        cases this
       ·exact h0⟩
      have HFM := Lib.hid (show Calls Tryz.prog 151 #[.pointer (some ⟨gg, 0, none⟩), .agg #[.int .i64 fl, .int .i64 kind, .slice A1 n1 c1, .slice A2 n2 c2]] w9 fun en w' => en = .returned (faultV fv A1 n1 c1) ∧ Below w9.heap.size w9 w' by
       rw [← hfv]
       exact attForm gg fl kind A1 n1 c1 all A2 n2 c2 val wide w9 (P9.blk.cell 16) P9.blk.lt hfl hk18 hval9.1 (HT.out.call (by rw [HQ4.out]; exact b09)))
      have HS3 := Lib.hid (show finA wide (contR wide f t' (if fv ≠ 0 then .error (fv, all) else knwA wide v2 ⟨fl, kind, all, val⟩)) = res by rw [← HS2.out, HKB.out, if_pos rfl, hfv])
      have HFV := Lib.hid hfv
      clear hfv
      go_wp2_with fail
      refine HFM.out.mono ?_
      by_cases cf : fv = 0
      case neg =>
       rintro _ w10 ⟨rfl, b10⟩
       have HE := Lib.hid (show res = .error (fv, all) by rw [← HS3.out, if_pos cf]; rfl)
       have efv : faultV fv A1 n1 c1 = .agg #[.int .i64 3, .int .i64 fv, .slice A1 n1 c1] := if_neg cf
       rw [efv]
       clear cf efv
       have R12 := F9.below b10 F9.lt
       have R410 := R49.below b10 R49.lt
       have R610 := R69.below b10 R69.lt
       have b010 := btr b09 b10 P9.lo
       have hbf := (hall9.keep (GQ.kcall h2 b10)).keep (S' := Ex w10 (q12 :: (gg :: q4 :: q6 :: ex))) (Kp.sub fun b hb => ⟨hb.1, hb.2.1⟩)
       clear P9 hall9 hval9 hbeh9 R49 R69 X9 b09 F9 s12 s4 s6 b10 k0 k1 k2 k3
       have mc0 := R12.cell 0
       have mf0 := R12.frozen 0
       have mc1 := R12.cell 1
       have mf1 := R12.frozen 1
       have mc2 := R12.cell 2
       have mf2 := R12.frozen 2
       go_upto_region 13 with fail
       have F11 := flt_store (x := .int .i64 3) (y := .int .i64 fv) (z := .slice A1 n1 c1) R12
       have gF := flt_grown (q := q12) (x := .int .i64 3) (y := .int .i64 fv) (z := .slice A1 n1 c1) w10
       have R411 := R410.grown gF (by intro e; injection e with e; omega)
       have R611 := R610.grown gF (by intro e; injection e with e; omega)
       have b011 := b010.grown gF (by have := R410.lt; omega) (fun k hk => by injection hk with hk; omega)
       have hbf11 := hbf.keep (S' := fun b => b < w10.heap.size ∧ b ∉ q12 :: (gg :: q4 :: q6 :: ex)) (fun b hb => ⟨hb, gF.block b hb.1 (fun e => by injection e with e; exact hb.2 (by rw [e]; simp))⟩)
       have hzF := gF.size
       obtain ⟨w11, hw11⟩ : ∃ x, (((World.setCell w10 ⟨q12, 0, none⟩ (.int .i64 3)).setCell ⟨q12, 1, none⟩ (.int .i64 fv)).setCell ⟨q12, 2, none⟩ (.slice A1 n1 c1)) = x := ⟨_, rfl⟩
       rw [hw11] at F11 R411 R611 b011 hbf11 hzF
       try rw [hw11]
       clear hw11 gF mc0 mf0 mc1 mf1 mc2 mf2
       have l0 := F11.cell 0
       go_upto_region 16 with fail
       clear l0
       have Fd := F11.below ((Below.refl w11.heap.size w11).drew) F11.lt
       have R4d := R411.below ((Below.refl w11.heap.size w11).drew) R411.lt
       have R6d := R611.below ((Below.refl w11.heap.size w11).drew) R611.lt
       have bdd : Below q4 w w11.drew := btr b011 ((Below.refl w11.heap.size w11).drew) (by have := R411.lt; omega)
       have hbfd := hbf11.keep (S' := (fun b => b < w10.heap.size ∧ b ∉ q12 :: (gg :: q4 :: q6 :: ex))) (fun b hb => ⟨hb, rfl⟩ : Kp w11 w11.drew _ _)
       obtain ⟨wd, hwd⟩ : ∃ x, w11.drew = x := ⟨_, rfl⟩
       have hzd : wd.heap.size = w11.heap.size := by rw [← hwd]; rfl
       rw [hwd] at Fd R4d R6d bdd hbfd
       have HWD := Lib.hid hwd
       clear hwd
       have ne4 : q12 ≠ q4 := by omega
       have ne6 : q12 ≠ q6 := by omega
       have HK1 := Lib.hid (Fd.grown (att_grown (q := q4) (x0 := .int .i64 0) (x1 := .slice none 0 0) (x2 := .int .u32 0) (x3 := .int .i64 0) (x4 := .int .i64 0) (x5 := .bool false) (x6 := .bool false) (x7 := .int .u32 0) (x8 := .int .u32 0) (x9 := .slice none 0 0) (x10 := .slice none 0 0) wd) (by intro e; injection e with e; exact ne4 e))
       have R6e := R6d.grown (att_grown (q := q4) (x0 := .int .i64 0) (x1 := .slice none 0 0) (x2 := .int .u32 0) (x3 := .int .i64 0) (x4 := .int .i64 0) (x5 := .bool false) (x6 := .bool false) (x7 := .int .u32 0) (x8 := .int .u32 0) (x9 := .slice none 0 0) (x10 := .slice none 0 0) wd) (by intro e; injection e with e; omega)
       have HK2 := Lib.hid (HK1.out.grown (flt_grown (q := q6) (x := .int .i64 3) (y := .int .i64 fv) (z := .slice A1 n1 c1) _) (by intro e; injection e with e; exact ne6 e))
       have HRT := Lib.hid (RetRX.err (ex := ex) (w := w) (q4 := q4) (q6 := q6) (by rw [HQ4.out]; exact bdd) (by rw [HQ4.out]; exact Nat.le_refl _) (by rw [HQ4.out]; omega) hbfd (fun b hb => by rw [hzd]; exact ⟨Nat.lt_of_lt_of_le hb.1 hzF, fun e => hb.2 (by rw [e]; simp), fun e => hb.2 (by rw [e]; simp), fun hm => hb.2 (by simp [hm])⟩) hnc1 HE.out)
       have ic0 := R4d.cell 0
       have if0 := R4d.frozen 0
       have ic1 := R4d.cell 1
       have if1 := R4d.frozen 1
       have ic2 := R4d.cell 2
       have if2 := R4d.frozen 2
       have ic3 := R4d.cell 3
       have if3 := R4d.frozen 3
       have ic4 := R4d.cell 4
       have if4 := R4d.frozen 4
       have ic5 := R4d.cell 5
       have if5 := R4d.frozen 5
       have ic6 := R4d.cell 6
       have if6 := R4d.frozen 6
       have ic7 := R4d.cell 7
       have if7 := R4d.frozen 7
       have ic8 := R4d.cell 8
       have if8 := R4d.frozen 8
       have ic9 := R4d.cell 9
       have if9 := R4d.frozen 9
       have ic10 := R4d.cell 10
       have if10 := R4d.frozen 10
       have jc0 := R6e.cell 0
       have jf0 := R6e.frozen 0
       have jc1 := R6e.cell 1
       have jf1 := R6e.frozen 1
       have jc2 := R6e.cell 2
       have jf2 := R6e.frozen 2
       refine wp_region_held_drew (S := (fun w' => Blk w' q12 88 #[.int .i64 3, .int .i64 fv, .slice A1 n1 c1])) (by kernel_rfl) ?_ (fun hHeld => ?_)
       ·rw [HWD.out]; exact Fd
       rw [HWD.out]
       rw [HWD.out] at hHeld
       refine tkh 0 (h := ?_)
       try simp only [Act.put, q1, q2, q3, q4, q5, q6]
       refine wpAnyH_take (i := 1) (v := ?m23_v1) rfl (by kernel_rfl) (by kernel_rfl) (by kernel_rfl) (by intro _ _ _ h; exact h) (Or.inl ⟨by rfl, ?m23_hy1⟩) (by assumption) ?m23_rest1
       case m23_hy1 => (intro w hSw; (try dsimp only at hSw); have z0 := Blk.cell hSw 0; have z1 := Blk.cell hSw 1; have z2 := Blk.cell hSw 2; clear hSw; go_simp; try with_reducible rfl)
       try simp only [Act.put, q1, q2, q3, q4, q5, q6]
       refine tkr 2 fun K hK => ?_
       go_simp
       go_wp2_with (fail)
       refine hK.out _ _ ?_ (fun hHeld => ?_)
       ·try dsimp only
        exact HK1.out
       clear hK K
       refine tkr 3 fun K hK => ?_
       go_simp
       go_wp2_with (fail)
       refine hK.out _ _ ?_ (fun hHeld => ?_)
       ·try dsimp only
        exact HK1.out
       clear hK K
       refine tkr 4 fun K hK => ?_
       go_simp
       go_wp2_with (fail)
       refine hK.out _ _ ?_ (fun hHeld => ?_)
       ·try dsimp only
        exact HK2.out
       clear hK K
       refine wpAnyH_done (by kernel_rfl) ?_ _
       go_wp2_with fail
       exact bodyPost_ret (read_ret rfl _ _ q4 q6 _ _ _ _ _ _ _ _ _ _ _ (.slice none 0 0) (.int .i64 3) (.int .i64 fv) (.slice A1 n1 c1) rfl rfl rfl ((att_store R4d).grown (flt_grown _) (by intro e; injection e with e; omega)) (flt_store R6e)) rfl HRT.out
      subst cf
      rintro _ wf ⟨rfl, bf⟩
      have HS4 := Lib.hid (show finA wide (contR wide f t' (knwA wide v2 ⟨fl, kind, all, val⟩)) = res by rw [← HS3.out, if_neg (by decide)])
      have efv : faultV 0 A1 n1 c1 = .agg #[.int .i64 0, .int .i64 0, .slice none 0 0] := if_pos rfl
      rw [efv]
      clear efv k0 k1 k2 k3
      have Ff := F9.below bf F9.lt
      have R4f := R49.below bf R49.lt
      have R6f := R69.below bf R69.lt
      have b0f := btr b09 bf P9.lo
      have Pf := P9.call bf
      have hallf := hall9.keep (GQ.kcall h2 bf)
      have hvalf := hval9.keep (GQ.kcall h2 bf)
      have hbehf := hbeh9.keep (GQ.kcall h2 bf)
      have Xf := X9.below bf X9.lt
      clear P9 hall9 hval9 hbeh9 R49 R69 X9 b09 F9 s12 s4 s6 bf
      have mc0 := Ff.cell 0
      have mf0 := Ff.frozen 0
      have mc1 := Ff.cell 1
      have mf1 := Ff.frozen 1
      have mc2 := Ff.cell 2
      have mf2 := Ff.frozen 2
      go_upto_region 13 with fail
      have F9 := flt_store (x := .int .i64 0) (y := .int .i64 0) (z := .slice none 0 0) Ff
      have gF := flt_grown (q := q12) (x := .int .i64 0) (y := .int .i64 0) (z := .slice none 0 0) wf
      have R49 := R4f.grown gF (by intro e; injection e with e; omega)
      have R69 := R6f.grown gF (by intro e; injection e with e; omega)
      have X9 := Xf.grown gF (by intro e; injection e with e; omega)
      have b09 := b0f.grown gF Pf.lo (fun k hk => by injection hk with hk; omega)
      have P9 := Pf.at_ Ff hm12 (by omega) (by decide) (by decide) (by decide) gF
      have hall9 := hallf.keep (GQ.kat h2 hm12 gF)
      have hval9 := hvalf.keep (GQ.kat h2 hm12 gF)
      have hbeh9 := hbehf.keep (GQ.kat h2 hm12 gF)
      obtain ⟨wk, hwk⟩ : ∃ x, (((World.setCell wf ⟨q12, 0, none⟩ (.int .i64 0)).setCell ⟨q12, 1, none⟩ (.int .i64 0)).setCell ⟨q12, 2, none⟩ (.slice none 0 0)) = x := ⟨_, rfl⟩
      rw [hwk] at F9 R49 R69 X9 b09 P9 hall9 hval9 hbeh9
      try rw [hwk]
      clear hwk gF mc0 mf0 mc1 mf1 mc2 mf2 Ff R4f R6f b0f Pf hallf hvalf hbehf Xf
      have s12 := P9.q.side hm12 (by omega)
      have s4 := P9.q.side hm4' (by omega)
      have s6 := P9.q.side hm6' (by omega)
      have l0 := F9.cell 0
      have k0 := X9.cell 0
      have k1 := X9.cell 1
      have k2 := X9.cell 2
      have k3 := X9.cell 3
      have h8f : kind = 8 → n2 % 4 = 0 ∧ h2.cb = none ∧ v2.a.comms = [] := fun e8 => by
       have hnk : hasN v.kinds 8 = false := by rw [← e8]; exact HHB.out
       refine ⟨?_, by rw [HCB8.out]; exact HI.out.2.2.2.2 hnk, by rw [← HV2.out]; exact HI.out.1.c8 hnk⟩
       have hf := HFV.out
       unfold formA at hf
       simp only at hf
       split at hf
       ·cases hf
       ·split at hf
        ·cases hf
        ·rename_i hbad
         unfold badLen at hbad
         rw [if_neg (by omega), if_pos e8, ← hval9.1] at hbad
         simpa using hbad
      have HU := Lib.hid (attKnw q4 gg (q12 :: (gg :: q4 :: q6 :: ex)) h2 v2 wide fl kind A1 n1 c1 all A2 n2 c2 val wk P9 hall9 hnc1 hval9 hnc2 hn2 h8f)
      obtain ⟨r, hrr⟩ : ∃ x, knwA wide v2 ⟨fl, kind, all, val⟩ = x := ⟨_, rfl⟩
      rw [hrr] at HU
      have HRB := Lib.hid (show ∀ v', r = .ok v' → BdX v' ∧ v'.kinds = v2.kinds from fun v' e => ⟨knwA_bd D2 (fun e8 => ⟨by rw [← HV2.out]; simp only at e8 ⊢; rw [hasN_app, e8]; simp, (h8f e8).2.2⟩) (hrr.trans e), knwA_kinds (hrr.trans e)⟩)
      have HS5 := Lib.hid (show finA wide (contR wide f t' r) = res by rw [← HS4.out, hrr])
      clear hrr h8f
      go_wp2_with fail
      refine HU.out.mono ?_
      rintro e10 w10 ⟨b10, s10, hm⟩
      clear k0 k1 k2 k3 l0
      have R12 : Blk w10 q12 88 #[.int .i64 0, .int .i64 0, .slice none 0 0] := (s10 q12 s12).trans F9
      have R410 : Blk w10 q4 75 #[.int .i64 0, .slice none 0 0, .int .u32 0, .int .i64 0, .int .i64 0, .bool false, .bool false, .int .u32 0, .int .u32 0, .slice none 0 0, .slice none 0 0] := (s10 q4 s4).trans R49
      have R610 : Blk w10 q6 88 #[.int .i64 0, .int .i64 0, .slice none 0 0] := (s10 q6 s6).trans R69
      have b010 := b09.trans b10
      cases r with
      | error fe =>
       obtain ⟨k, l⟩ := fe
       obtain ⟨A9, n9, c9, rfl, hbf, hn9⟩ := hm
       have HE := Lib.hid (show res = .error (k, l) from HS5.out.symm)
       clear P9 hall9 hval9 hbeh9 R49 R69 X9 b09 F9 s12 s4 s6 s10 b10
       have mc0 := R12.cell 0
       have mf0 := R12.frozen 0
       have mc1 := R12.cell 1
       have mf1 := R12.frozen 1
       have mc2 := R12.cell 2
       have mf2 := R12.frozen 2
       go_upto_region 15 with fail
       have F11 := flt_store (x := .int .i64 3) (y := .int .i64 k) (z := .slice A9 n9 c9) R12
       have gF := flt_grown (q := q12) (x := .int .i64 3) (y := .int .i64 k) (z := .slice A9 n9 c9) w10
       have R411 := R410.grown gF (by intro e; injection e with e; omega)
       have R611 := R610.grown gF (by intro e; injection e with e; omega)
       have b011 := b010.grown gF (by have := R410.lt; omega) (fun k hk => by injection hk with hk; omega)
       have hbf11 := hbf.keep (S' := fun b => b < w10.heap.size ∧ b ∉ q12 :: (gg :: q4 :: q6 :: ex)) (fun b hb => ⟨hb, gF.block b hb.1 (fun e => by injection e with e; exact hb.2 (by rw [e]; simp))⟩)
       have hzF := gF.size
       obtain ⟨w11, hw11⟩ : ∃ x, (((World.setCell w10 ⟨q12, 0, none⟩ (.int .i64 3)).setCell ⟨q12, 1, none⟩ (.int .i64 k)).setCell ⟨q12, 2, none⟩ (.slice A9 n9 c9)) = x := ⟨_, rfl⟩
       rw [hw11] at F11 R411 R611 b011 hbf11 hzF
       try rw [hw11]
       clear hw11 gF mc0 mf0 mc1 mf1 mc2 mf2
       have l0 := F11.cell 0
       go_upto_region 16 with fail
       clear l0
       have Fd := F11.below ((Below.refl w11.heap.size w11).drew) F11.lt
       have R4d := R411.below ((Below.refl w11.heap.size w11).drew) R411.lt
       have R6d := R611.below ((Below.refl w11.heap.size w11).drew) R611.lt
       have bdd : Below q4 w w11.drew := btr b011 ((Below.refl w11.heap.size w11).drew) (by have := R411.lt; omega)
       have hbfd := hbf11.keep (S' := (fun b => b < w10.heap.size ∧ b ∉ q12 :: (gg :: q4 :: q6 :: ex))) (fun b hb => ⟨hb, rfl⟩ : Kp w11 w11.drew _ _)
       obtain ⟨wd, hwd⟩ : ∃ x, w11.drew = x := ⟨_, rfl⟩
       have hzd : wd.heap.size = w11.heap.size := by rw [← hwd]; rfl
       rw [hwd] at Fd R4d R6d bdd hbfd
       have HWD := Lib.hid hwd
       clear hwd
       have ne4 : q12 ≠ q4 := by omega
       have ne6 : q12 ≠ q6 := by omega
       have HK1 := Lib.hid (Fd.grown (att_grown (q := q4) (x0 := .int .i64 0) (x1 := .slice none 0 0) (x2 := .int .u32 0) (x3 := .int .i64 0) (x4 := .int .i64 0) (x5 := .bool false) (x6 := .bool false) (x7 := .int .u32 0) (x8 := .int .u32 0) (x9 := .slice none 0 0) (x10 := .slice none 0 0) wd) (by intro e; injection e with e; exact ne4 e))
       have R6e := R6d.grown (att_grown (q := q4) (x0 := .int .i64 0) (x1 := .slice none 0 0) (x2 := .int .u32 0) (x3 := .int .i64 0) (x4 := .int .i64 0) (x5 := .bool false) (x6 := .bool false) (x7 := .int .u32 0) (x8 := .int .u32 0) (x9 := .slice none 0 0) (x10 := .slice none 0 0) wd) (by intro e; injection e with e; omega)
       have HK2 := Lib.hid (HK1.out.grown (flt_grown (q := q6) (x := .int .i64 3) (y := .int .i64 k) (z := .slice A9 n9 c9) _) (by intro e; injection e with e; exact ne6 e))
       have HRT := Lib.hid (RetRX.err (ex := ex) (w := w) (q4 := q4) (q6 := q6) (by rw [HQ4.out]; exact bdd) (by rw [HQ4.out]; exact Nat.le_refl _) (by rw [HQ4.out]; omega) hbfd (fun b hb => by rw [hzd]; exact ⟨Nat.lt_of_lt_of_le hb.1 hzF, fun e => hb.2 (by rw [e]; simp), fun e => hb.2 (by rw [e]; simp), fun hm => hb.2 (by simp [hm])⟩) hn9 HE.out)
       have ic0 := R4d.cell 0
       have if0 := R4d.frozen 0
       have ic1 := R4d.cell 1
       have if1 := R4d.frozen 1
       have ic2 := R4d.cell 2
       have if2 := R4d.frozen 2
       have ic3 := R4d.cell 3
       have if3 := R4d.frozen 3
       have ic4 := R4d.cell 4
       have if4 := R4d.frozen 4
       have ic5 := R4d.cell 5
       have if5 := R4d.frozen 5
       have ic6 := R4d.cell 6
       have if6 := R4d.frozen 6
       have ic7 := R4d.cell 7
       have if7 := R4d.frozen 7
       have ic8 := R4d.cell 8
       have if8 := R4d.frozen 8
       have ic9 := R4d.cell 9
       have if9 := R4d.frozen 9
       have ic10 := R4d.cell 10
       have if10 := R4d.frozen 10
       have jc0 := R6e.cell 0
       have jf0 := R6e.frozen 0
       have jc1 := R6e.cell 1
       have jf1 := R6e.frozen 1
       have jc2 := R6e.cell 2
       have jf2 := R6e.frozen 2
       refine wp_region_held_drew (S := (fun w' => Blk w' q12 88 #[.int .i64 3, .int .i64 k, .slice A9 n9 c9])) (by kernel_rfl) ?_ (fun hHeld => ?_)
       ·rw [HWD.out]; exact Fd
       rw [HWD.out]
       rw [HWD.out] at hHeld
       refine tkh 0 (h := ?_)
       try simp only [Act.put, q1, q2, q3, q4, q5, q6]
       refine wpAnyH_take (i := 1) (v := ?m25_v1) rfl (by kernel_rfl) (by kernel_rfl) (by kernel_rfl) (by intro _ _ _ h; exact h) (Or.inl ⟨by rfl, ?m25_hy1⟩) (by assumption) ?m25_rest1
       case m25_hy1 => (intro w hSw; (try dsimp only at hSw); have z0 := Blk.cell hSw 0; have z1 := Blk.cell hSw 1; have z2 := Blk.cell hSw 2; clear hSw; go_simp; try with_reducible rfl)
       try simp only [Act.put, q1, q2, q3, q4, q5, q6]
       refine tkr 2 fun K hK => ?_
       go_simp
       go_wp2_with (fail)
       refine hK.out _ _ ?_ (fun hHeld => ?_)
       ·try dsimp only
        exact HK1.out
       clear hK K
       refine tkr 3 fun K hK => ?_
       go_simp
       go_wp2_with (fail)
       refine hK.out _ _ ?_ (fun hHeld => ?_)
       ·try dsimp only
        exact HK1.out
       clear hK K
       refine tkr 4 fun K hK => ?_
       go_simp
       go_wp2_with (fail)
       refine hK.out _ _ ?_ (fun hHeld => ?_)
       ·try dsimp only
        exact HK2.out
       clear hK K
       refine wpAnyH_done (by kernel_rfl) ?_ _
       go_wp2_with fail
       exact bodyPost_ret (read_ret rfl _ _ q4 q6 _ _ _ _ _ _ _ _ _ _ _ (.slice none 0 0) (.int .i64 3) (.int .i64 k) (.slice A9 n9 c9) rfl rfl rfl ((att_store R4d).grown (flt_grown _) (by intro e; injection e with e; omega)) (flt_store R6e)) rfl HRT.out
      | ok v3 =>
       obtain ⟨rfl, h3, P10, K10, hcb⟩ := hm
       obtain ⟨D3, hk3⟩ := HRB.out v3 rfl
       have hbeh10 := hbeh9.keep (K10.wide (gs := q12 :: (gg :: q4 :: q6 :: ex)) (by simp))
       have HREL := Lib.hid (show BdX v3 ∧ t'.length ≤ f ∧ v3.kinds.length + t'.length ≤ b.length ∧ finA wide (loopA wide f v3 t') = res ∧ (hasN v3.kinds 8 = false → h3.cb = none) from ⟨D3, HF.out, by rw [hk3]; exact HLEN.out, HS5.out, fun h8 => by
        rcases hcb with e | e
        ·rw [e, HCB8.out]
         refine HI.out.2.2.2.2 ?_
         rw [hk3, ← HV2.out] at h8
         simp only at h8
         rw [hasN_app] at h8
         exact (Bool.or_eq_false_iff.1 h8).1
        ·exact absurd (D3.c8 h8) e⟩)
       clear P9 hall9 hval9 hbeh9 R49 R69 X9 b09 F9 s12 s4 s6 s10 b10 K10 hcb D3 hk3
       have mc0 := R12.cell 0
       have mf0 := R12.frozen 0
       have mc1 := R12.cell 1
       have mf1 := R12.frozen 1
       have mc2 := R12.cell 2
       have mf2 := R12.frozen 2
       go_upto_region 15 with fail
       have F11 := flt_store (x := .int .i64 0) (y := .int .i64 0) (z := .slice none 0 0) R12
       have gF := flt_grown (q := q12) (x := .int .i64 0) (y := .int .i64 0) (z := .slice none 0 0) w10
       have R411 := R410.grown gF (by intro e; injection e with e; omega)
       have R611 := R610.grown gF (by intro e; injection e with e; omega)
       have b011 := b010.grown gF (by have := R410.lt; omega) (fun k hk => by injection hk with hk; omega)
       have P11 := (P10.at_ R12 (List.mem_cons_self ..) (by omega) (by decide) (by decide) (by decide) gF).drop hmg
       have hbe11 := (hbeh10.keep (GQ.kat _ (List.mem_cons_self ..) gF)).keep (GQ.kdrop _ _)
       obtain ⟨w11, hw11⟩ : ∃ x, (((World.setCell w10 ⟨q12, 0, none⟩ (.int .i64 0)).setCell ⟨q12, 1, none⟩ (.int .i64 0)).setCell ⟨q12, 2, none⟩ (.slice none 0 0)) = x := ⟨_, rfl⟩
       rw [hw11] at F11 R411 R611 b011 P11 hbe11
       try rw [hw11]
       clear hw11 gF mc0 mf0 mc1 mf1 mc2 mf2
       have l0 := F11.cell 0
       go_wp2_with fail
       go_roundg f
       case measure => omega
       case rel => exact ⟨_, _, A3, n3, c3, t', rfl, P11, hbe11, hnc3, R411, R611, b011, HREL⟩
/-- A whole row stored, as one step of a region that draws. -/
theorem step_row {P : Program} {ops : Array Oper} {o : Oper} {a : Act} {w : World} {K : Act → World → Prop} {Q : Exit → Act → World → Prop} {E : Prop} (hgd : o.guard = none) (ty : TypeId) (x y : Operand) (ho : o.op = .store ty x y)
  (g : Nat) (cells : Array Value) (hx : a.eval x = .pointer (some ⟨g, 0, none⟩)) (hy : a.eval y = .agg cells)
  (t : TypeId) (old : Array Value) (hg : Blk w g t old) (hi : (P.info? ty).map (·.size) = some cells.size)
  (hold : old.size = cells.size) (h1 : cells.all (·.oneCell') = true)
  (h : K (a.put o.dst undef) (w.setRow g cells)) : if Region.wanted o (yielded ops a.tmps) = true then Oper.wp P o a w K Q else E := by
 have hw : Region.wanted o (yielded ops a.tmps) = true := by simp [Region.wanted, hgd]
 rw [if_pos hw]
 exact wp_store_row ty x y ho g cells hx hy t old hg hi hold h1 h
theorem Blk.row {w : World} {g : Nat} {t : TypeId} {cs : Array Value} (h : Blk w g t cs) (new : Array Value) : Blk (w.setRow g new) g t new := setRow_heap w g cs new t (0, 0) h
theorem row_far (w : World) (k : Nat) (new : Array Value) {b : Nat} (hb : b ≠ k) : (w.setRow k new).heap[b]? = w.heap[b]? := by
 unfold World.setRow
 simp [Array.getElem?_modify, Ne.symm hb]
theorem row_size (w : World) (k : Nat) (new : Array Value) : (w.setRow k new).heap.size = w.heap.size := by simp [World.setRow]
theorem Blk.rowFar {w : World} {g k : Nat} {t : TypeId} {cs : Array Value} (h : Blk w g t cs) (hk : g ≠ k) (new : Array Value) : Blk (w.setRow k new) g t cs := (row_far w k new hk).trans h
theorem row_grown (w : World) (k : Nat) (new : Array Value) : w.grownBy (w.setRow k new) (some k) := ⟨rfl, rfl, rfl, by rw [row_size]; exact Nat.le_refl _, fun b _ hne => row_far w k new (fun e => hne (by rw [e]))⟩
theorem Sm.setRow {B : Nat} {av : List Nat} {a w : World} (h : Sm B av a w) {k : Nat} (hk : B ≤ k ∨ k ∈ av) (new : Array Value) : Sm B av a (w.setRow k new) :=
 h.trans ⟨rfl, rfl, rfl, by simp [World.setRow], fun b hb hn => row_far w k new (by
  rintro rfl
  rcases hk with hk | hk
  ·omega
  ·exact hn hk)⟩
end Go.Proofs.YthgjknmfghjioaaGreatDoor
