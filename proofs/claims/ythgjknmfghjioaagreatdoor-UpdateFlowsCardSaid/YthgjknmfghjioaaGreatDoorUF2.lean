/- Joined texts (AttC AttF AttGH RefR RefRB ReaderG RefRD ReaderTwo AspT AspE AspO AspP AspQ AttK UpdA). Conditions: those of the theorems. -/
import Derived.Test.YthgjknmfghjioaaGreatDoorProg
import Derived.WalkKit
import Derived.WalkSpells
import Derived.WalkLawsBesides
import Derived.Outline
import Derived.Deep.QuietTactic
import Derived.BigQuiet
import Derived.Handy
import Derived.Lib.Hide
import Derived.Test.YthgjknmfghjioaaGreatDoorUF1
import Derived.Deep.DeepCutAuto
import Derived.Deep.CutBlock
import Derived.Laws.Cover4
import Derived.OrdersHeld
import Derived.Deep.RegionHeld
import Derived.Deep.RegionHeld3
import Derived.Test.YthgjknmfghjioaaGreatDoorOpen
import Derived.Test.YthgjknmfghjioaaGreatDoorTki
namespace Go.Proofs.YthgjknmfghjioaaGreatDoor
open Go.RowKit
set_option linter.unusedSimpArgs false
set_option linter.unusedVariables false
theorem att_info1 : (Tryz.prog.info? 75).map (·.size) = some 11 := by kernel_rfl
theorem att_ret {fn : Func} {p : Tmp} (h : fn.results = #[.cell p 75]) (tmps : Array Value) (w : World) (g : Nat) (x0 x1 x2 x3 x4 x5 x6 x7 x8 x9 x10 : Value)
  (hp : tmps.getD p undef = .pointer (some ⟨g, 0, none⟩)) (hB : Blk w g 75 #[x0, x1, x2, x3, x4, x5, x6, x7, x8, x9, x10]) :
  (results fn tmps).run Tryz.prog w = .ok (.agg #[x0, x1, x2, x3, x4, x5, x6, x7, x8, x9, x10]) w := by
 have hp' : tmps[p]?.getD undef = .pointer (some ⟨g, 0, none⟩) := by simpa using hp
 have := run_loadVar_row (P := Tryz.prog) w g 75 75 #[x0, x1, x2, x3, x4, x5, x6, x7, x8, x9, x10] (0, 0) _ hB Tryz.underlying75 rfl att_info1
 simp [results, h, hp', asAddr, this]
set_option maxHeartbeats 8000000 in
set_option maxRecDepth 100000 in
theorem attRight (o : Int) (A : Option Addr) (n c : Nat) (path : List Seg) (nx md pf : Int) (at_ ha : Bool) (gs ga : Int) (A1 : Option Addr) (n1 c1 : Nat) (comms : List Int) (A2 : Option Addr) (n2 c2 : Nat) (raws : List RawV) (w : World) (hp : DL rSeg 2 w (Lo w) A n path) (hc : n1 = comms.length) (hd : DL rRaw 3 w (Lo w) A2 n2 raws) (hn : n ≤ 100000) (hn2 : n2 ≤ 100000) (ht : LookTab w) :
  Calls Tryz.prog 190 #[.agg #[.int .i64 o, .slice A n c, .int .u32 nx, .int .i64 md, .int .i64 pf, .bool at_, .bool ha, .int .u32 gs, .int .u32 ga, .slice A1 n1 c1, .slice A2 n2 c2]] w fun en w' => en = .returned (.bool (rightAt (⟨o, path, nx, md, pf, at_, ha, gs, ga, comms, raws⟩ : At))) ∧ Below w.heap.size w w' := by
 have HN := Lib.hid hd.len
 have HC := Lib.hid hc
 clear hc
 obtain ⟨pr, hpr⟩ : ∃ pr, rightA path = pr := ⟨_, rfl⟩
 have HR := Lib.hid (show ∀ w', DL rSeg 2 w' (Lo w') A n path → Calls Tryz.prog 224 #[.slice A n c] w' fun en w'' => en = .returned (.bool pr) ∧ Below w'.heap.size w' w'' from fun w' h => by rw [← hpr]; exact aspRight A n c path w' h hn)
 have HPR := Lib.hid hpr
 obtain ⟨rr, hrr⟩ : ∃ rr, (rawsA raws && decide (raws.length ≤ 8)) = rr := ⟨_, rfl⟩
 have HRW := Lib.hid (show ∀ w', DL rRaw 3 w' (Lo w') A2 n2 raws → LookTab w' → Calls Tryz.prog 226 #[.slice A2 n2 c2] w' fun en w'' => en = .returned (.bool rr) ∧ Below w'.heap.size w' w'' from fun w' h h' => by rw [← hrr]; exact attRaws A2 n2 c2 raws w' h hn2 h')
 have HRR := Lib.hid hrr
 obtain ⟨nm, hnm⟩ : ∃ b, numA md = b := ⟨_, rfl⟩
 obtain ⟨np, hnp⟩ : ∃ b, numA pf = b := ⟨_, rfl⟩
 have HNM := Lib.hid (show ∀ w', Calls Tryz.prog 225 #[.int .i64 md] w' fun en w'' => en = .returned (.bool nm) ∧ w' = w'' from fun w' => by rw [← hnm]; exact attNumber md w')
 have HNP := Lib.hid (show ∀ w', Calls Tryz.prog 225 #[.int .i64 pf] w' fun en w'' => en = .returned (.bool np) ∧ w' = w'' from fun w' => by rw [← hnp]; exact attNumber pf w')
 have HM := Lib.hid hnm
 have HP := Lib.hid hnp
 obtain ⟨W, hW, hX, bW⟩ := box1c w #[.int .i64 o, .slice A n c, .int .u32 nx, .int .i64 md, .int .i64 pf, .bool at_, .bool ha, .int .u32 gs, .int .u32 ga, .slice A1 n1 c1, .slice A2 n2 c2] 75
 have hdW := hd.keep rRaw_ok (Kp.call bW)
 have hpW := hp.keep rSeg_ok (Kp.call bW)
 have htW := ht.call bW
 go_enter Tryz.func190, Tryz.ntmps190
 go_upto_region 1 with fail
 try rw [hW]
 clear hW hpr hrr hnm hnp
 have hXl := hX.lt
 obtain ⟨q, hq⟩ : ∃ q, w.heap.size = q := ⟨_, rfl⟩
 have HQ := Lib.hid hq
 rw [hq] at hX hXl
 try rw [hq]
 clear hq
 have y0 : W.cell? ⟨q, 0, none⟩ = some (.int .i64 o) := hX.cell 0
 have y1 : W.cell? ⟨q, 1, none⟩ = some (.slice A n c) := hX.cell 1
 have HPW := Lib.hid hpW
 have HBW := Lib.hid bW
 clear hpW hp hd
 by_cases c0 : o < 0
 ·have t0 : decide (o < 0) = true := decide_eq_true c0
  have HG := Lib.hid (rightAt_no (a := (⟨o, path, nx, md, pf, at_, ha, gs, ga, comms, raws⟩ : At)) (.inl (fun h => by have := h.1; simp only at this; omega)))
  clear c0
  go_wp2_with fail
  go_ret
  exact ⟨ret_b HG.out.symm, HBW.out⟩
 have t0 : decide (o < 0) = false := decide_eq_false c0
 by_cases c1 : 2 < o
 ·have t1 : decide (2 < o) = true := decide_eq_true c1
  have HG := Lib.hid (rightAt_no (a := (⟨o, path, nx, md, pf, at_, ha, gs, ga, comms, raws⟩ : At)) (.inl (fun h => by have := h.2; simp only at this; omega)))
  clear c0 c1
  go_wp2_with fail
  go_ret
  exact ⟨ret_b HG.out.symm, HBW.out⟩
 have t1 : decide (2 < o) = false := decide_eq_false c1
 have HO := Lib.hid (show 0 ≤ o ∧ o ≤ 2 by omega)
 clear c0 c1
 go_wp2_with fail
 refine (HR.out _ HPW.out).mono ?_
 rintro _ w5 ⟨rfl, b5⟩
 have HB5 := Lib.hid (btr HBW.out b5 HBW.out.size)
 have hX5 := hX.below b5 hX.lt
 have htR := Lib.hid (htW.call b5)
 have hdR := Lib.hid (hdW.keep rRaw_ok (Kp.call b5))
 clear y0 y1 htW hdW
 have y10 : w5.cell? ⟨q, 10, none⟩ = some (.slice A2 n2 c2) := hX5.cell 10
 have y9 : w5.cell? ⟨q, 9, none⟩ = some (.slice A1 n1 c1) := hX5.cell 9
 have y3 : w5.cell? ⟨q, 3, none⟩ = some (.int .i64 md) := hX5.cell 3
 have y4 : w5.cell? ⟨q, 4, none⟩ = some (.int .i64 pf) := hX5.cell 4
 have y6 : w5.cell? ⟨q, 6, none⟩ = some (.bool ha) := hX5.cell 6
 have y7 : w5.cell? ⟨q, 7, none⟩ = some (.int .u32 gs) := hX5.cell 7
 have y8 : w5.cell? ⟨q, 8, none⟩ = some (.int .u32 ga) := hX5.cell 8
 cases pr
 ·skip
  have HG := Lib.hid (rightAt_no (a := (⟨o, path, nx, md, pf, at_, ha, gs, ga, comms, raws⟩ : At)) (.inr (.inl HPR.out)))
  go_wp2_with fail
  go_ret
  exact ⟨ret_b HG.out.symm, HB5.out⟩
 go_wp2_with fail
 refine (HNM.out _).mono ?_
 rintro _ _ ⟨rfl, rfl⟩
 cases nm
 ·skip
  have HG := Lib.hid (rightAt_no (a := (⟨o, path, nx, md, pf, at_, ha, gs, ga, comms, raws⟩ : At)) (.inr (.inr (.inl HM.out))))
  go_wp2_with fail
  go_ret
  exact ⟨ret_b HG.out.symm, HB5.out⟩
 go_wp2_with fail
 refine (HNP.out _).mono ?_
 rintro _ _ ⟨rfl, rfl⟩
 cases np
 ·skip
  have HG := Lib.hid (rightAt_no (a := (⟨o, path, nx, md, pf, at_, ha, gs, ga, comms, raws⟩ : At)) (.inr (.inr (.inr (.inl HP.out)))))
  go_wp2_with fail
  go_ret
  exact ⟨ret_b HG.out.symm, HB5.out⟩
 cases ha
 case true =>
  by_cases c3 : n1 ≤ 32
  case neg =>
   have t3 : decide ((n1 : Int) ≤ 32) = false := decide_eq_false (by omega)
   have t3' : decide (n1 ≤ 32) = false := decide_eq_false c3
   have HG := Lib.hid (rightAt_no (a := ⟨o, path, nx, md, pf, at_, true, gs, ga, comms, raws⟩) (.inr (.inr (.inr (.inr (.inr (.inl (by have := HC.out; simp only; omega))))))))
   clear c3 
   go_wp2_with fail
   go_ret
   exact ⟨ret_b HG.out.symm, HB5.out⟩
  have t3 : decide ((n1 : Int) ≤ 32) = true := decide_eq_true (by omega)
  have t3' : decide (n1 ≤ 32) = true := decide_eq_true c3
  have HL := Lib.hid (show comms.length ≤ 32 by have := HC.out; omega)
  have HAG0 := 0
  clear c3 
  go_wp2_with fail
  refine (HRW.out _ hdR.out htR.out).mono ?_
  rintro _ w6 ⟨rfl, b6⟩
  have HB6 := Lib.hid (btr HB5.out b6 HB5.out.size)
  cases rr
  ·have HG := Lib.hid (show rightAt ⟨o, path, nx, md, pf, at_, true, gs, ga, comms, raws⟩ = false from by
    have h := HRR.out
    cases hra : rawsA raws
    ·exact rightAt_no (.inr (.inr (.inr (.inr (.inr (.inr (.inl hra)))))))
    ·rw [hra, Bool.true_and] at h
     exact rightAt_no (.inr (.inr (.inr (.inr (.inr (.inr (.inr (by have := of_decide_eq_false h; simp only; omega))))))))) 
   go_wp2_with fail
   go_ret
   exact ⟨ret_b HG.out.symm, HB6.out⟩
  ·have HG := Lib.hid (show rightAt ⟨o, path, nx, md, pf, at_, true, gs, ga, comms, raws⟩ = true from by
    have h := HRR.out
    simp only [Bool.and_eq_true] at h
    exact rightAt_yes HO.out HPR.out HM.out HP.out (.inl rfl) HL.out h.1 (of_decide_eq_true h.2))
   go_wp2_with fail
   go_ret
   exact ⟨ret_b HG.out.symm, HB6.out⟩
 case false =>
  by_cases g0 : gs = 0
  case neg =>
   have tg : (gs != 0) = true := by simp; omega
   have HG := Lib.hid (rightAt_no (a := ⟨o, path, nx, md, pf, at_, false, gs, ga, comms, raws⟩) (.inr (.inr (.inr (.inr (.inl ⟨rfl, fun h => g0 h.1⟩))))))
   clear g0
   go_wp2_with fail
   go_ret
   exact ⟨ret_b HG.out.symm, HB5.out⟩
  have tg : (gs != 0) = false := by simp; omega
  by_cases g1 : ga = 0
  case neg =>
   have tg1 : (ga != 0) = true := by simp; omega
   have HG := Lib.hid (rightAt_no (a := ⟨o, path, nx, md, pf, at_, false, gs, ga, comms, raws⟩) (.inr (.inr (.inr (.inr (.inl ⟨rfl, fun h => g1 h.2⟩))))))
   clear g0 g1
   go_wp2_with fail
   go_ret
   exact ⟨ret_b HG.out.symm, HB5.out⟩
  have tg1 : (ga != 0) = false := by simp; omega
  by_cases c3 : n1 ≤ 32
  case neg =>
   have t3 : decide ((n1 : Int) ≤ 32) = false := decide_eq_false (by omega)
   have t3' : decide (n1 ≤ 32) = false := decide_eq_false c3
   have HG := Lib.hid (rightAt_no (a := ⟨o, path, nx, md, pf, at_, false, gs, ga, comms, raws⟩) (.inr (.inr (.inr (.inr (.inr (.inl (by have := HC.out; simp only; omega))))))))
   clear c3 g0 g1
   go_wp2_with fail
   go_ret
   exact ⟨ret_b HG.out.symm, HB5.out⟩
  have t3 : decide ((n1 : Int) ≤ 32) = true := decide_eq_true (by omega)
  have t3' : decide (n1 ≤ 32) = true := decide_eq_true c3
  have HL := Lib.hid (show comms.length ≤ 32 by have := HC.out; omega)
  have HAG := Lib.hid (And.intro g0 g1)
  clear c3 g0 g1
  go_wp2_with fail
  refine (HRW.out _ hdR.out htR.out).mono ?_
  rintro _ w6 ⟨rfl, b6⟩
  have HB6 := Lib.hid (btr HB5.out b6 HB5.out.size)
  cases rr
  ·have HG := Lib.hid (show rightAt ⟨o, path, nx, md, pf, at_, false, gs, ga, comms, raws⟩ = false from by
    have h := HRR.out
    cases hra : rawsA raws
    ·exact rightAt_no (.inr (.inr (.inr (.inr (.inr (.inr (.inl hra)))))))
    ·rw [hra, Bool.true_and] at h
     exact rightAt_no (.inr (.inr (.inr (.inr (.inr (.inr (.inr (by have := of_decide_eq_false h; simp only; omega))))))))) 
   go_wp2_with fail
   go_ret
   exact ⟨ret_b HG.out.symm, HB6.out⟩
  ·have HG := Lib.hid (show rightAt ⟨o, path, nx, md, pf, at_, false, gs, ga, comms, raws⟩ = true from by
    have h := HRR.out
    simp only [Bool.and_eq_true] at h
    exact rightAt_yes HO.out HPR.out HM.out HP.out (.inr HAG.out) HL.out h.1 (of_decide_eq_true h.2))
   go_wp2_with fail
   go_ret
   exact ⟨ret_b HG.out.symm, HB6.out⟩
/-- Attributes that are small enough. -/
def fewAt (path : List Seg) (comms : List Int) (raws : List RawV) : Bool := fewA path && decide (comms.length ≤ 60) && decide (raws.length ≤ 12) && raws.all fun x => decide (x.2.2.length ≤ 400)
theorem fewAt_of {path : List Seg} {comms : List Int} {raws : List RawV} (h : fewAt path comms raws = true) : fewA path = true ∧ comms.length ≤ 60 ∧ raws.length ≤ 12 ∧ ∀ x ∈ raws, x.2.2.length ≤ 400 := by
 unfold fewAt at h
 simp only [Bool.and_eq_true, decide_eq_true_eq] at h
 exact ⟨h.1.1.1, h.1.1.2, h.1.2, fun x hx => of_decide_eq_true (List.all_eq_true.1 h.2 x hx)⟩
set_option maxHeartbeats 8000000 in
set_option maxRecDepth 100000 in
theorem law04Few (o : Int) (A : Option Addr) (n c : Nat) (path : List Seg) (nx md pf : Int) (at_ ha : Bool) (gs ga : Int) (A1 : Option Addr) (n1 c1 : Nat) (comms : List Int) (A2 : Option Addr) (n2 c2 : Nat) (raws : List RawV) (w : World) (hp : DL rSeg 2 w (Lo w) A n path) (hc : n1 = comms.length) (hd : DL rRaw 3 w (Lo w) A2 n2 raws) :
  Calls Tryz.prog 79 #[.agg #[.int .i64 o, .slice A n c, .int .u32 nx, .int .i64 md, .int .i64 pf, .bool at_, .bool ha, .int .u32 gs, .int .u32 ga, .slice A1 n1 c1, .slice A2 n2 c2]] w fun en w' => en = .returned (.bool (fewAt path comms raws)) ∧ Below w.heap.size w w' := by
 have HN := Lib.hid hd.len
 have HC := Lib.hid hc
 clear hc
 obtain ⟨pr, hpr⟩ : ∃ pr, fewA path = pr := ⟨_, rfl⟩
 have HR := Lib.hid (show ∀ w', DL rSeg 2 w' (Lo w') A n path → Calls Tryz.prog 131 #[.slice A n c] w' fun en w'' => en = .returned (.bool pr) ∧ Below w'.heap.size w' w'' from fun w' h => by rw [← hpr]; exact law03Few A n c path w' h)
 have HPR := Lib.hid hpr
 obtain ⟨W, hW, hX, bW⟩ := box1c w #[.int .i64 o, .slice A n c, .int .u32 nx, .int .i64 md, .int .i64 pf, .bool at_, .bool ha, .int .u32 gs, .int .u32 ga, .slice A1 n1 c1, .slice A2 n2 c2] 75
 have hpW := hp.keep rSeg_ok (Kp.call bW)
 go_enter Tryz.func79, Tryz.ntmps79
 go_upto_region 1 with fail
 try rw [hW]
 clear hW hpr
 have hXl := hX.lt
 obtain ⟨q, hq⟩ : ∃ q, w.heap.size = q := ⟨_, rfl⟩
 have HQ := Lib.hid hq
 rw [hq] at hX hXl
 try rw [hq]
 clear hq
 have y1 : W.cell? ⟨q, 1, none⟩ = some (.slice A n c) := hX.cell 1
 have HPW := Lib.hid hpW
 clear hpW hp
 go_wp2_with fail
 refine (HR.out _ HPW.out).mono ?_
 rintro _ w5 ⟨rfl, b5⟩
 have b05 := btr bW b5 bW.size
 have HB5 := Lib.hid b05
 have hX5 := hX.below b5 hX.lt
 clear y1
 have y10 : w5.cell? ⟨q, 10, none⟩ = some (.slice A2 n2 c2) := hX5.cell 10
 have y9 : w5.cell? ⟨q, 9, none⟩ = some (.slice A1 n1 c1) := hX5.cell 9
 have hd5 := hd.keep rRaw_ok (Kp.call b05)
 cases pr
 ·have HG := Lib.hid (show fewAt path comms raws = false by unfold fewAt; rw [HPR.out]; rfl)
  go_wp2_with fail
  go_ret
  exact ⟨ret_b HG.out.symm, HB5.out⟩
 by_cases k1 : 60 < n1
 ·have t1 : decide ((60 : Int) < (n1 : Int)) = true := decide_eq_true (by omega)
  have t1' : decide (60 < n1) = true := decide_eq_true k1
  have HG := Lib.hid (show fewAt path comms raws = false by unfold fewAt; rw [HPR.out, decide_eq_false (show ¬ comms.length ≤ 60 by have := HC.out; omega)]; rfl)
  clear k1
  go_wp2_with fail
  go_ret
  exact ⟨ret_b HG.out.symm, HB5.out⟩
 have t1 : decide ((60 : Int) < (n1 : Int)) = false := decide_eq_false (by omega)
 have t1' : decide (60 < n1) = false := decide_eq_false k1
 by_cases k2 : 12 < n2
 ·have t2 : decide ((12 : Int) < (n2 : Int)) = true := decide_eq_true (by omega)
  have t2' : decide (12 < n2) = true := decide_eq_true k2
  have HG := Lib.hid (show fewAt path comms raws = false by unfold fewAt; rw [decide_eq_false (show ¬ raws.length ≤ 12 by have := HN.out; omega)]; simp)
  clear k1 k2
  go_wp2_with fail
  go_ret
  exact ⟨ret_b HG.out.symm, HB5.out⟩
 have t2 : decide ((12 : Int) < (n2 : Int)) = false := decide_eq_false (by omega)
 have t2' : decide (12 < n2) = false := decide_eq_false k2
 have HL := Lib.hid (show comms.length ≤ 60 ∧ raws.length ≤ 12 by have h1 := HC.out; have h2 := HN.out; omega)
 have hn12 : n2 ≤ 12 := by omega
 clear k1 k2
 go_wp2_with fail
 go_loopw [3] (fun i wr => ∃ j : Nat, j ≤ n2 ∧ i = .int .i64 j ∧ wr = w5 ∧ Hid (∀ i y, i < j → raws[i]? = some y → y.2.2.length ≤ 400)) (fun i _ => n2 - (intOf i).toNat)
 case atStart => exact ⟨0, by omega, rfl, rfl, Lib.hid (fun i y h => by omega)⟩
 case round =>
  obtain ⟨j, hj, rfl, rfl, HA⟩ := hrel
  by_cases hlt : j < n2
  case neg =>
   have e2 : decide ((j : Int) < n2) = false := decide_eq_false (by omega)
   have HG := Lib.hid (show fewAt path comms raws = true by
    unfold fewAt
    rw [HPR.out, decide_eq_true HL.out.1, decide_eq_true HL.out.2]
    simp only [Bool.true_and]
    refine List.all_eq_true.2 fun x hx => ?_
    obtain ⟨i, hi⟩ := List.getElem?_of_mem hx
    exact decide_eq_true (HA.out i x (by have := (List.getElem?_eq_some_iff.1 hi).1; have := HN.out; omega) hi))
   go_wp2_with fail
   go_ret
   exact ⟨ret_b HG.out.symm, HB5.out⟩
  have e2 : decide ((j : Int) < n2) = true := decide_eq_true (by omega)
  have hlti : (j : Int) < n2 := by omega
  obtain ⟨x, hx⟩ := getL HN.out hlt
  have HX := Lib.hid hx
  obtain ⟨b, off, A', n', c', rfl, hbl, k0, k1, k2, hbf, hnc', wf0, wf1⟩ := hd5.rawAt hx
  have HNX := Lib.hid hbf.1
  have wj : IntKind.i64.wrap ((j : Int) + 1) = (j : Int) + 1 := IntWalk.i64_in _ ⟨by omega, by omega⟩
  have hj0 : (0 : Int) ≤ (j : Int) := by omega
  clear hx hbf k0 k1 wf0 wf1
  by_cases k4 : 400 < n'
  ·have t4 : decide ((400 : Int) < (n' : Int)) = true := decide_eq_true (by omega)
   have t4' : decide (400 < n') = true := decide_eq_true k4
   have HG := Lib.hid (show fewAt path comms raws = false by
    unfold fewAt
    have : (raws.all fun x => decide (x.2.2.length ≤ 400)) = false := List.all_eq_false.2 ⟨x, List.mem_of_getElem? HX.out, by have := HNX.out; rw [decide_eq_false (by omega)]; simp⟩
    rw [this, Bool.and_false])
   clear k4
   go_wp2_with fail
   go_ret
   exact ⟨ret_b HG.out.symm, HB5.out⟩
  ·have t4 : decide ((400 : Int) < (n' : Int)) = false := decide_eq_false (by omega)
   have t4' : decide (400 < n') = false := decide_eq_false k4
   have HS := Lib.hid (show ∀ i y, i < j + 1 → raws[i]? = some y → y.2.2.length ≤ 400 from fun i y hi hy => by
    rcases Nat.lt_or_ge i j with h1 | h1
    ·exact HA.out i y h1 hy
    ·have : i = j := by omega
     subst this
     rw [HX.out] at hy
     injection hy with hy
     subst hy
     have := HNX.out
     omega)
   clear k4
   go_wp2_with fail
   go_roundw
   case rel => exact ⟨j + 1, by omega, by go_num, (by first | rfl | trivial), HS⟩
   case measure => simp [intOf]; omega
set_option maxHeartbeats 1000000 in
theorem attZero (w : World) : Calls Tryz.prog 144 #[] w fun en w' => en = .returned (.agg #[.int .i64 0, .slice none 0 0, .int .u32 0, .int .i64 (-1), .int .i64 (-1), .bool false, .bool false, .int .u32 0, .int .u32 0, .slice none 0 0, .slice none 0 0]) ∧ Below w.heap.size w w' := by
 obtain ⟨W, hW, hX, bW⟩ := box1c w #[.int .i64 0, .slice none 0 0, .int .u32 0, .int .i64 (-1), .int .i64 (-1), .bool false, .bool false, .int .u32 0, .int .u32 0, .slice none 0 0, .slice none 0 0] 75
 have HW := Lib.hid hW
 clear hW
 go_enter Tryz.func144, Tryz.ntmps144
 go_wp2_with fail
 rw [HW.out]
 refine bodyPost_ret (att_ret rfl _ _ w.heap.size _ _ _ _ _ _ _ _ _ _ _ rfl hX) rfl ?_
 exact ⟨rfl, bW⟩
/-- Bytes of a literal, of the call's own. -/
theorem OB.vals (w : World) (T : Nat) (xs : List Int) (h : ∀ x ∈ xs, 0 ≤ x ∧ x ≤ 255) (hn : xs.length ≤ 1000) {base g : Nat} (hg : g = w.heap.size) (hb : base ≤ w.heap.size) : OB (w.alloc (.cells (xs.map (Value.int .u8)).toArray T)) T base (some ⟨g, 0, none⟩) xs.length xs.length (xs.map ub) := by
 subst hg
 have e : bv (xs.map ub) = xs.map (Value.int .u8) := by
  rw [bv, List.map_map]
  refine List.map_congr_left fun x hx => ?_
  simp only [Function.comp]
  rw [ub_toNat (h x hx).1 (h x hx).2]
 refine ⟨by simp, ?_⟩
 rw [e]
 refine ⟨by simp, .inr ⟨w.heap.size, xs.length, (xs.map (Value.int .u8)).toArray, rfl, hb, Blk.new w T _, Nat.le_refl _, by unfold maxLen; omega, by simp, ?_⟩⟩
 rw [List.take_of_length_le (by simp)]
/-- An attribute's bytes. -/
def attrB (fl kind : Int) (v : List UInt8) : List UInt8 := (if 255 < v.length then [ub (fl + 16), ub kind] ++ b16 (v.length : Int) else [ub fl, ub kind, ub (v.length : Int)]) ++ v
theorem attrB_len (fl kind : Int) (v : List UInt8) : (attrB fl kind v).length ≤ v.length + 4 := by
 unfold attrB b16
 split <;> simp <;> omega
set_option maxHeartbeats 4000000 in
set_option maxRecDepth 100000 in
theorem attWhole (fl kind : Int) (A : Option Addr) (n c : Nat) (v : List UInt8) (w : World) (h : BS w w.heap.size A n v) (hfl : fl = 64 ∨ fl = 128 ∨ fl = 192 ∨ fl = 224) (hk0 : 0 ≤ kind) (hk1 : kind ≤ 255) (hn : v.length ≤ 60000) :
  Calls Tryz.prog 192 #[.int .i64 fl, .int .i64 kind, .slice A n c] w (RetB w 5 (attrB fl kind v)) := by
 have HN := Lib.hid h.1
 have wk : IntKind.u8.wrap kind = kind := by rw [IntKind.wrap_u8]; omega
 have hn' : n ≤ 60000 := by have := HN.out; omega
 by_cases hb : 255 < n
 ·have e1 : decide ((255 : Int) < (n : Int)) = true := decide_eq_true (by omega)
  have e1' : decide (255 < n) = true := decide_eq_true hb
  have HE := Lib.hid (show attrB fl kind v = [ub (fl + 16), ub kind] ++ b16 (n : Int) ++ v by unfold attrB; rw [if_pos (by have := HN.out; omega), ← HN.out])
  clear hb
  rcases hfl with rfl | rfl | rfl | rfl
  ·have bv := BS.vals w 5 [80, kind] (by intro x hx; simp at hx; omega) rfl
   have ba := (Below.refl w.heap.size w).alloc (Nat.le_refl _) (.cells #[.int .u8 80, .int .u8 kind] 5)
   have HC := Lib.hid (octetPut16 (some ⟨w.heap.size, 0, none⟩) 2 2 [ub 80, ub kind] (n : Int) (w.alloc (.cells #[.int .u8 80, .int .u8 kind] 5)) (bv.more (by simp)) (by simp))
   clear bv
   go_enter Tryz.func192, Tryz.ntmps192
   go_wp2_with fail
   refine HC.out.mono ?_
   rintro _ w2 ⟨A2, n2, c2, rfl, o2, b2⟩
   have b02 := btr ba b2 ba.size
   have h2 := h.below b02
   have o2 := o2.low ba.size
   have HB := Lib.hid b02.size
   go_wp2_with (at_builtin; refine wpl_app rfl (.tmp 28) (.tmp 29) _ rfl 5 Tryz.underlying38 u8info w.heap.size A2 n2 c2 _ (by rfl) o2 w.heap.size A n c v (by rfl) h2 (by simp [b16]; omega) HB.out ?_; intro A3 n3 c3 w3 o3 b3 g3)
   go_ret
   exact ⟨A3, n3, c3, rfl, by rw [HE.out]; exact o3, b02.trans b3⟩
  ·have bv := BS.vals w 5 [144, kind] (by intro x hx; simp at hx; omega) rfl
   have ba := (Below.refl w.heap.size w).alloc (Nat.le_refl _) (.cells #[.int .u8 144, .int .u8 kind] 5)
   have HC := Lib.hid (octetPut16 (some ⟨w.heap.size, 0, none⟩) 2 2 [ub 144, ub kind] (n : Int) (w.alloc (.cells #[.int .u8 144, .int .u8 kind] 5)) (bv.more (by simp)) (by simp))
   clear bv
   go_enter Tryz.func192, Tryz.ntmps192
   go_wp2_with fail
   refine HC.out.mono ?_
   rintro _ w2 ⟨A2, n2, c2, rfl, o2, b2⟩
   have b02 := btr ba b2 ba.size
   have h2 := h.below b02
   have o2 := o2.low ba.size
   have HB := Lib.hid b02.size
   go_wp2_with (at_builtin; refine wpl_app rfl (.tmp 28) (.tmp 29) _ rfl 5 Tryz.underlying38 u8info w.heap.size A2 n2 c2 _ (by rfl) o2 w.heap.size A n c v (by rfl) h2 (by simp [b16]; omega) HB.out ?_; intro A3 n3 c3 w3 o3 b3 g3)
   go_ret
   exact ⟨A3, n3, c3, rfl, by rw [HE.out]; exact o3, b02.trans b3⟩
  ·have bv := BS.vals w 5 [208, kind] (by intro x hx; simp at hx; omega) rfl
   have ba := (Below.refl w.heap.size w).alloc (Nat.le_refl _) (.cells #[.int .u8 208, .int .u8 kind] 5)
   have HC := Lib.hid (octetPut16 (some ⟨w.heap.size, 0, none⟩) 2 2 [ub 208, ub kind] (n : Int) (w.alloc (.cells #[.int .u8 208, .int .u8 kind] 5)) (bv.more (by simp)) (by simp))
   clear bv
   go_enter Tryz.func192, Tryz.ntmps192
   go_wp2_with fail
   refine HC.out.mono ?_
   rintro _ w2 ⟨A2, n2, c2, rfl, o2, b2⟩
   have b02 := btr ba b2 ba.size
   have h2 := h.below b02
   have o2 := o2.low ba.size
   have HB := Lib.hid b02.size
   go_wp2_with (at_builtin; refine wpl_app rfl (.tmp 28) (.tmp 29) _ rfl 5 Tryz.underlying38 u8info w.heap.size A2 n2 c2 _ (by rfl) o2 w.heap.size A n c v (by rfl) h2 (by simp [b16]; omega) HB.out ?_; intro A3 n3 c3 w3 o3 b3 g3)
   go_ret
   exact ⟨A3, n3, c3, rfl, by rw [HE.out]; exact o3, b02.trans b3⟩
  ·have bv := BS.vals w 5 [240, kind] (by intro x hx; simp at hx; omega) rfl
   have ba := (Below.refl w.heap.size w).alloc (Nat.le_refl _) (.cells #[.int .u8 240, .int .u8 kind] 5)
   have HC := Lib.hid (octetPut16 (some ⟨w.heap.size, 0, none⟩) 2 2 [ub 240, ub kind] (n : Int) (w.alloc (.cells #[.int .u8 240, .int .u8 kind] 5)) (bv.more (by simp)) (by simp))
   clear bv
   go_enter Tryz.func192, Tryz.ntmps192
   go_wp2_with fail
   refine HC.out.mono ?_
   rintro _ w2 ⟨A2, n2, c2, rfl, o2, b2⟩
   have b02 := btr ba b2 ba.size
   have h2 := h.below b02
   have o2 := o2.low ba.size
   have HB := Lib.hid b02.size
   go_wp2_with (at_builtin; refine wpl_app rfl (.tmp 28) (.tmp 29) _ rfl 5 Tryz.underlying38 u8info w.heap.size A2 n2 c2 _ (by rfl) o2 w.heap.size A n c v (by rfl) h2 (by simp [b16]; omega) HB.out ?_; intro A3 n3 c3 w3 o3 b3 g3)
   go_ret
   exact ⟨A3, n3, c3, rfl, by rw [HE.out]; exact o3, b02.trans b3⟩
 ·have e1 : decide ((255 : Int) < (n : Int)) = false := decide_eq_false (by omega)
  have e1' : decide (255 < n) = false := decide_eq_false hb
  have HE := Lib.hid (show attrB fl kind v = [ub fl, ub kind, ub (n : Int)] ++ v by unfold attrB; rw [if_neg (by have := HN.out; omega), ← HN.out])
  have wn : IntKind.u8.wrap (n : Int) = (n : Int) := by rw [IntKind.wrap_u8]; omega
  have wf : IntKind.u8.wrap fl = fl := by rw [IntKind.wrap_u8]; rcases hfl with rfl | rfl | rfl | rfl <;> decide
  have hf0 : 0 ≤ fl ∧ fl ≤ 255 := by rcases hfl with rfl | rfl | rfl | rfl <;> decide
  have hn255 : n ≤ 255 := by omega
  obtain ⟨hf0, hf1⟩ := hf0
  clear hb hfl
  have ov := OB.vals w 5 [fl, kind, (n : Int)] (by intro x hx; simp at hx; omega) (by simp) rfl (Nat.le_refl _)
  have ba := (Below.refl w.heap.size w).alloc (Nat.le_refl _) (.cells #[.int .u8 fl, .int .u8 kind, .int .u8 (n : Int)] 5)
  have h1 := h.below ba
  go_enter Tryz.func192, Tryz.ntmps192
  go_wp2_with (at_builtin; refine wpl_app rfl (.tmp 28) (.tmp 29) _ rfl 5 Tryz.underlying38 u8info w.heap.size (some ⟨w.heap.size, 0, none⟩) 3 3 _ (by rfl) ov w.heap.size A n c v (by rfl) h1 (by simp; omega) (by simp) ?_; intro A3 n3 c3 w3 o3 b3 g3)
  go_ret
  exact ⟨A3, n3, c3, rfl, by rw [HE.out]; exact o3, ba.trans b3⟩
/-- Whether numbers hold a wide one. -/
def bigN (l : List Int) : Bool := l.any fun y => decide (65535 < y)
set_option maxHeartbeats 1000000 in
theorem wideOne (y : Int) (w : World) : Calls Tryz.prog 229 #[.int .u32 y] w fun en w' => en = .returned (.bool (decide (65535 < y))) ∧ w = w' := by
 by_cases h : 65535 < y
 ·have e : decide (65535 < y) = true := decide_eq_true h
  have HE := Lib.hid e
  clear h
  go_enter Tryz.func229, Tryz.ntmps229
  go_wp2_with fail
  go_ret
  exact ⟨ret_b (by first | exact HE.out.symm | rfl), rfl⟩
 ·have e : decide (65535 < y) = false := decide_eq_false h
  have HE := Lib.hid e
  clear h
  go_enter Tryz.func229, Tryz.ntmps229
  go_wp2_with fail
  go_ret
  exact ⟨ret_b (by first | exact HE.out.symm | rfl), rfl⟩
set_option maxHeartbeats 4000000 in
set_option maxRecDepth 100000 in
theorem idxWide (A : Option Addr) (n c : Nat) (l : List Int) (w : World) (B : Nat) (h : NS .u32 w B A n l) (hbd : n ≤ 35184372088832) :
  Calls Tryz.prog 245 #[.slice A n c, .func (.func 229) #[] #[]] w fun en w' => (∃ v : Int, en = .returned (.int .i64 v) ∧ decide (0 ≤ v) = bigN l) ∧ w = w' := by
 have HN := Lib.hid h.1
 go_enter Tryz.func245, Tryz.ntmps245
 go_wp2_with fail
 go_loopw [8] (fun i wr => ∃ j : Nat, j ≤ n ∧ i = .int .i64 j ∧ wr = w ∧ Hid (∀ i y, i < j → l[i]? = some y → y ≤ 65535)) (fun i _ => n - (intOf i).toNat)
 case atStart => exact ⟨0, by omega, rfl, rfl, Lib.hid fun i y h => by omega⟩
 case round =>
  obtain ⟨j, hj, rfl, rfl, hno⟩ := hrel
  by_cases hlt : j < n
  ·obtain ⟨b, off, rfl, hbw, hcw⟩ := h.form hlt
   have hd : decide ((j : Int) < n) = true := decide_eq_true (by omega)
   have hlti : (j : Int) < n := by omega
   have wj : IntKind.i64.wrap ((j : Int) + 1) = (j : Int) + 1 := IntWalk.i64_in _ ⟨by omega, by omega⟩
   have hlj : j < l.length := by have := HN.out; omega
   obtain ⟨y, hy⟩ : ∃ y, l[j]? = some y := ⟨_, List.getElem?_eq_getElem hlj⟩
   rw [hy, Option.getD_some] at hcw
   have HY := Lib.hid hy
   clear hy hlj
   obtain ⟨r, hr⟩ : ∃ r, decide (65535 < y) = r := ⟨_, rfl⟩
   have HC := Lib.hid (show ∀ w', Calls Tryz.prog 229 #[.int .u32 y] w' fun en w'' => en = .returned (.bool r) ∧ w' = w'' from fun w' => by rw [← hr]; exact wideOne y w')
   have HR := Lib.hid hr
   clear hr
   go_wp2_with fail
   refine (HC.out _).mono ?_
   rintro _ _ ⟨rfl, rfl⟩
   cases r
   ·have HS := Lib.hid (show ∀ i z, i < j + 1 → l[i]? = some z → z ≤ 65535 from fun i z hi hz => by
     rcases Nat.lt_or_ge i j with h1 | h1
     ·exact hno.out i z h1 hz
     ·have : i = j := by omega
      subst this
      rw [HY.out] at hz
      injection hz with hz
      subst hz
      have := of_decide_eq_false HR.out
      omega)
    go_wp2_with fail
    go_roundw
    case rel => exact ⟨j + 1, by omega, by go_num, (by first | rfl | trivial), HS⟩
    case measure => simp [intOf]; omega
   ·have HG := Lib.hid (show bigN l = true from List.any_eq_true.2 ⟨y, List.mem_of_getElem? HY.out, HR.out⟩)
    go_wp2_with fail
    go_ret
    exact ⟨⟨j, rfl, by rw [HG.out]; exact decide_eq_true (by omega)⟩, rfl⟩
  ·have hd : decide ((j : Int) < n) = false := decide_eq_false (by omega)
   have HG := Lib.hid (show bigN l = false from List.any_eq_false.2 fun y hy => by
    obtain ⟨i, hi⟩ := List.getElem?_of_mem hy
    have := hno.out i y (by have := (List.getElem?_eq_some_iff.1 hi).1; have := HN.out; omega) hi
    simpa using this)
   go_wp2_with fail
   go_ret
   exact ⟨⟨-1, rfl, by rw [HG.out]; decide⟩, rfl⟩
set_option maxHeartbeats 1000000 in
set_option maxRecDepth 100000 in
theorem wideAny (A : Option Addr) (n c : Nat) (l : List Int) (w : World) (B : Nat) (h : NS .u32 w B A n l) (hbd : n ≤ 35184372088832) :
  Calls Tryz.prog 227 #[.slice A n c, .func (.func 229) #[] #[]] w fun en w' => en = .returned (.bool (bigN l)) ∧ w = w' := by
 go_enter Tryz.func227, Tryz.ntmps227
 go_wp2_with fail
 refine (idxWide A n c l _ B h hbd).mono ?_
 rintro _ _ ⟨⟨v, rfl, hv⟩, rfl⟩
 have HV := Lib.hid hv
 clear hv
 go_wp2_with fail
 go_ret
 exact ⟨ret_b HV.out, rfl⟩
set_option maxHeartbeats 1000000 in
set_option maxRecDepth 100000 in
theorem attWide (A : Option Addr) (n c : Nat) (l : List Seg) (w : World) (hd : DL rSeg 2 w (Lo w) A n l) (hn : n ≤ 100000) (hs : Hid (sumN l ≤ big32)) :
  Calls Tryz.prog 195 #[.slice A n c] w fun en w' => en = .returned (.bool (bigN (flatA l))) ∧ Below w.heap.size w w' := by
 go_enter Tryz.func195, Tryz.ntmps195
 go_wp2_with fail
 refine (aspFlat A n c l _ hd hn hs).mono ?_
 rintro _ w1 ⟨A1, n1, c1, rfl, o1, b1⟩
 have HB := Lib.hid (show n1 ≤ 35184372088832 by have h1 := o1.1; have h2 := flatA_len l; have h3 := hs.out; unfold big32 at h3; omega)
 have hns := Lib.hid o1.ns
 clear o1
 go_wp2_with fail
 refine (wideAny A1 n1 c1 _ _ _ hns.out HB.out).mono ?_
 rintro _ _ ⟨rfl, rfl⟩
 go_wp2_with fail
 go_ret
 exact ⟨rfl, b1⟩
/-- A number of two bytes. -/
def nrwA (y : Int) : Int := if 65535 < y then 23456 else y
set_option maxHeartbeats 1000000 in
theorem attNarrow (y : Int) (w : World) (h0 : 0 ≤ y) (h1 : y < 4294967296) : Calls Tryz.prog 193 #[.int .u32 y] w fun en w' => en = .returned (.int .i64 (nrwA y)) ∧ w = w' := by
 have w1 : IntKind.i64.wrap y = y := IntWalk.i64_in _ ⟨by omega, by omega⟩
 by_cases h : 65535 < y
 ·have e : decide (65535 < y) = true := decide_eq_true h
  have HE := Lib.hid (show nrwA y = 23456 by unfold nrwA; rw [if_pos h])
  clear h h0 h1
  go_enter Tryz.func193, Tryz.ntmps193
  go_wp2_with fail
  go_ret
  exact ⟨by rw [HE.out]; rfl, rfl⟩
 ·have e : decide (65535 < y) = false := decide_eq_false h
  have HE := Lib.hid (show nrwA y = y by unfold nrwA; rw [if_neg h])
  clear h
  go_enter Tryz.func193, Tryz.ntmps193
  go_wp2_with fail
  go_ret
  exact ⟨by rw [HE.out]; rfl, rfl⟩
theorem LookTab.keepB {w w' : World} {B : Nat} (h : LookTab w) (hb : Below B w w') (hB : 1 < B) : LookTab w' := fun k hk => by
 have h1 := h k hk
 exact ⟨(hb.cell (p := ⟨1, k * 3, none⟩) hB).trans h1.1, (hb.cell (p := ⟨1, k * 3 + 1, none⟩) hB).trans h1.2.1, (hb.cell (p := ⟨1, k * 3 + 2, none⟩) hB).trans h1.2.2⟩
/-- The bytes on their way, in a cell; their row lies from B on. -/
def PO (w : World) (go B : Nat) (acc : List UInt8) : Prop := ∃ (A : Option Addr) (n c : Nat), Blk w go 38 #[.slice A n c] ∧ OB w 5 B A n c acc
section
variable {w w' : World} {go B : Nat} {acc : List UInt8}
theorem PO.call (h : PO w go B acc) (hb : Below w.heap.size w w') : PO w' go B acc := by
 obtain ⟨A, n, c, h1, h2⟩ := h
 exact ⟨A, n, c, h1.below hb h1.lt, h2.below hb⟩
theorem PO.lt (h : PO w go B acc) : go < w.heap.size := by
 obtain ⟨A, n, c, h1, h2⟩ := h
 exact h1.lt
theorem PO.stored {n c : Nat} {A : Option Addr} (hB : Blk w go 38 #[.slice A n c]) {A2 : Option Addr} {n2 c2 : Nat} (ho : OB w 5 B A2 n2 c2 acc) : PO (w.setCell ⟨go, 0, none⟩ (.slice A2 n2 c2)) go B acc := by
 have h1 := hB.set_ 0 (.slice A2 n2 c2)
 simp only [List.setIfInBounds_toArray, List.set_cons_zero] at h1
 have hg := only_setCell (World.grownBy.refl w (some go)) (p := ⟨go, 0, none⟩) (.inl rfl) (.slice A2 n2 c2)
 exact ⟨A2, n2, c2, h1, ho.1, own_at ho.2 hB (by decide) hg⟩
/-- Another row, that was there. -/
theorem OB.sm {base n c : Nat} {A : Option Addr} {l : List UInt8} {cs : Array Value} (h : OB w 5 base A n c l) (hs : Sm B [go] w w') (hB : w.heap.size ≤ B) (hg : Blk w go 38 cs) : OB w' 5 base A n c l := by
 refine ⟨h.1, own_keep h.2 fun k hk => ?_⟩
 have hlt := (h.2.lt k hk).2
 refine hs.block k (by omega) ?_
 intro hm
 simp at hm
 subst hm
 exact own_blk_ne h.2 hg (by decide) hk
end
/-- What a put leaves. -/
def RetPO (w : World) (go B : Nat) (acc : List UInt8) (e : Ending) (w' : World) : Prop := e = .returned (.tuple #[]) ∧ PO w' go B acc ∧ Sm B [go] w w'
set_option maxHeartbeats 8000000 in
set_option maxRecDepth 100000 in
theorem attPut1 (is : Bool) (kind : Nat) (fl : Int) (A : Option Addr) (n c : Nat) (v : List UInt8) (w : World) (go B : Nat) (acc : List UInt8) (hk : kind < 19) (hfl : fl = 64 ∨ fl = 128 ∨ fl = 192 ∨ fl = 224) (hfe : ((lookAt kind).1 : Int) = fl) (hP : PO w go B acc) (hBw : B ≤ w.heap.size) (h : BS w w.heap.size A n v) (hv : v.length ≤ 60000) (ha : acc.length ≤ 10000000) (ht : LookTab w) (hgo : 1 < go) (hgB : 1 < B) :
  Calls Tryz.prog 191 #[.bool is, .int .i64 (kind : Int), .slice A n c, .pointer (some ⟨go, 0, none⟩)] w (RetPO w go B (acc ++ if is = true then attrB fl (kind : Int) v else [])) := by
 cases is
 ·go_enter Tryz.func191, Tryz.ntmps191
  go_wp2_with fail
  go_returns
  exact ⟨rfl, by simpa using hP, Sm.refl _ _ _⟩
 obtain ⟨A0, n0, c0, hB, hO⟩ := hP
 have hgl := hB.lt
 have c0t := (ht kind hk).1
 rw [hfe] at c0t
 have hk19 : (kind : Int) < 19 := by omega
 have hk0 : (0 : Int) ≤ (kind : Int) := by omega
 have HW := Lib.hid (show ∀ w', BS w' w'.heap.size A n v → Calls Tryz.prog 192 #[.int .i64 fl, .int .i64 (kind : Int), .slice A n c] w' (RetB w' 5 (attrB fl (kind : Int) v)) from fun w' h => attWhole fl (kind : Int) A n c v w' h hfl (by omega) (by omega) hv)
 have HL := Lib.hid (show acc.length + (attrB fl (kind : Int) v).length ≤ 140737488355328 by have := attrB_len fl (kind : Int) v; omega)
 obtain ⟨val, hval⟩ : ∃ val, attrB fl (kind : Int) v = val := ⟨_, rfl⟩
 rw [hval] at HW HL
 have HV := Lib.hid hval
 have hBd : Blk w.drew go 38 #[.slice A0 n0 c0] := hB
 have hOd : OB w.drew 5 B A0 n0 c0 acc := hO
 have hd : BS w.drew w.drew.heap.size A n v := h
 have q0 := hBd.cell 0
 have hgd : go < w.drew.heap.size := hgl
 have hBd2 : B ≤ w.drew.heap.size := hBw
 have hct : w.drew.cell? ⟨1, kind * 3, none⟩ = some (.int .i64 fl) := c0t
 clear hval hfe hfl
 go_enter Tryz.func191, Tryz.ntmps191
 go_upto_region 1 with fail
 refine wp_region_held_drew (S := (fun w' => w'.cell? ⟨1, kind * 3, none⟩ = some (.int .i64 fl))) (by kernel_rfl) ?_ (fun hHeld => ?_)
 ·first | exact hct | exact ct5 | exact ct6 | exact ct7
 refine tkh 1 (h := ?_)
 try simp only [Act.put, q1, q2, q3, q4, q5, q6]
 refine tkh 2 (h := ?_)
 try simp only [Act.put, q1, q2, q3, q4, q5, q6]
 refine tkh 3 (h := ?_)
 try simp only [Act.put, q1, q2, q3, q4, q5, q6]
 refine tkh 4 (h := ?_)
 try simp only [Act.put, q1, q2, q3, q4, q5, q6]
 refine tkh 5 (h := ?_)
 try simp only [Act.put, q1, q2, q3, q4, q5, q6]
 refine tkh 6 (h := ?_)
 try simp only [Act.put, q1, q2, q3, q4, q5, q6]
 refine wpAnyH_ready (rs := [0, 7]) (by kernel_rfl) (by simp) ?_
 refine AllReadyH.cons rfl (fun K hK => ?_) (AllReadyH.cons rfl (fun K hK => ?_) AllReadyH.nil)
 ·skip
  go_simp
  go_wp2_with (fail)
  refine hK.out _ _ (by first | exact hct | exact ct5 | exact ct6 | exact ct7) (fun hHeld => ?_)
  clear hK K
  refine tkr 7 fun K hK => ?_
  go_simp
  go_wp2_with ((go_at_call 192; refine (HW.out _ hd).mono ?_; rintro _ w5 ⟨A5, n5, c5, rfl, o5, b5⟩; have ct5 := (b5.cell (p := ⟨1, kind * 3, none⟩) (Nat.lt_trans hgo hgd)).trans hct; have hB5 := hBd.below b5 hgd; have q05 := hB5.cell 0; have hO5 := hOd.below b5; have hz5 := b5.size))
  refine hK.out _ _ (by first | exact hct | exact ct5 | exact ct6 | exact ct7) (fun hHeld => ?_)
  clear hK K
  refine tkr 8 fun K hK => ?_
  refine step_app rfl (.tmp 8) (.tmp 15) _ rfl 5 Tryz.underlying38 u8info B A0 n0 c0 acc (by rfl) hO5 w5.heap.size A5 n5 c5 val (by rfl) o5.bs HL.out (Nat.le_trans hBd2 hz5) ?_; intro A6 n6 c6 w6 o6 b6 g6; have ct6 := (b6.cell (p := ⟨1, kind * 3, none⟩) hgB).trans ct5; have hB6 := hB5.grown g6 (by intro e; first | exact own_blk_ne hO5.2 hB5 (by decide) e | exact own_blk_ne hO5.2 hB5 (by decide) e.symm); have f6 := hB6.frozen 0; have q06 := hB6.cell 0; have ct7 := (((Below.refl go w6).setCell (p := ⟨go, 0, none⟩) (Nat.le_refl _) (.slice A6 n6 c6)).cell (p := ⟨1, kind * 3, none⟩) hgo).trans ct6
  refine hK.out _ _ ?_ (fun hHeld => ?_)
  ·try dsimp only
   first | exact hct | exact ct5 | exact ct6 | exact ct7
  clear hK K
  refine tkr 9 fun K hK => ?_
  go_simp
  go_wp2_with (fail)
  refine hK.out _ _ ?_ (fun hHeld => ?_)
  ·try dsimp only
   first | exact hct | exact ct5 | exact ct6 | exact ct7
  clear hK K
  refine wpAnyH_done (by kernel_rfl) ?_ _
  go_wp2_with fail
  go_returns
  refine ⟨rfl, ?_, ?_⟩
  ·rw [HV.out]
   exact PO.stored hB6 o6
  ·exact (((Sm.of_below ((Below.refl w.heap.size w).drew) hBw).below b5 hBd2).below b6 (Nat.le_refl _)).setCell (p := ⟨go, 0, none⟩) (.inr (by simp)) _
 ·skip
  go_simp
  go_wp2_with ((go_at_call 192; refine (HW.out _ hd).mono ?_; rintro _ w5 ⟨A5, n5, c5, rfl, o5, b5⟩; have ct5 := (b5.cell (p := ⟨1, kind * 3, none⟩) (Nat.lt_trans hgo hgd)).trans hct; have hB5 := hBd.below b5 hgd; have q05 := hB5.cell 0; have hO5 := hOd.below b5; have hz5 := b5.size))
  refine hK.out _ _ (by first | exact hct | exact ct5 | exact ct6 | exact ct7) (fun hHeld => ?_)
  clear hK K
  refine tkr 0 fun K hK => ?_
  go_simp
  go_wp2_with (fail)
  refine hK.out _ _ (by first | exact hct | exact ct5 | exact ct6 | exact ct7) (fun hHeld => ?_)
  clear hK K
  refine tkr 8 fun K hK => ?_
  refine step_app rfl (.tmp 8) (.tmp 15) _ rfl 5 Tryz.underlying38 u8info B A0 n0 c0 acc (by rfl) hO5 w5.heap.size A5 n5 c5 val (by rfl) o5.bs HL.out (Nat.le_trans hBd2 hz5) ?_; intro A6 n6 c6 w6 o6 b6 g6; have ct6 := (b6.cell (p := ⟨1, kind * 3, none⟩) hgB).trans ct5; have hB6 := hB5.grown g6 (by intro e; first | exact own_blk_ne hO5.2 hB5 (by decide) e | exact own_blk_ne hO5.2 hB5 (by decide) e.symm); have f6 := hB6.frozen 0; have q06 := hB6.cell 0; have ct7 := (((Below.refl go w6).setCell (p := ⟨go, 0, none⟩) (Nat.le_refl _) (.slice A6 n6 c6)).cell (p := ⟨1, kind * 3, none⟩) hgo).trans ct6
  refine hK.out _ _ ?_ (fun hHeld => ?_)
  ·try dsimp only
   first | exact hct | exact ct5 | exact ct6 | exact ct7
  clear hK K
  refine tkr 9 fun K hK => ?_
  go_simp
  go_wp2_with (fail)
  refine hK.out _ _ ?_ (fun hHeld => ?_)
  ·try dsimp only
   first | exact hct | exact ct5 | exact ct6 | exact ct7
  clear hK K
  refine wpAnyH_done (by kernel_rfl) ?_ _
  go_wp2_with fail
  go_returns
  refine ⟨rfl, ?_, ?_⟩
  ·rw [HV.out]
   exact PO.stored hB6 o6
  ·exact (((Sm.of_below ((Below.refl w.heap.size w).drew) hBw).below b5 hBd2).below b6 (Nat.le_refl _)).setCell (p := ⟨go, 0, none⟩) (.inr (by simp)) _
def onlyIf (b : Bool) (l : List UInt8) : List UInt8 := if b = true then l else []
/-- Attributes' bytes. -/
def attsB (wide : Bool) (a : At) : List UInt8 :=
 attrB 64 1 [ub a.origin] ++ attrB 64 2 (putA wide a.path) ++ attrB 64 3 (b32 a.next) ++ onlyIf (decide (0 ≤ a.med)) (attrB 128 4 (b32 (a.med % 4294967296))) ++ onlyIf (decide (0 ≤ a.pref)) (attrB 64 5 (b32 (a.pref % 4294967296))) ++ onlyIf a.atomic (attrB 64 6 []) ++ onlyIf a.hasAggr (attrB 192 7 (asB wide a.aggrAS ++ b32 a.aggrAddr)) ++ onlyIf (decide (0 < a.comms.length)) (attrB 192 8 (a.comms.flatMap b32)) ++ a.raws.flatMap (fun x => attrB x.1 x.2.1 x.2.2) ++ onlyIf (!wide && bigN (flatA a.path)) (attrB 192 17 (putA true a.path)) ++ onlyIf (!wide && decide (65535 < a.aggrAS)) (attrB 192 18 (b32 a.aggrAS ++ b32 a.aggrAddr))
/-- The bytes, and an error's number. -/
def putAt (wide : Bool) (a : At) : List UInt8 × Int := if rightAt a = true then (attsB wide a, 0) else ([], 1)
def RetPE (w : World) (r : List UInt8 × Int) (e : Ending) (w' : World) : Prop := ∃ (A : Option Addr) (n c : Nat), e = .returned (.tuple #[.slice A n c, .int .i64 r.2]) ∧ OB w' 5 w.heap.size A n c r.1 ∧ Below w.heap.size w w'
theorem rightAt_of {a : At} (h : rightAt a = true) : (0 ≤ a.origin ∧ a.origin ≤ 2) ∧ rightA a.path = true ∧ numA a.med = true ∧ numA a.pref = true ∧ (a.hasAggr = true ∨ (a.aggrAS = 0 ∧ a.aggrAddr = 0)) ∧ a.comms.length ≤ 32 ∧ rawsA a.raws = true ∧ a.raws.length ≤ 8 := by
 unfold rightAt at h
 simp only [Bool.and_eq_true, Bool.or_eq_true, decide_eq_true_eq] at h
 exact ⟨h.1.1.1.1.1.1.1, h.1.1.1.1.1.1.2, h.1.1.1.1.1.2, h.1.1.1.1.2, h.1.1.1.2, h.1.1.2, h.1.2, h.2⟩
theorem b32_len (y : Int) : (b32 y).length = 4 := rfl
theorem b32_flat (l : List Int) : (l.flatMap b32).length = 4 * l.length := by
 induction l with
 | nil => rfl
 | cons y l ih => rw [List.flatMap_cons, List.length_append, ih, b32_len, List.length_cons]; omega
theorem b32_take {l : List Int} {j : Nat} {y : Int} (h : l[j]? = some y) : (l.take (j + 1)).flatMap b32 = (l.take j).flatMap b32 ++ b32 y := by
 rw [List.take_succ_eq_append_getElem (List.getElem?_eq_some_iff.1 h).1, (List.getElem?_eq_some_iff.1 h).2]
 simp
theorem raws_take {l : List RawV} {j : Nat} {x : RawV} (h : l[j]? = some x) : (l.take (j + 1)).flatMap (fun x => attrB x.1 x.2.1 x.2.2) = (l.take j).flatMap (fun x => attrB x.1 x.2.1 x.2.2) ++ attrB x.1 x.2.1 x.2.2 := by
 rw [List.take_succ_eq_append_getElem (List.getElem?_eq_some_iff.1 h).1, (List.getElem?_eq_some_iff.1 h).2]
 simp
theorem put_len {acc : List UInt8} {is : Bool} {fl kind : Int} {v : List UInt8} {K : Nat} (h : acc.length ≤ K) (hv : v.length ≤ 2000) : (acc ++ if is = true then attrB fl kind v else []).length ≤ K + 3000 := by
 rw [List.length_append]
 have := attrB_len fl kind v
 split
 ·omega
 ·simp; omega
theorem good_raw {l : List RawV} (h : rawsA l = true) {j : Nat} {x : RawV} (hx : l[j]? = some x) : x.1 = 224 ∧ 0 ≤ x.2.1 ∧ x.2.1 ≤ 255 ∧ x.2.2.length ≤ 64 ∧ knownA x.2.1 = false := by
 have hb := rawsA_at h hx
 unfold badRaw at hb
 rw [Bool.or_eq_false_iff] at hb
 have h1 := of_decide_eq_false hb.1
 refine ⟨by omega, by omega, by omega, by omega, ?_⟩
 cases hk : knownA x.2.1
 ·rfl
 ·exact absurd (.inr (.inr (.inl hk))) h1
theorem bits_low (m : Int) : bits .and .i64 m 4294967295 = m % 4294967296 := i64_and_mask m 32 (by omega)
set_option maxHeartbeats 16000000 in
set_option maxRecDepth 100000 in
theorem attPut_wide (o : Int) (A : Option Addr) (n c : Nat) (path : List Seg) (nx md pf : Int) (at_ ha : Bool) (gs ga : Int) (A1 : Option Addr) (n1 c1 : Nat) (comms : List Int) (A2 : Option Addr) (n2 c2 : Nat) (raws : List RawV) (w : World) (hp : DL rSeg 2 w (Lo w) A n path) (hc : NF w (Lo w) A1 n1 comms) (hd : DL rRaw 3 w (Lo w) A2 n2 raws) (hn : n ≤ 12) (hs : Hid (sumN path ≤ big32)) (hn2 : n2 ≤ 100000) (ht : LookTab w) (hgo : 1 < w.heap.size) (hw : Hid (0 ≤ nx ∧ nx < 4294967296 ∧ 0 ≤ gs ∧ gs < 4294967296 ∧ 0 ≤ ga ∧ ga < 4294967296)) :
  Calls Tryz.prog 135 #[.agg #[.int .i64 o, .slice A n c, .int .u32 nx, .int .i64 md, .int .i64 pf, .bool at_, .bool ha, .int .u32 gs, .int .u32 ga, .slice A1 n1 c1, .slice A2 n2 c2], .bool true] w (RetPE w (putAt true (⟨o, path, nx, md, pf, at_, ha, gs, ga, comms, raws⟩ : At))) := by
 have HN := Lib.hid hd.len
 have HC := Lib.hid hc.1
 obtain ⟨rt, hrt⟩ : ∃ rt, rightAt (⟨o, path, nx, md, pf, at_, ha, gs, ga, comms, raws⟩ : At) = rt := ⟨_, rfl⟩
 have HR := Lib.hid (show ∀ w', DL rSeg 2 w' (Lo w') A n path → DL rRaw 3 w' (Lo w') A2 n2 raws → LookTab w' → Calls Tryz.prog 190 #[.agg #[.int .i64 o, .slice A n c, .int .u32 nx, .int .i64 md, .int .i64 pf, .bool at_, .bool ha, .int .u32 gs, .int .u32 ga, .slice A1 n1 c1, .slice A2 n2 c2]] w' fun en w'' => en = .returned (.bool rt) ∧ Below w'.heap.size w' w'' from fun w' h1 h2 h3 => by rw [← hrt]; exact attRight o A n c path nx md pf at_ ha gs ga A1 n1 c1 comms A2 n2 c2 raws w' h1 hc.1 h2 (by omega) hn2 h3)
 have HRT := Lib.hid hrt
 obtain ⟨W, hW, hX, bW⟩ := box1c w #[.int .i64 o, .slice A n c, .int .u32 nx, .int .i64 md, .int .i64 pf, .bool at_, .bool ha, .int .u32 gs, .int .u32 ga, .slice A1 n1 c1, .slice A2 n2 c2] 75
 have hpW := hp.keep rSeg_ok (Kp.call bW)
 have hdW := hd.keep rRaw_ok (Kp.call bW)
 have htW := ht.call bW
 have hXl := hX.lt
 obtain ⟨q, hq⟩ : ∃ q, w.heap.size = q := ⟨_, rfl⟩
 have HQ := Lib.hid hq
 go_enter Tryz.func135, Tryz.ntmps135
 go_upto_region 1 with fail
 try rw [hW]
 rw [hq] at hX hXl
 try rw [hq]
 clear hW hq hrt
 have y0 : W.cell? ⟨q, 0, none⟩ = some (.int .i64 o) := hX.cell 0
 have y1 : W.cell? ⟨q, 1, none⟩ = some (.slice A n c) := hX.cell 1
 have y2 : W.cell? ⟨q, 2, none⟩ = some (.int .u32 nx) := hX.cell 2
 have y3 : W.cell? ⟨q, 3, none⟩ = some (.int .i64 md) := hX.cell 3
 have y4 : W.cell? ⟨q, 4, none⟩ = some (.int .i64 pf) := hX.cell 4
 have y5 : W.cell? ⟨q, 5, none⟩ = some (.bool at_) := hX.cell 5
 have y6 : W.cell? ⟨q, 6, none⟩ = some (.bool ha) := hX.cell 6
 have y7 : W.cell? ⟨q, 7, none⟩ = some (.int .u32 gs) := hX.cell 7
 have y8 : W.cell? ⟨q, 8, none⟩ = some (.int .u32 ga) := hX.cell 8
 have y9 : W.cell? ⟨q, 9, none⟩ = some (.slice A1 n1 c1) := hX.cell 9
 have y10 : W.cell? ⟨q, 10, none⟩ = some (.slice A2 n2 c2) := hX.cell 10
 go_wp2_with fail
 refine (HR.out _ hpW hdW htW).mono ?_
 rintro _ w1 ⟨rfl, b1⟩
 have bW1 := btr bW b1 bW.size
 have hX1 := hX.below b1 hXl
 clear y0 y1 y2 y3 y4 y5 y6 y7 y8 y9 y10 hpW hdW htW hX hXl
 cases rt
 ·have HP := Lib.hid (show putAt true (⟨o, path, nx, md, pf, at_, ha, gs, ga, comms, raws⟩ : At) = ([], 1) by unfold putAt; rw [HRT.out]; rfl)
  go_wp2_with fail
  go_ret2
  exact ⟨none, 0, 0, by rw [HP.out]; rfl, by rw [HP.out]; exact OB.nil_, bW1⟩
 have HRG := Lib.hid (rightAt_of HRT.out)
 have HP := Lib.hid (show putAt true (⟨o, path, nx, md, pf, at_, ha, gs, ga, comms, raws⟩ : At) = (attsB true (⟨o, path, nx, md, pf, at_, ha, gs, ga, comms, raws⟩ : At), 0) by unfold putAt; rw [HRT.out]; rfl)
 have HPL := Lib.hid (show (putA true path).length ≤ 2000 ∧ (putA true path).length ≤ 2000 by
  have h1 := rightA_of HRG.out.2.1
  have h2 := putA_len true path
  have h3 := putA_len true path
  simp only at h1
  omega)
 have ho0 : 0 ≤ o ∧ o ≤ 2 := HRG.out.1
 obtain ⟨ho0, ho2⟩ := ho0
 have wo : IntKind.u8.wrap o = o := by rw [IntKind.wrap_u8]; omega
 -- the cell of the bytes
 obtain ⟨w2, hw2, hO2, b2⟩ := box1c w1 #[.slice none 0 0] 38
 go_upto_region 4 with fail
 try rw [hw2]
 obtain ⟨go, hgE⟩ : ∃ go, w1.heap.size = go := ⟨_, rfl⟩
 have HGE := Lib.hid hgE
 have hb02 := btr bW1 b2 bW1.size
 have hX2 := hX1.below b2 hX1.lt
 have hqg : q < go := by rw [← hgE]; exact hX1.lt
 rw [hgE] at hO2 b2
 try rw [hgE]
 have hwg : w.heap.size ≤ go := by rw [← hgE]; exact bW1.size
 clear hw2 hgE
 have hgog : 1 < go := Nat.lt_of_lt_of_le hgo hwg
 have ht2 := ht.call hb02
 have HB02 := Lib.hid hb02
 have HX2 := Lib.hid hX2
 have HT2 := Lib.hid ht2
 have bk2 : Below go w2 w2 := Below.refl _ _
 have K0 : ([] : List UInt8).length ≤ 0 := Nat.le_refl _
 obtain ⟨hw0, hw1, hw2, hw3, hw4, hw5⟩ := hw.out
 have HWN := Lib.hid (And.intro hw0 hw1)
 have HWG := Lib.hid (And.intro hw2 hw3)
 have HWA := Lib.hid (And.intro hw4 hw5)
 have hgl2 := hO2.lt
 clear hX1 bW bW1 b1 b2 hb02 hX2 ht2 hw0 hw1 hw2 hw3 hw4 hw5 hgo
 have x7 : w2.cell? ⟨q, 7, none⟩ = some (.int .u32 gs) := (bk2.cell (p := ⟨q, 7, none⟩) hqg).trans (HX2.out.cell 7)
 go_wp2_with fail
 refine (attNarrow gs _ HWG.out.1 HWG.out.2).mono ?_
 rintro _ _ ⟨rfl, rfl⟩
 go_wp2_with fail
 refine (octetPut16 none 0 0 [] (nrwA gs) _ ⟨rfl, Reads.none_⟩ (by simp)).mono ?_
 rintro _ w3 ⟨A3, n3, c3, rfl, o3, b3⟩
 have bk3 := bk2.trans (b3.mono (Nat.le_of_lt hgl2))
 have hO3 := hO2.below b3 hgl2
 have hgl3 := hO3.lt
 have o3 := o3.low (Nat.le_of_lt hgl2)
 clear x7
 have x7 : w3.cell? ⟨q, 7, none⟩ = some (.int .u32 gs) := (bk3.cell (p := ⟨q, 7, none⟩) hqg).trans (HX2.out.cell 7)
 go_wp2_with fail
 refine (octetPut32 none 0 0 [] gs _ ⟨rfl, Reads.none_⟩ (by simp) HWG.out.1 HWG.out.2).mono ?_
 rintro _ w4 ⟨A4, n4, c4, rfl, o4, b4⟩
 have bk4 := bk3.trans (b4.mono (Nat.le_of_lt hgl3))
 have hO4 := hO3.below b4 hgl3
 have hgl4 := hO4.lt
 have o4 := o4.low (Nat.le_of_lt hgl3)
 have oG : OB w4 5 go A4 n4 c4 (asB true gs) := o4
 clear x7 o3
 have x9 : w4.cell? ⟨q, 9, none⟩ = some (.slice A1 n1 c1) := (bk4.cell (p := ⟨q, 9, none⟩) hqg).trans (HX2.out.cell 9)
 go_wp2_with fail
 go_loopw [9, 29] (fun x i wr => ∃ (j : Nat) (A5 : Option Addr) (n5 c5 : Nat), j ≤ n1 ∧ i = .int .i64 j ∧ x = .slice A5 n5 c5 ∧ OB wr 5 go A5 n5 c5 ((comms.take j).flatMap b32) ∧ Below w4.heap.size w4 wr) (fun _ i _ => n1 - (intOf i).toNat)
 case atStart => exact ⟨0, none, 0, 0, by omega, rfl, rfl, OB.nil_, Below.refl _ _⟩
 case round =>
  obtain ⟨j, A5, n5, c5, hj, rfl, rfl, o5, b5⟩ := hrel
  by_cases hlt : j < n1
  case pos =>
   have d1 : decide ((j : Int) < n1) = true := decide_eq_true (by omega)
   have hlti : (j : Int) < n1 := by omega
   have hj0 : (0 : Int) ≤ (j : Int) := by omega
   obtain ⟨y, hy⟩ : ∃ y, comms[j]? = some y := ⟨_, List.getElem?_eq_getElem (by have := HC.out; omega)⟩
   have hcr := hc.keep (Kp.call (HB02.out.trans ((bk4.mono hwg).trans (b5.mono (Nat.le_trans hwg (Nat.le_of_lt hgl4))))))
   obtain ⟨b, off, rfl, hbl, k0⟩ := hcr.at_ hy
   obtain ⟨hy0, hy1⟩ := hcr.wf_ hy
   have HY := Lib.hid (b32_take hy)
   have HYB := Lib.hid (show 0 ≤ y ∧ y < 4294967296 by omega)
   have HLN := Lib.hid (show ((comms.take j).flatMap b32).length ≤ 100000 by have h1 := b32_flat (comms.take j); have h2 : comms.length ≤ 32 := HRG.out.2.2.2.2.2.1; rw [List.length_take] at h1; omega)
   have wj : IntKind.i64.wrap ((j : Int) + 1) = (j : Int) + 1 := IntWalk.i64_in _ ⟨by omega, by have h1 : comms.length ≤ 32 := HRG.out.2.2.2.2.2.1; have h2 := HC.out; omega⟩
   have hgr : go ≤ wr.heap.size := Nat.le_trans (Nat.le_of_lt hgl4) b5.size
   clear hy hy0 hy1 hcr
   go_wp2_with fail
   refine (octetPut32 A5 n5 c5 _ y _ o5.bs (by have := HLN.out; omega) HYB.out.1 HYB.out.2).mono ?_
   rintro _ w6 ⟨A6, n6, c6, rfl, o6, b6⟩
   go_wp2_with fail
   go_roundw
   case rel => exact ⟨j + 1, A6, n6, c6, by omega, by go_num, rfl, by rw [HY.out]; exact o6.low hgr, btr b5 b6 b5.size⟩
   case measure => simp [intOf]; omega
  have d1 : decide ((j : Int) < n1) = false := decide_eq_false (by omega)
  have d1' : decide (j < n1) = false := decide_eq_false hlt
  have oC : OB wr 5 go A5 n5 c5 (comms.flatMap b32) := by rw [List.take_of_length_le (by have := HC.out; omega)] at o5; exact o5
  have oG := oG.below b5
  have hO5 := hO4.below b5 hgl4
  have hgl5 := hO5.lt
  have bk5 := bk4.trans (b5.mono (Nat.le_of_lt hgl4))
  obtain ⟨w5, hw5⟩ : ∃ wq, wq = wr := ⟨_, rfl⟩
  subst hw5
  obtain ⟨B, hBE⟩ : ∃ B, w5.heap.size = B := ⟨_, rfl⟩
  have HBE := Lib.hid hBE
  have hgB : go < B := by rw [← hBE]; exact hgl5
  have hqB : q < B := Nat.lt_trans hqg hgB
  have hqn : q ∉ [go] := by simp; omega
  have htB : 1 < B := Nat.lt_trans hgog hgB
  have HX5 := Lib.hid (HX2.out.below bk5 hqg)
  have HT5 := Lib.hid (HT2.out.keepB bk5 hgog)
  have HB5 := Lib.hid (HB02.out.trans (bk5.mono hwg))
  have HO5 := Lib.hid hO5
  have P5 : PO w5 go B [] := ⟨none, 0, 0, hO5, OB.nil_⟩
  have sm5 : Sm B [go] w5 w5 := Sm.refl _ _ _
  have HOG := Lib.hid (show ∀ w', Sm B [go] w5 w' → BS w' w'.heap.size A4 n4 (asB true gs) from fun w' h => (OB.sm oG h (Nat.le_of_eq hBE) hO5).bs)
  have HOC := Lib.hid (show ∀ w', Sm B [go] w5 w' → BS w' w'.heap.size A5 n5 (comms.flatMap b32) from fun w' h => (OB.sm oC h (Nat.le_of_eq hBE) hO5).bs)
  have HTK := Lib.hid (show ∀ w', Sm B [go] w5 w' → LookTab w' from fun w' h => HT5.out.keepB (h.to_below (B0 := go) (Nat.le_of_lt hgB) (by simp)) hgog)
  have HBK := Lib.hid (show ∀ w', Sm B [go] w5 w' → Below w.heap.size w w' from fun w' h => HB5.out.trans ((h.to_below (B0 := go) (Nat.le_of_lt hgB) (by simp)).mono hwg))
  have HPK := Lib.hid (show ∀ w', Sm B [go] w5 w' → DL rSeg 2 w' (Lo w') A n path from fun w' h => hp.keep rSeg_ok (Kp.call (HBK.out w' h)))
  have HDK := Lib.hid (show ∀ w', Sm B [go] w5 w' → DL rRaw 3 w' (Lo w') A2 n2 raws from fun w' h => hd.keep rRaw_ok (Kp.call (HBK.out w' h)))
  clear hlt o5 b5 hj x9 hBE hO5 hO4 hO3 hO2 hgl2 hgl3 hgl4 hgl5 bk2 bk3 bk4 bk5 oG oC b3
  have X_5 := sm5.blk HX5.out hqB hqn
  have HZ_5 := Lib.hid (show B ≤ w5.heap.size from Nat.le_trans (Nat.le_of_eq HBE.out.symm) sm5.size)
  have x0 : w5.cell? ⟨q, 0, none⟩ = some (.int .i64 o) := X_5.cell 0
  go_wp2_with fail
  obtain ⟨w7, hw7, hB7, b7⟩ := box1c w5 #[.int .u8 o] 5
  have bs7 : BS w7 w7.heap.size (some ⟨w5.heap.size, 0, none⟩) 1 [ub o] := by rw [← hw7]; exact (BS.one w5 5 o ho0 (by omega)).more (by simp)
  rw [hw7]
  have P7 := P5.call b7
  have sm7 := sm5.below b7 HZ_5.out
  refine (attPut1 true 1 64 _ 1 1 ([ub o]) w7 go B ([] : List UInt8) (by omega) (by omega) (by decide) P7 (Nat.le_trans HZ_5.out b7.size) (bs7) (by have := (show ([ub o] : List UInt8).length ≤ 2000 by simp); omega) (by have := K0; omega) (HTK.out _ sm7) hgog htB).mono ?_
  rintro _ w8 ⟨rfl, Pn8, sc8⟩
  have sm8 := sm7.trans sc8
  clear x0 hw7 hB7 bs7 sm7 sc8 P7 P5 b7
  obtain ⟨a8, ha8⟩ : ∃ a, (([] : List UInt8) ++ if true = true then attrB 64 ((1 : Nat) : Int) ([ub o]) else []) = a := ⟨_, rfl⟩
  have Kl8 : a8.length ≤ 3000 := by rw [← ha8]; exact put_len K0 (by simp)
  rw [ha8] at Pn8
  have E8 := Lib.hid ha8
  clear ha8
  have X_8 := sm8.blk HX5.out hqB hqn
  have HZ_8 := Lib.hid (show B ≤ w8.heap.size from Nat.le_trans (Nat.le_of_eq HBE.out.symm) sm8.size)
  have x1 : w8.cell? ⟨q, 1, none⟩ = some (.slice A n c) := X_8.cell 1
  have HPP := Lib.hid (aspPut A n c path true w8 (HPK.out _ sm8) hn hs)
  go_wp2_with fail
  refine HPP.out.mono ?_
  rintro _ w9 ⟨A9, n9, c9, rfl, o9, b9⟩
  have sm9 := sm8.below b9 HZ_8.out
  have P9 := Pn8.call b9
  go_wp2_with fail
  refine (attPut1 true 2 64 A9 n9 c9 (putA true path) w9 go B a8 (by omega) (by omega) (by decide) P9 (Nat.le_trans HZ_8.out b9.size) (o9.bs) (by have := (HPL.out.1); omega) (by have := Kl8; omega) (HTK.out _ sm9) hgog htB).mono ?_
  rintro _ w10 ⟨rfl, Pn10, sc10⟩
  have sm10 := sm9.trans sc10
  clear x1 sm9 sc10 P9 o9 b9 Pn8
  obtain ⟨a10, ha10⟩ : ∃ a, (a8 ++ if true = true then attrB 64 ((2 : Nat) : Int) (putA true path) else []) = a := ⟨_, rfl⟩
  have Kl10 : a10.length ≤ 6000 := by rw [← ha10]; exact put_len Kl8 (HPL.out.1)
  rw [ha10] at Pn10
  have E10 := Lib.hid ha10
  clear ha10
  have X_10 := sm10.blk HX5.out hqB hqn
  have HZ_10 := Lib.hid (show B ≤ w10.heap.size from Nat.le_trans (Nat.le_of_eq HBE.out.symm) sm10.size)
  have x2 : w10.cell? ⟨q, 2, none⟩ = some (.int .u32 nx) := X_10.cell 2
  go_wp2_with fail
  refine (octetPut32 none 0 0 [] nx _ ⟨rfl, Reads.none_⟩ (by simp) HWN.out.1 HWN.out.2).mono ?_
  rintro _ w11 ⟨A11, n11, c11, rfl, o11, b11⟩
  have sm11 := sm10.below b11 HZ_10.out
  have P11 := Pn10.call b11
  go_wp2_with fail
  refine (attPut1 true 3 64 A11 n11 c11 (b32 nx) w11 go B a10 (by omega) (by omega) (by decide) P11 (Nat.le_trans HZ_10.out b11.size) (o11.bs) (by have := (show (b32 nx).length ≤ 2000 by rw [b32_len]; omega); omega) (by have := Kl10; omega) (HTK.out _ sm11) hgog htB).mono ?_
  rintro _ w12 ⟨rfl, Pn12, sc12⟩
  have sm12 := sm11.trans sc12
  clear x2 sm11 sc12 P11 o11 b11 Pn10
  obtain ⟨a12, ha12⟩ : ∃ a, (a10 ++ if true = true then attrB 64 ((3 : Nat) : Int) (b32 nx) else []) = a := ⟨_, rfl⟩
  have Kl12 : a12.length ≤ 9000 := by rw [← ha12]; exact put_len Kl10 (by rw [b32_len]; omega)
  rw [ha12] at Pn12
  have E12 := Lib.hid ha12
  clear ha12
  have X_12 := sm12.blk HX5.out hqB hqn
  have HZ_12 := Lib.hid (show B ≤ w12.heap.size from Nat.le_trans (Nat.le_of_eq HBE.out.symm) sm12.size)
  have x3 : w12.cell? ⟨q, 3, none⟩ = some (.int .i64 md) := X_12.cell 3
  obtain ⟨mmd, hmmd⟩ : ∃ m, md % 4294967296 = m := ⟨_, rfl⟩
  have hbmd : bits .and .i64 md 4294967295 = mmd := by rw [bits_low]; exact hmmd
  have hmbmd : 0 ≤ mmd ∧ mmd < 4294967296 := by omega
  have hmwmd : IntKind.u32.wrap mmd = mmd := by rw [IntKind.wrap_u32]; omega
  have HMmd := Lib.hid hmmd
  have HMBmd := Lib.hid hmbmd
  obtain ⟨dmd, hdmd⟩ : ∃ d, decide (0 ≤ md) = d := ⟨_, rfl⟩
  have HDmd := Lib.hid hdmd
  have cx0 : w12.drew.cell? ⟨q, 3, none⟩ = some (.int .i64 md) := x3
  have Pd : PO w12.drew go B a12 := Pn12
  have smd : Sm B [go] w5 w12.drew := sm12.trans (Sm.of_below ((Below.refl w12.heap.size w12).drew) HZ_12.out)
  have hqd : q < w12.drew.heap.size := Nat.lt_of_lt_of_le hqB HZ_12.out
  clear hmmd hmbmd x3
  go_upto_region 17 with fail
  rename_i hk
  have HKK := Lib.hid hk
  clear hk
  refine wp_region_held_drew (S := (fun w' => w'.cell? ⟨q, 3, none⟩ = some (.int .i64 md))) (by kernel_rfl) ?_ (fun hHeld => ?_)
  ·first | exact cx0 | exact cx1 | exact cx2
  refine tkh 0 (h := ?_)
  try simp only [Act.put, q1, q2, q3, q4, q5, q6]
  refine tkh 1 (h := ?_)
  try simp only [Act.put, q1, q2, q3, q4, q5, q6]
  refine tkh 2 (h := ?_)
  try simp only [Act.put, q1, q2, q3, q4, q5, q6]
  refine tkh 3 (h := ?_)
  try simp only [Act.put, q1, q2, q3, q4, q5, q6]
  refine tkh 4 (h := ?_)
  try simp only [Act.put, q1, q2, q3, q4, q5, q6]
  refine tkh 5 (h := ?_)
  try simp only [Act.put, q1, q2, q3, q4, q5, q6]
  refine tkh 6 (h := ?_)
  try simp only [Act.put, q1, q2, q3, q4, q5, q6]
  refine tkh 7 (h := ?_)
  try simp only [Act.put, q1, q2, q3, q4, q5, q6]
  refine tkr 8 fun K hK => ?_
  go_simp
  go_wp2_with (go_at_call 161; refine (octetPut32 none 0 0 [] mmd _ ⟨rfl, Reads.none_⟩ (by simp) HMBmd.out.1 HMBmd.out.2).mono ?_; rintro _ w13 ⟨A13, n13, c13, rfl, o13, b13⟩; have cx1 := (b13.cell (p := ⟨q, 3, none⟩) hqd).trans cx0; have sm13 := smd.below b13 HZ_12.out; have P13 := Pd.call b13)
  refine hK.out _ _ ?_ (fun hHeld => ?_)
  ·try dsimp only
   first | exact cx0 | exact cx1 | exact cx2
  clear hK K
  refine tkr 9 fun K hK => ?_
  go_simp; go_wp2_with fail; refine (attPut1 dmd 4 128 A13 n13 c13 (b32 mmd) w13 go B a12 (by omega) (by omega) (by decide) P13 (Nat.le_trans HZ_12.out b13.size) (o13.bs) (by have := (show (b32 mmd).length ≤ 2000 by rw [b32_len]; omega); omega) (by have := Kl12; omega) (HTK.out _ sm13) hgog htB).mono ?_; rintro _ w14 ⟨rfl, Pn14, sc14⟩; have sm14 := sm13.trans sc14; have cx2 := (sm14.blk HX5.out hqB hqn).cell 3; try dsimp only
  refine hK.out _ _ ?_ (fun hHeld => ?_)
  ·try dsimp only
   first | exact cx0 | exact cx1 | exact cx2
  clear hK K
  refine wpAnyH_done (by kernel_rfl) ?_ _
  refine HKK.out _ _ ?_
  clear hHeld sc14 sm13 P13 o13 b13 cx0 cx1 cx2 Pd smd hqd hdmd hbmd hmwmd Pn12
  obtain ⟨a14, ha14⟩ : ∃ a, (a12 ++ if dmd = true then attrB 128 ((4 : Nat) : Int) (b32 mmd) else []) = a := ⟨_, rfl⟩
  have Kl14 : a14.length ≤ 12000 := by rw [← ha14]; exact put_len Kl12 (by rw [b32_len]; omega)
  rw [ha14] at Pn14
  have E14 := Lib.hid ha14
  clear ha14
  have X_14 := sm14.blk HX5.out hqB hqn
  have HZ_14 := Lib.hid (show B ≤ w14.heap.size from Nat.le_trans (Nat.le_of_eq HBE.out.symm) sm14.size)
  have x4 : w14.cell? ⟨q, 4, none⟩ = some (.int .i64 pf) := X_14.cell 4
  obtain ⟨mpf, hmpf⟩ : ∃ m, pf % 4294967296 = m := ⟨_, rfl⟩
  have hbpf : bits .and .i64 pf 4294967295 = mpf := by rw [bits_low]; exact hmpf
  have hmbpf : 0 ≤ mpf ∧ mpf < 4294967296 := by omega
  have hmwpf : IntKind.u32.wrap mpf = mpf := by rw [IntKind.wrap_u32]; omega
  have HMpf := Lib.hid hmpf
  have HMBpf := Lib.hid hmbpf
  obtain ⟨dpf, hdpf⟩ : ∃ d, decide (0 ≤ pf) = d := ⟨_, rfl⟩
  have HDpf := Lib.hid hdpf
  have cx0 : w14.drew.cell? ⟨q, 4, none⟩ = some (.int .i64 pf) := x4
  have Pd : PO w14.drew go B a14 := Pn14
  have smd : Sm B [go] w5 w14.drew := sm14.trans (Sm.of_below ((Below.refl w14.heap.size w14).drew) HZ_14.out)
  have hqd : q < w14.drew.heap.size := Nat.lt_of_lt_of_le hqB HZ_14.out
  clear hmpf hmbpf x4
  go_upto_region 18 with fail
  rename_i hk
  have HKK := Lib.hid hk
  clear hk
  refine wp_region_held_drew (S := (fun w' => w'.cell? ⟨q, 4, none⟩ = some (.int .i64 pf))) (by kernel_rfl) ?_ (fun hHeld => ?_)
  ·first | exact cx0 | exact cx1 | exact cx2
  refine tkh 0 (h := ?_)
  try simp only [Act.put, q1, q2, q3, q4, q5, q6]
  refine tkh 1 (h := ?_)
  try simp only [Act.put, q1, q2, q3, q4, q5, q6]
  refine tkh 2 (h := ?_)
  try simp only [Act.put, q1, q2, q3, q4, q5, q6]
  refine tkh 3 (h := ?_)
  try simp only [Act.put, q1, q2, q3, q4, q5, q6]
  refine tkh 4 (h := ?_)
  try simp only [Act.put, q1, q2, q3, q4, q5, q6]
  refine tkh 5 (h := ?_)
  try simp only [Act.put, q1, q2, q3, q4, q5, q6]
  refine tkh 6 (h := ?_)
  try simp only [Act.put, q1, q2, q3, q4, q5, q6]
  refine tkh 7 (h := ?_)
  try simp only [Act.put, q1, q2, q3, q4, q5, q6]
  refine tkr 8 fun K hK => ?_
  go_simp
  go_wp2_with (go_at_call 161; refine (octetPut32 none 0 0 [] mpf _ ⟨rfl, Reads.none_⟩ (by simp) HMBpf.out.1 HMBpf.out.2).mono ?_; rintro _ w15 ⟨A15, n15, c15, rfl, o15, b15⟩; have cx1 := (b15.cell (p := ⟨q, 4, none⟩) hqd).trans cx0; have sm15 := smd.below b15 HZ_14.out; have P15 := Pd.call b15)
  refine hK.out _ _ ?_ (fun hHeld => ?_)
  ·try dsimp only
   first | exact cx0 | exact cx1 | exact cx2
  clear hK K
  refine tkr 9 fun K hK => ?_
  go_simp; go_wp2_with fail; refine (attPut1 dpf 5 64 A15 n15 c15 (b32 mpf) w15 go B a14 (by omega) (by omega) (by decide) P15 (Nat.le_trans HZ_14.out b15.size) (o15.bs) (by have := (show (b32 mpf).length ≤ 2000 by rw [b32_len]; omega); omega) (by have := Kl14; omega) (HTK.out _ sm15) hgog htB).mono ?_; rintro _ w16 ⟨rfl, Pn16, sc16⟩; have sm16 := sm15.trans sc16; have cx2 := (sm16.blk HX5.out hqB hqn).cell 4; try dsimp only
  refine hK.out _ _ ?_ (fun hHeld => ?_)
  ·try dsimp only
   first | exact cx0 | exact cx1 | exact cx2
  clear hK K
  refine wpAnyH_done (by kernel_rfl) ?_ _
  refine HKK.out _ _ ?_
  clear hHeld sc16 sm15 P15 o15 b15 cx0 cx1 cx2 Pd smd hqd hdpf hbpf hmwpf Pn14
  obtain ⟨a16, ha16⟩ : ∃ a, (a14 ++ if dpf = true then attrB 64 ((5 : Nat) : Int) (b32 mpf) else []) = a := ⟨_, rfl⟩
  have Kl16 : a16.length ≤ 15000 := by rw [← ha16]; exact put_len Kl14 (by rw [b32_len]; omega)
  rw [ha16] at Pn16
  have E16 := Lib.hid ha16
  clear ha16
  have X_16 := sm16.blk HX5.out hqB hqn
  have HZ_16 := Lib.hid (show B ≤ w16.heap.size from Nat.le_trans (Nat.le_of_eq HBE.out.symm) sm16.size)
  have x5 : w16.cell? ⟨q, 5, none⟩ = some (.bool at_) := X_16.cell 5
  go_wp2_with fail
  refine (attPut1 at_ 6 64 none 0 0 (([] : List UInt8)) w16 go B a16 (by omega) (by omega) (by decide) Pn16 (HZ_16.out) (⟨rfl, Reads.none_⟩) (by have := (show ([] : List UInt8).length ≤ 2000 by simp); omega) (by have := Kl16; omega) (HTK.out _ sm16) hgog htB).mono ?_
  rintro _ w18 ⟨rfl, Pn18, sc18⟩
  have sm18 := sm16.trans sc18
  clear x5 sc18 Pn16
  obtain ⟨a18, ha18⟩ : ∃ a, (a16 ++ if at_ = true then attrB 64 ((6 : Nat) : Int) (([] : List UInt8)) else []) = a := ⟨_, rfl⟩
  have Kl18 : a18.length ≤ 18000 := by rw [← ha18]; exact put_len Kl16 (by simp)
  rw [ha18] at Pn18
  have E18 := Lib.hid ha18
  clear ha18
  have X_18 := sm18.blk HX5.out hqB hqn
  have HZ_18 := Lib.hid (show B ≤ w18.heap.size from Nat.le_trans (Nat.le_of_eq HBE.out.symm) sm18.size)
  have x6 : w18.cell? ⟨q, 6, none⟩ = some (.bool ha) := X_18.cell 6
  have x8 : w18.cell? ⟨q, 8, none⟩ = some (.int .u32 ga) := X_18.cell 8
  have cx0 : w18.drew.cell? ⟨q, 6, none⟩ = some (.bool ha) ∧ w18.drew.cell? ⟨q, 8, none⟩ = some (.int .u32 ga) := ⟨x6, x8⟩
  have Pd : PO w18.drew go B a18 := Pn18
  have smd : Sm B [go] w5 w18.drew := sm18.trans (Sm.of_below ((Below.refl w18.heap.size w18).drew) HZ_18.out)
  have hqd : q < w18.drew.heap.size := Nat.lt_of_lt_of_le hqB HZ_18.out
  have HGL := Lib.hid (show (asB true gs).length ≤ 4 from asB_len true gs)
  clear x6 x8
  go_upto_region 20 with fail
  rename_i hk
  have HKK := Lib.hid hk
  clear hk
  refine wp_region_held_drew (S := (fun w' => w'.cell? ⟨q, 6, none⟩ = some (.bool ha) ∧ w'.cell? ⟨q, 8, none⟩ = some (.int .u32 ga))) (by kernel_rfl) ?_ (fun hHeld => ?_)
  ·first | exact cx0 | exact cx1 | exact cx2
  refine tkh 0 (h := ?_)
  try simp only [Act.put, q1, q2, q3, q4, q5, q6]
  refine tkh 1 (h := ?_)
  try simp only [Act.put, q1, q2, q3, q4, q5, q6]
  refine tkh 2 (h := ?_)
  try simp only [Act.put, q1, q2, q3, q4, q5, q6]
  refine tkh 3 (h := ?_)
  try simp only [Act.put, q1, q2, q3, q4, q5, q6]
  refine tkh 4 (h := ?_)
  try simp only [Act.put, q1, q2, q3, q4, q5, q6]
  refine tkh 5 (h := ?_)
  try simp only [Act.put, q1, q2, q3, q4, q5, q6]
  refine tkr 6 fun K hK => ?_
  go_simp
  go_wp2_with (go_at_call 161; refine (octetPut32 A4 n4 c4 (asB true gs) ga _ (HOG.out _ smd) (by have := HGL.out; omega) HWA.out.1 HWA.out.2).mono ?_; rintro _ w19 ⟨A19, n19, c19, rfl, o19, b19⟩; have cx1 := And.intro ((b19.cell (p := ⟨q, 6, none⟩) hqd).trans cx0.1) ((b19.cell (p := ⟨q, 8, none⟩) hqd).trans cx0.2); have sm19 := smd.below b19 HZ_18.out; have P19 := Pd.call b19)
  refine hK.out _ _ ?_ (fun hHeld => ?_)
  ·try dsimp only
   first | exact cx0 | exact cx1 | exact cx2
  clear hK K
  refine tkr 7 fun K hK => ?_
  go_simp; go_wp2_with fail; refine (attPut1 ha 7 192 A19 n19 c19 (asB true gs ++ b32 ga) w19 go B a18 (by omega) (by omega) (by decide) P19 (Nat.le_trans HZ_18.out b19.size) (o19.bs) (by have := (show (asB true gs ++ b32 ga).length ≤ 2000 by rw [List.length_append, b32_len]; have := HGL.out; omega); omega) (by have := Kl18; omega) (HTK.out _ sm19) hgog htB).mono ?_; rintro _ w20 ⟨rfl, Pn20, sc20⟩; have sm20 := sm19.trans sc20; have X20 := sm20.blk HX5.out hqB hqn; have cx2 := And.intro (X20.cell 6) (X20.cell 8); try dsimp only
  refine hK.out _ _ ?_ (fun hHeld => ?_)
  ·try dsimp only
   first | exact cx0 | exact cx1 | exact cx2
  clear hK K
  refine wpAnyH_done (by kernel_rfl) ?_ _
  refine HKK.out _ _ ?_
  clear hHeld sc20 sm19 P19 o19 b19 cx0 cx1 cx2 Pd smd hqd X20 Pn18
  obtain ⟨a20, ha20⟩ : ∃ a, (a18 ++ if ha = true then attrB 192 ((7 : Nat) : Int) (asB true gs ++ b32 ga) else []) = a := ⟨_, rfl⟩
  have Kl20 : a20.length ≤ 21000 := by rw [← ha20]; exact put_len Kl18 (by rw [List.length_append, b32_len]; have := HGL.out; omega)
  rw [ha20] at Pn20
  have E20 := Lib.hid ha20
  clear ha20
  have X_20 := sm20.blk HX5.out hqB hqn
  have HZ_20 := Lib.hid (show B ≤ w20.heap.size from Nat.le_trans (Nat.le_of_eq HBE.out.symm) sm20.size)
  have x9 : w20.cell? ⟨q, 9, none⟩ = some (.slice A1 n1 c1) := X_20.cell 9
  have HCL := Lib.hid (show (comms.flatMap b32).length ≤ 2000 by have h1 := b32_flat comms; have h2 : comms.length ≤ 32 := HRG.out.2.2.2.2.2.1; omega)
  obtain ⟨dc, hdc⟩ : ∃ d, decide (0 < n1) = d := ⟨_, rfl⟩
  have hdc' : decide ((0 : Int) < (n1 : Int)) = dc := by rw [← hdc]; exact decide_eq_decide.2 (by omega)
  have HDC := Lib.hid (show decide (0 < comms.length) = dc by rw [← HC.out]; exact hdc)
  go_wp2_with fail
  refine (attPut1 dc 8 192 A5 n5 c5 (comms.flatMap b32) w20 go B a20 (by omega) (by omega) (by decide) Pn20 (HZ_20.out) (HOC.out _ sm20) (by have := (HCL.out); omega) (by have := Kl20; omega) (HTK.out _ sm20) hgog htB).mono ?_
  rintro _ w22 ⟨rfl, Pn22, sc22⟩
  have sm22 := sm20.trans sc22
  clear x9 sc22 Pn20 hdc hdc'
  obtain ⟨a22, ha22⟩ : ∃ a, (a20 ++ if dc = true then attrB 192 ((8 : Nat) : Int) (comms.flatMap b32) else []) = a := ⟨_, rfl⟩
  have Kl22 : a22.length ≤ 24000 := by rw [← ha22]; exact put_len Kl20 (HCL.out)
  rw [ha22] at Pn22
  have E22 := Lib.hid ha22
  clear ha22
  have X_22 := sm22.blk HX5.out hqB hqn
  have HZ_22 := Lib.hid (show B ≤ w22.heap.size from Nat.le_trans (Nat.le_of_eq HBE.out.symm) sm22.size)
  have x10 : w22.cell? ⟨q, 10, none⟩ = some (.slice A2 n2 c2) := X_22.cell 10
  go_wp2_with fail
  go_loopw [96] (fun i wr => ∃ (j : Nat) (acc : List UInt8), j ≤ n2 ∧ i = .int .i64 j ∧ PO wr go B acc ∧ Sm B [go] w5 wr ∧ Hid (acc = a22 ++ (raws.take j).flatMap (fun x => attrB x.1 x.2.1 x.2.2)) ∧ Hid (acc.length ≤ 24000 + 3000 * j)) (fun i _ => n2 - (intOf i).toNat)
  case atStart => exact ⟨0, a22, by omega, rfl, Pn22, sm22, Lib.hid (by simp), Lib.hid (by have := Kl22; omega)⟩
  case round =>
   obtain ⟨j, acc, hj, rfl, Pr, smr, HAC, HAL⟩ := hrel
   have HZr := Lib.hid (show B ≤ wr.heap.size from Nat.le_trans (Nat.le_of_eq HBE.out.symm) smr.size)
   by_cases hlt : j < n2
   case pos =>
    have d1 : decide ((j : Int) < n2) = true := decide_eq_true (by omega)
    have d1' : decide (j < n2) = true := decide_eq_true hlt
    have hlti : (j : Int) < n2 := by omega
    have hj0 : (0 : Int) ≤ (j : Int) := by omega
    have hj8 : n2 ≤ 8 := by have h1 : raws.length ≤ 8 := HRG.out.2.2.2.2.2.2.2; have := HN.out; omega
    obtain ⟨x, hx⟩ := getL HN.out hlt
    have hdr := HDK.out wr smr
    obtain ⟨b, off, A6, n6, c6, rfl, hbl, k0, k1, k2, hbf, hnc6, wf0, wf1⟩ := hdr.rawAt hx
    have HTA := Lib.hid (raws_take hx)
    have HGD := Lib.hid (good_raw HRG.out.2.2.2.2.2.2.1 hx)
    obtain ⟨fl, ty, dat⟩ := x
    simp only at k0 k1
    have wj : IntKind.i64.wrap ((j : Int) + 1) = (j : Int) + 1 := IntWalk.i64_in _ ⟨by omega, by omega⟩
    have hbs : BS wr wr.heap.size A6 n6 dat := hbf.lt
    obtain ⟨A0, n0, c0, hB, hO⟩ := Pr
    obtain ⟨wx, hwx, hBx, bx⟩ := box1c wr #[.int .i64 fl, .int .i64 ty, .slice A6 n6 c6] 168
    obtain ⟨xq, hxq⟩ : ∃ xq, wr.heap.size = xq := ⟨_, rfl⟩
    have HXQ := Lib.hid hxq
    clear hx hbf wf0 wf1 hnc6 hdr
    go_upto_region 25 with fail
    try rw [hwx]
    have hBa := hB.below bx hB.lt
    have hOa := hO.below bx
    have hsa := hbs.call bx
    have sma := smr.below bx HZr.out
    rw [hxq] at hBx
    try rw [hxq]
    clear hxq hwx k0 k1 k2 hB hO hbs
    have hXd : Blk wx.drew xq 168 #[.int .i64 fl, .int .i64 ty, .slice A6 n6 c6] := hBx
    have hBd : Blk wx.drew go 38 #[.slice A0 n0 c0] := hBa
    have hOd : OB wx.drew 5 B A0 n0 c0 acc := hOa
    have hsd : BS wx.drew wx.drew.heap.size A6 n6 dat := hsa
    have q0 := hBd.cell 0
    have hgd : go < wx.drew.heap.size := hBa.lt
    have hBd2 : B ≤ wx.drew.heap.size := Nat.le_trans HZr.out bx.size
    have hxd : xq < wx.drew.heap.size := hBx.lt
    have hxB : B ≤ xq := by rw [← HXQ.out]; exact HZr.out
    have ct : wx.drew.cell? ⟨xq, 0, none⟩ = some (.int .i64 fl) ∧ wx.drew.cell? ⟨xq, 1, none⟩ = some (.int .i64 ty) ∧ wx.drew.cell? ⟨xq, 2, none⟩ = some (.slice A6 n6 c6) := ⟨hXd.cell 0, hXd.cell 1, hXd.cell 2⟩
    have HWH := Lib.hid (show ∀ w', BS w' w'.heap.size A6 n6 dat → Calls Tryz.prog 192 #[.int .i64 fl, .int .i64 ty, .slice A6 n6 c6] w' (RetB w' 5 (attrB fl ty dat)) from fun w' h => attWhole fl ty A6 n6 c6 dat w' h (.inr (.inr (.inr HGD.out.1))) HGD.out.2.1 HGD.out.2.2.1 (by have h : dat.length ≤ 64 := HGD.out.2.2.2.1; omega))
    have HVL := Lib.hid (show (attrB fl ty dat).length ≤ 3000 by have h1 := attrB_len fl ty dat; have h : dat.length ≤ 64 := HGD.out.2.2.2.1; omega)
    obtain ⟨val, hval⟩ : ∃ val, attrB fl ty dat = val := ⟨_, rfl⟩
    rw [hval] at HWH HVL
    have HV := Lib.hid hval
    clear hval hBx hBa hOa hsa
    rename_i hk
    have HKK := Lib.hid hk
    clear hk
    refine wp_region_held_drew (S := (fun w' => w'.cell? ⟨xq, 0, none⟩ = some (.int .i64 fl) ∧ w'.cell? ⟨xq, 1, none⟩ = some (.int .i64 ty) ∧ w'.cell? ⟨xq, 2, none⟩ = some (.slice A6 n6 c6))) (by kernel_rfl) ?_ (fun hHeld => ?_)
    ·first | exact ct | exact ct5 | exact ct6 | exact ct7
    refine tkh 1 (h := ?_)
    try simp only [Act.put, q1, q2, q3, q4, q5, q6]
    refine tkh 2 (h := ?_)
    try simp only [Act.put, q1, q2, q3, q4, q5, q6]
    refine tkh 3 (h := ?_)
    try simp only [Act.put, q1, q2, q3, q4, q5, q6]
    refine tkh 4 (h := ?_)
    try simp only [Act.put, q1, q2, q3, q4, q5, q6]
    refine tkh 5 (h := ?_)
    try simp only [Act.put, q1, q2, q3, q4, q5, q6]
    refine tkh 6 (h := ?_)
    try simp only [Act.put, q1, q2, q3, q4, q5, q6]
    refine wpAnyH_ready (rs := [0, 7]) (by kernel_rfl) (by simp) ?_
    refine AllReadyH.cons rfl (fun K hK => ?_) (AllReadyH.cons rfl (fun K hK => ?_) AllReadyH.nil)
    ·skip
     go_simp
     go_wp2_with (fail)
     refine hK.out _ _ (by first | exact ct | exact ct5 | exact ct6 | exact ct7) (fun hHeld => ?_)
     clear hK K
     refine tkr 7 fun K hK => ?_
     go_simp
     go_wp2_with ((go_at_call 192; refine (HWH.out _ hsd).mono ?_; rintro _ w25 ⟨A25, n25, c25, rfl, o25, b25⟩; have hX25 := hXd.below b25 hxd; have ct5 := And.intro (hX25.cell 0) (And.intro (hX25.cell 1) (hX25.cell 2)); have hB25 := hBd.below b25 hgd; have q025 := hB25.cell 0; have hO25 := hOd.below b25; have hz25 := b25.size))
     refine hK.out _ _ (by first | exact ct | exact ct5 | exact ct6 | exact ct7) (fun hHeld => ?_)
     clear hK K
     refine tkr 8 fun K hK => ?_
     refine step_app rfl (.tmp 100) (.tmp 107) _ rfl 5 Tryz.underlying38 u8info B A0 n0 c0 acc (by rfl) hO25 w25.heap.size A25 n25 c25 val (by rfl) o25.bs (by have h1 := HAL.out; have h2 := HVL.out; omega) (Nat.le_trans hBd2 hz25) ?_; intro A26 n26 c26 w26 o26 b26 g26; have hX26 := hX25.grown g26 (by intro e; first | exact own_blk_ne hO25.2 hX25 (by decide) e | exact own_blk_ne hO25.2 hX25 (by decide) e.symm); have ct6 := And.intro (hX26.cell 0) (And.intro (hX26.cell 1) (hX26.cell 2)); have hB26 := hB25.grown g26 (by intro e; first | exact own_blk_ne hO25.2 hB25 (by decide) e | exact own_blk_ne hO25.2 hB25 (by decide) e.symm); have f26 := hB26.frozen 0; have q026 := hB26.cell 0; have hX27 := hX26.far (p := ⟨go, 0, none⟩) (by show xq ≠ go; omega) (.slice A26 n26 c26); have ct7 := And.intro (hX27.cell 0) (And.intro (hX27.cell 1) (hX27.cell 2))
     refine hK.out _ _ ?_ (fun hHeld => ?_)
     ·try dsimp only
      first | exact ct | exact ct5 | exact ct6 | exact ct7
     clear hK K
     refine tkr 9 fun K hK => ?_
     go_simp
     go_wp2_with (fail)
     refine hK.out _ _ ?_ (fun hHeld => ?_)
     ·try dsimp only
      first | exact ct | exact ct5 | exact ct6 | exact ct7
     clear hK K
     refine wpAnyH_done (by kernel_rfl) ?_ _
     refine HKK.out _ _ ?_
     have HNX := Lib.hid (show acc ++ val = a22 ++ (raws.take (j + 1)).flatMap (fun x => attrB x.1 x.2.1 x.2.2) by rw [HTA.out, ← HV.out, HAC.out, List.append_assoc])
     have HNL := Lib.hid (show (acc ++ val).length ≤ 24000 + 3000 * (j + 1) by have h1 := HAL.out; have h2 := HVL.out; rw [List.length_append]; omega)
     have Pz := PO.stored hB26 o26
     have smz := (((sma.below ((Below.refl wx.heap.size wx).drew) hBd2).below b25 hBd2).below b26 (Nat.le_refl _)).setCell (p := ⟨go, 0, none⟩) (.inr (by simp)) (.slice A26 n26 c26)
     obtain ⟨wz, hwz⟩ : ∃ W, w26.setCell ⟨go, 0, none⟩ (.slice A26 n26 c26) = W := ⟨_, rfl⟩
     rw [hwz] at Pz smz
     rw [hwz]
     clear hwz q026 f26 ct7 ct6 hHeld
     go_wp2_with fail
     go_roundw
     case rel => exact ⟨j + 1, _, by omega, by go_num, Pz, smz, HNX, HNL⟩
     case measure => simp [intOf]; omega
    ·skip
     go_simp
     go_wp2_with ((go_at_call 192; refine (HWH.out _ hsd).mono ?_; rintro _ w25 ⟨A25, n25, c25, rfl, o25, b25⟩; have hX25 := hXd.below b25 hxd; have ct5 := And.intro (hX25.cell 0) (And.intro (hX25.cell 1) (hX25.cell 2)); have hB25 := hBd.below b25 hgd; have q025 := hB25.cell 0; have hO25 := hOd.below b25; have hz25 := b25.size))
     refine hK.out _ _ (by first | exact ct | exact ct5 | exact ct6 | exact ct7) (fun hHeld => ?_)
     clear hK K
     refine tkr 0 fun K hK => ?_
     go_simp
     go_wp2_with (fail)
     refine hK.out _ _ (by first | exact ct | exact ct5 | exact ct6 | exact ct7) (fun hHeld => ?_)
     clear hK K
     refine tkr 8 fun K hK => ?_
     refine step_app rfl (.tmp 100) (.tmp 107) _ rfl 5 Tryz.underlying38 u8info B A0 n0 c0 acc (by rfl) hO25 w25.heap.size A25 n25 c25 val (by rfl) o25.bs (by have h1 := HAL.out; have h2 := HVL.out; omega) (Nat.le_trans hBd2 hz25) ?_; intro A26 n26 c26 w26 o26 b26 g26; have hX26 := hX25.grown g26 (by intro e; first | exact own_blk_ne hO25.2 hX25 (by decide) e | exact own_blk_ne hO25.2 hX25 (by decide) e.symm); have ct6 := And.intro (hX26.cell 0) (And.intro (hX26.cell 1) (hX26.cell 2)); have hB26 := hB25.grown g26 (by intro e; first | exact own_blk_ne hO25.2 hB25 (by decide) e | exact own_blk_ne hO25.2 hB25 (by decide) e.symm); have f26 := hB26.frozen 0; have q026 := hB26.cell 0; have hX27 := hX26.far (p := ⟨go, 0, none⟩) (by show xq ≠ go; omega) (.slice A26 n26 c26); have ct7 := And.intro (hX27.cell 0) (And.intro (hX27.cell 1) (hX27.cell 2))
     refine hK.out _ _ ?_ (fun hHeld => ?_)
     ·try dsimp only
      first | exact ct | exact ct5 | exact ct6 | exact ct7
     clear hK K
     refine tkr 9 fun K hK => ?_
     go_simp
     go_wp2_with (fail)
     refine hK.out _ _ ?_ (fun hHeld => ?_)
     ·try dsimp only
      first | exact ct | exact ct5 | exact ct6 | exact ct7
     clear hK K
     refine wpAnyH_done (by kernel_rfl) ?_ _
     refine HKK.out _ _ ?_
     have HNX := Lib.hid (show acc ++ val = a22 ++ (raws.take (j + 1)).flatMap (fun x => attrB x.1 x.2.1 x.2.2) by rw [HTA.out, ← HV.out, HAC.out, List.append_assoc])
     have HNL := Lib.hid (show (acc ++ val).length ≤ 24000 + 3000 * (j + 1) by have h1 := HAL.out; have h2 := HVL.out; rw [List.length_append]; omega)
     have Pz := PO.stored hB26 o26
     have smz := (((sma.below ((Below.refl wx.heap.size wx).drew) hBd2).below b25 hBd2).below b26 (Nat.le_refl _)).setCell (p := ⟨go, 0, none⟩) (.inr (by simp)) (.slice A26 n26 c26)
     obtain ⟨wz, hwz⟩ : ∃ W, w26.setCell ⟨go, 0, none⟩ (.slice A26 n26 c26) = W := ⟨_, rfl⟩
     rw [hwz] at Pz smz
     rw [hwz]
     clear hwz q026 f26 ct7 ct6 hHeld
     go_wp2_with fail
     go_roundw
     case rel => exact ⟨j + 1, _, by omega, by go_num, Pz, smz, HNX, HNL⟩
     case measure => simp [intOf]; omega
   have d1 : decide ((j : Int) < n2) = false := decide_eq_false (by omega)
   have d1' : decide (j < n2) = false := decide_eq_false hlt
   have E24 := Lib.hid (show acc = a22 ++ raws.flatMap (fun x => attrB x.1 x.2.1 x.2.2) by have := HAC.out; rwa [List.take_of_length_le (by have := HN.out; omega)] at this)
   have Kl24 : acc.length ≤ 48000 := by have h1 := HAL.out; have h2 : raws.length ≤ 8 := HRG.out.2.2.2.2.2.2.2; have := HN.out; omega
   obtain ⟨w24, hw24⟩ : ∃ w', w' = wr := ⟨_, rfl⟩
   subst hw24
   have Pn24 := Pr
   have sm24 := smr
   clear hlt hj Pr smr x10 Pn22 sm22
   have X_24 := sm24.blk HX5.out hqB hqn
   have HZ_24 := Lib.hid (show B ≤ w24.heap.size from Nat.le_trans (Nat.le_of_eq HBE.out.symm) sm24.size)
   have x1 : w24.cell? ⟨q, 1, none⟩ = some (.slice A n c) := X_24.cell 1
   obtain ⟨bn, hbn⟩ : ∃ bn, bigN (flatA path) = bn := ⟨_, rfl⟩
   have HBN := Lib.hid hbn
   have HWD := Lib.hid (show ∀ w', DL rSeg 2 w' (Lo w') A n path → Calls Tryz.prog 195 #[.slice A n c] w' fun en w'' => en = .returned (.bool bn) ∧ Below w'.heap.size w' w'' from fun w' h => by rw [← hbn]; exact attWide A n c path w' h (by omega) hs)
   have HPT := Lib.hid (show ∀ w', DL rSeg 2 w' (Lo w') A n path → Calls Tryz.prog 194 #[.slice A n c, .bool true] w' (RetB w' 5 (putA true path)) from fun w' h => aspPut A n c path true w' h hn hs)
   have cx0 : w24.drew.cell? ⟨q, 1, none⟩ = some (.slice A n c) := x1
   have Pd : PO w24.drew go B acc := Pn24
   have smd : Sm B [go] w5 w24.drew := sm24.trans (Sm.of_below ((Below.refl w24.heap.size w24).drew) HZ_24.out)
   have hqd : q < w24.drew.heap.size := Nat.lt_of_lt_of_le hqB HZ_24.out
   have hBd : B ≤ w24.drew.heap.size := HZ_24.out
   clear x1 hbn
   go_upto_region 27 with fail
   rename_i hk
   have HKK := Lib.hid hk
   clear hk
   refine wp_region_held_drew (S := (fun w' => w'.cell? ⟨q, 1, none⟩ = some (.slice A n c))) (by kernel_rfl) ?_ (fun hHeld => ?_)
   ·first | exact cx0 | exact cx25 | exact cx26 | exact cx28
   refine tkh 0 (h := ?_)
   try simp only [Act.put, q1, q2, q3, q4, q5, q6]
   refine tkh 1 (h := ?_)
   try simp only [Act.put, q1, q2, q3, q4, q5, q6]
   refine tkh 2 (h := ?_)
   try simp only [Act.put, q1, q2, q3, q4, q5, q6]
   refine tkh 3 (h := ?_)
   try simp only [Act.put, q1, q2, q3, q4, q5, q6]
   refine wpAnyH_take (i := 4) (v := undef) rfl (by kernel_rfl) (by kernel_rfl) (by kernel_rfl) (by intro _ _ _ h; exact h) (Or.inr ⟨by rfl, rfl⟩) (by assumption) ?_
   try simp only [Act.put, q1, q2, q3, q4, q5, q6]
   refine wpAnyH_take (i := 5) (v := undef) rfl (by kernel_rfl) (by kernel_rfl) (by kernel_rfl) (by intro _ _ _ h; exact h) (Or.inr ⟨by rfl, rfl⟩) (by assumption) ?_
   try simp only [Act.put, q1, q2, q3, q4, q5, q6]
   refine wpAnyH_take (i := 6) (v := undef) rfl (by kernel_rfl) (by kernel_rfl) (by kernel_rfl) (by intro _ _ _ h; exact h) (Or.inr ⟨by rfl, rfl⟩) (by assumption) ?_
   try simp only [Act.put, q1, q2, q3, q4, q5, q6]
   refine tkh 7 (h := ?_)
   try simp only [Act.put, q1, q2, q3, q4, q5, q6]
   refine tkh 8 (h := ?_)
   try simp only [Act.put, q1, q2, q3, q4, q5, q6]
   refine tkh 9 (h := ?_)
   try simp only [Act.put, q1, q2, q3, q4, q5, q6]
   refine tkr 10 fun K hK => ?_
   go_simp
   go_wp2_with (go_at_call 194; refine (HPT.out _ (HPK.out _ smd)).mono ?_; rintro _ w26 ⟨A26, n26, c26, rfl, o26, b26⟩; have hB26 : B ≤ w26.heap.size := Nat.le_trans hBd b26.size; have cx26 := (b26.cell (p := ⟨q, 1, none⟩) (Nat.lt_of_lt_of_le hqB hBd)).trans cx0; have sm26 := smd.below b26 hBd; have P26 := Pd.call b26)
   refine hK.out _ _ ?_ (fun hHeld => ?_)
   ·try dsimp only
    first | exact cx0 | exact cx25 | exact cx26 | exact cx28
   clear hK K
   refine tkr 11 fun K hK => ?_
   go_simp; go_wp2_with fail; refine (attPut1 false 17 192 A26 n26 c26 (putA true path) w26 go B acc (by omega) (by omega) (by decide) P26 (hB26) (o26.bs) (by have := (HPL.out.2); omega) (by have := Kl24; omega) (HTK.out _ sm26) hgog htB).mono ?_; rintro _ w28 ⟨rfl, Pn28, sc28⟩; have sm28 := sm26.trans sc28; have cx28 := (sm28.blk HX5.out hqB hqn).cell 1; try dsimp only
   refine hK.out _ _ ?_ (fun hHeld => ?_)
   ·try dsimp only
    first | exact cx0 | exact cx25 | exact cx26 | exact cx28
   clear hK K
   refine wpAnyH_done (by kernel_rfl) ?_ _
   refine HKK.out _ _ ?_
   clear hHeld sc28 cx28
   obtain ⟨a28, ha28⟩ : ∃ a, (acc ++ if false = true then attrB 192 ((17 : Nat) : Int) (putA true path) else []) = a := ⟨_, rfl⟩
   have Kl28 : a28.length ≤ 51000 := by rw [← ha28]; exact put_len Kl24 (HPL.out.2)
   rw [ha28] at Pn28
   have E28 := Lib.hid ha28
   clear ha28
   have X_28 := sm28.blk HX5.out hqB hqn
   have HZ_28 := Lib.hid (show B ≤ w28.heap.size from Nat.le_trans (Nat.le_of_eq HBE.out.symm) sm28.size)
   have x7 : w28.cell? ⟨q, 7, none⟩ = some (.int .u32 gs) := X_28.cell 7
   have x8 : w28.cell? ⟨q, 8, none⟩ = some (.int .u32 ga) := X_28.cell 8
   obtain ⟨bg, hbg⟩ : ∃ bg, decide (65535 < gs) = bg := ⟨_, rfl⟩
   have HBG := Lib.hid hbg
   have cy0 : w28.drew.cell? ⟨q, 7, none⟩ = some (.int .u32 gs) ∧ w28.drew.cell? ⟨q, 8, none⟩ = some (.int .u32 ga) := ⟨x7, x8⟩
   have Pe : PO w28.drew go B a28 := Pn28
   have sme : Sm B [go] w5 w28.drew := sm28.trans (Sm.of_below ((Below.refl w28.heap.size w28).drew) HZ_28.out)
   have hqe : q < w28.drew.heap.size := Nat.lt_of_lt_of_le hqB HZ_28.out
   clear x7 x8
   go_upto_region 28 with fail
   rename_i hk
   have HKK := Lib.hid hk
   clear hk
   refine wp_region_held_drew (S := (fun w' => w'.cell? ⟨q, 7, none⟩ = some (.int .u32 gs) ∧ w'.cell? ⟨q, 8, none⟩ = some (.int .u32 ga))) (by kernel_rfl) ?_ (fun hHeld => ?_)
   ·first | exact cy0 | exact cy1 | exact cy2 | exact cy3
   refine tkh 0 (h := ?_)
   try simp only [Act.put, q1, q2, q3, q4, q5, q6]
   refine tkh 1 (h := ?_)
   try simp only [Act.put, q1, q2, q3, q4, q5, q6]
   refine tkh 2 (h := ?_)
   try simp only [Act.put, q1, q2, q3, q4, q5, q6]
   refine tkh 3 (h := ?_)
   try simp only [Act.put, q1, q2, q3, q4, q5, q6]
   refine wpAnyH_take (i := 4) (v := undef) rfl (by kernel_rfl) (by kernel_rfl) (by kernel_rfl) (by intro _ _ _ h; exact h) (Or.inr ⟨by rfl, rfl⟩) (by assumption) ?_
   try simp only [Act.put, q1, q2, q3, q4, q5, q6]
   refine wpAnyH_take (i := 5) (v := undef) rfl (by kernel_rfl) (by kernel_rfl) (by kernel_rfl) (by intro _ _ _ h; exact h) (Or.inr ⟨by rfl, rfl⟩) (by assumption) ?_
   try simp only [Act.put, q1, q2, q3, q4, q5, q6]
   refine wpAnyH_take (i := 6) (v := undef) rfl (by kernel_rfl) (by kernel_rfl) (by kernel_rfl) (by intro _ _ _ h; exact h) (Or.inr ⟨by rfl, rfl⟩) (by assumption) ?_
   try simp only [Act.put, q1, q2, q3, q4, q5, q6]
   refine tkh 7 (h := ?_)
   try simp only [Act.put, q1, q2, q3, q4, q5, q6]
   refine tkh 8 (h := ?_)
   try simp only [Act.put, q1, q2, q3, q4, q5, q6]
   refine tkh 9 (h := ?_)
   try simp only [Act.put, q1, q2, q3, q4, q5, q6]
   refine tkh 11 (h := ?_)
   try simp only [Act.put, q1, q2, q3, q4, q5, q6]
   refine tkh 12 (h := ?_)
   try simp only [Act.put, q1, q2, q3, q4, q5, q6]
   refine tkr 10 fun K hK => ?_
   go_simp
   go_wp2_with (go_at_call 161; refine (octetPut32 none 0 0 [] gs _ ⟨rfl, Reads.none_⟩ (by simp) HWG.out.1 HWG.out.2).mono ?_; rintro _ w29 ⟨A29, n29, c29, rfl, o29, b29⟩; have cy1 := And.intro ((b29.cell (p := ⟨q, 7, none⟩) hqe).trans cy0.1) ((b29.cell (p := ⟨q, 8, none⟩) hqe).trans cy0.2); have sm29 := sme.below b29 HZ_28.out; have P29 := Pe.call b29; have hqf : q < w29.heap.size := Nat.lt_of_lt_of_le hqe b29.size; have hB29 : B ≤ w29.heap.size := Nat.le_trans HZ_28.out b29.size)
   refine hK.out _ _ ?_ (fun hHeld => ?_)
   ·try dsimp only
    first | exact cy0 | exact cy1 | exact cy2 | exact cy3
   clear hK K
   refine tkr 13 fun K hK => ?_
   go_simp
   go_wp2_with (go_at_call 161; refine (octetPut32 A29 n29 c29 (b32 gs) ga _ o29.bs (by rw [b32_len]; omega) HWA.out.1 HWA.out.2).mono ?_; rintro _ w30 ⟨A30, n30, c30, rfl, o30, b30⟩; have cy2 := And.intro ((b30.cell (p := ⟨q, 7, none⟩) hqf).trans cy1.1) ((b30.cell (p := ⟨q, 8, none⟩) hqf).trans cy1.2); have sm30 := sm29.below b30 hB29; have P30 := P29.call b30; have hB30 : B ≤ w30.heap.size := Nat.le_trans hB29 b30.size)
   refine hK.out _ _ ?_ (fun hHeld => ?_)
   ·try dsimp only
    first | exact cy0 | exact cy1 | exact cy2 | exact cy3
   clear hK K
   refine tkr 14 fun K hK => ?_
   go_simp; go_wp2_with fail; refine (attPut1 false 18 192 A30 n30 c30 (b32 gs ++ b32 ga) w30 go B a28 (by omega) (by omega) (by decide) P30 (hB30) (o30.bs) (by have := (show (b32 gs ++ b32 ga).length ≤ 2000 by rw [List.length_append, b32_len, b32_len]; omega); omega) (by have := Kl28; omega) (HTK.out _ sm30) hgog htB).mono ?_; rintro _ w32 ⟨rfl, Pn32, sc32⟩; have sm32 := sm30.trans sc32; have X32 := sm32.blk HX5.out hqB hqn; have cy3 := And.intro (X32.cell 7) (X32.cell 8); try dsimp only
   refine hK.out _ _ ?_ (fun hHeld => ?_)
   ·try dsimp only
    first | exact cy0 | exact cy1 | exact cy2 | exact cy3
   clear hK K
   refine wpAnyH_done (by kernel_rfl) ?_ _
   refine HKK.out _ _ ?_
   clear hHeld sc32 cy0 cy1 cy2 cy3 X32
   obtain ⟨a32, ha32⟩ : ∃ a, (a28 ++ if false = true then attrB 192 ((18 : Nat) : Int) (b32 gs ++ b32 ga) else []) = a := ⟨_, rfl⟩
   have Kl32 : a32.length ≤ 54000 := by rw [← ha32]; exact put_len Kl28 (by rw [List.length_append, b32_len, b32_len]; omega)
   rw [ha32] at Pn32
   have E32 := Lib.hid ha32
   clear ha32
   obtain ⟨Az, nz, cz, hBz, hOz⟩ := Pn32
   have z0 : w32.cell? ⟨go, 0, none⟩ = some (.slice Az nz cz) := hBz.cell 0
   have HAL := Lib.hid (show attsB true (⟨o, path, nx, md, pf, at_, ha, gs, ga, comms, raws⟩ : At) = a32 by
    rw [← E32.out, ← E28.out, E24.out, ← E22.out, ← E20.out, ← E18.out, ← E16.out, ← E14.out, ← E12.out, ← E10.out, ← E8.out]
    unfold attsB onlyIf
    simp only [HDmd.out, HMmd.out, HDpf.out, HMpf.out, HDC.out, HBN.out, HBG.out]
    simp)
   clear hBz
   go_wp2_with fail
   go_ret2
   exact ⟨Az, nz, cz, by rw [HP.out]; rfl, by rw [HP.out, HAL.out]; exact hOz.low (by rw [← HBE.out]; exact Nat.le_trans HB5.out.size (Nat.le_refl _)), HBK.out _ sm32⟩
/-- The document's reader: all bytes F, the place. -/
def RX (w : World) (g : Nat) (l : List UInt8) (s : Bool) : Prop := ∃ (A : Option Addr) (n c a : Nat) (F : List UInt8), Blk w g 257 #[.slice A n c, .int .i64 a, .bool s] ∧ a ≤ n ∧ BS w w.heap.size A n F ∧ n ≤ 100000 ∧ l = F.drop a
theorem RX.lt {w : World} {g : Nat} {l : List UInt8} {s : Bool} (h : RX w g l s) : g < w.heap.size := by
 obtain ⟨_, _, _, _, _, hb, _⟩ := h; exact hb.lt
theorem rx_no {A : Option Addr} {n c a : Nat} {s : Bool} : ∀ (i : Nat) (v : Int), (#[Value.slice A n c, Value.int .i64 a, Value.bool s] : Array Value)[i]? ≠ some (Value.int .u8 v) := by
 intro i v
 rcases i with _ | _ | _ | i
 ·simp
 ·simp
 ·simp
 ·simp
end Go.Proofs.YthgjknmfghjioaaGreatDoor

namespace Go.Proofs.YthgjknmfghjioaaGreatDoor
open Go.RowKit
theorem BS.grownAtB {w w' : World} {B n g : Nat} {A : Option Addr} {l : List UInt8} (h : BS w B A n l) (hB : B ≤ w.heap.size) (hg : w.grownBy w' (some g)) (hne : 0 < n → ∀ ad, A = some ad → ad.block ≠ g) : BS w' B A n l := by
 refine ⟨h.1, h.2.1, fun hn => ?_⟩
 obtain ⟨ad, e, hb, hc⟩ := h.2.2 hn
 refine ⟨ad, e, hb, fun j u hu => ?_⟩
 refine (World.cell?_of_block ?_).trans (hc j u hu)
 rw [block_of_add]
 exact hg.block _ (Nat.lt_of_lt_of_le hb hB) (fun e' => by injection e' with e'; exact hne hn _ e e')
/-- A reader's row; its bytes lie below Bd. -/
def RB (Bd : Nat) (w : World) (g : Nat) (l : List UInt8) (s : Bool) : Prop := ∃ (A : Option Addr) (n c : Nat), Blk w g 212 #[.slice A n c, .bool s] ∧ (n ≤ c ∧ Bd ≤ w.heap.size) ∧ BS w Bd A n l
theorem RB.lt {Bd : Nat} {w : World} {g : Nat} {l : List UInt8} {s : Bool} (h : RB Bd w g l s) : g < w.heap.size := by
 obtain ⟨_, _, _, hb, _⟩ := h; exact hb.lt
theorem RB.blk {Bd : Nat} {w : World} {g : Nat} {l : List UInt8} {s : Bool} (h : RB Bd w g l s) : ∃ cs, Blk w g 212 cs := by
 obtain ⟨_, _, _, hb, _⟩ := h; exact ⟨_, hb⟩
theorem RB.keep {Bd : Nat} {w w' : World} {g : Nat} {l : List UInt8} {s : Bool} (h : RB Bd w g l s) (hz : w.heap.size ≤ w'.heap.size) (hk : ∀ b, b < Bd ∨ b = g → w'.heap[b]? = w.heap[b]?) : RB Bd w' g l s := by
 obtain ⟨A, n, c, hb, ⟨hnc, hBd⟩, hbs⟩ := h
 exact ⟨A, n, c, (hk g (.inr rfl)).trans hb, ⟨hnc, Nat.le_trans hBd hz⟩, hbs.1, hbs.2.keep fun p hp => World.cell?_of_block (hk p.block (.inl hp))⟩
theorem RB.below {Bd B : Nat} {w w' : World} {g : Nat} {l : List UInt8} {s : Bool} (h : RB Bd w g l s) (hb : Below B w w') (hB : Bd ≤ B) (hg : g < B) : RB Bd w' g l s :=
 h.keep hb.size fun b hb' => hb.block b (by rcases hb' with h | h <;> omega)
theorem RB.setCell {Bd : Nat} {w : World} {g : Nat} {l : List UInt8} {s : Bool} (h : RB Bd w g l s) {p : Addr} (hp : Bd ≤ p.block) (hne : p.block ≠ g) (u : Value) : RB Bd (w.setCell p u) g l s :=
 h.keep (by simp [World.setCell]) fun b hb' => Below.heap_setCell w p u b (by rcases hb' with h | h <;> omega)
theorem RB.grown {Bd : Nat} {w w' : World} {g : Nat} {l : List UInt8} {s : Bool} {row : Option Nat} (h : RB Bd w g l s) (hg : w.grownBy w' row) (hr : ∀ k, row = some k → Bd ≤ k ∧ k ≠ g) : RB Bd w' g l s := by
 have hlt := h.lt
 have hBd : Bd ≤ w.heap.size := by obtain ⟨_, _, _, _, ⟨_, h⟩, _⟩ := h; exact h
 exact h.keep hg.size fun b hb' => hg.block b (by rcases hb' with h | h <;> omega) (fun e => by have := hr b e.symm; rcases hb' with h | h <;> omega)
theorem RB.rd {Bd : Nat} {w : World} {g : Nat} {l : List UInt8} {s : Bool} (h : RB Bd w g l s) : RD w g l s := by
 obtain ⟨A, n, c, hb, ⟨hnc, hBd⟩, hbs⟩ := h
 exact ⟨A, n, c, hb, hnc, hbs.more hBd⟩
set_option maxHeartbeats 1000000 in
set_option maxRecDepth 100000 in
theorem rbNew (A : Option Addr) (n c : Nat) (l : List UInt8) (w : World) (h : BS w w.heap.size A n l) (hl : n ≤ 140737488355320) :
  Calls Tryz.prog 86 #[.slice A n c] w fun en w' => ∃ g, en = .returned (.pointer (some ⟨g, 0, none⟩)) ∧ w.heap.size ≤ g ∧ RB w'.heap.size w' g l false ∧ Below w.heap.size w w' := by
 have hl2 := h.len
 go_enter Tryz.func86, Tryz.ntmps86
 go_wp2_with (at_builtin; refine wpl_app rfl (.const (.slice none 0 0)) (.tmp 3) _ rfl 5 Tryz.underlying38 u8info w.heap.size none 0 0 [] rfl OB.nil_ w.heap.size A n c l rfl h (by simp; omega) (Nat.le_refl _) ?_; intro A0 n0 c0 w0 o0 b0 g0; rw [List.nil_append] at o0)
 go_ret
 exact ⟨_, rfl, b0.size, ⟨A0, n0, c0, Blk.new _ _ _, ⟨o0.cap, Nat.le_refl _⟩, (o0.alloc _).bs⟩, b0.alloc b0.size _⟩
set_option maxHeartbeats 1000000 in
set_option maxRecDepth 100000 in
theorem rbTake_was {Bd : Nat} (g : Nat) (l : List UInt8) (k : Int) (w : World) (h : RB Bd w g l true) :
  Calls Tryz.prog 87 #[.pointer (some ⟨g, 0, none⟩), .int .i64 k] w (TkPost (fun w' => RB Bd w' g) g w l true k) := by
 have h' := h
 obtain ⟨A, n, c, hb, ⟨hnc, hBd⟩, hbs⟩ := h
 have hc1 := hb.cell 1
 go_enter Tryz.func87, Tryz.ntmps87
 go_wp2_with fail
 go_ret
 refine ⟨none, 0, 0, rfl, by simpa [tkOut] using OB.nil_, ?_, World.grownBy.refl w _⟩
 simpa [tkLeft, tkShort] using h'
set_option maxHeartbeats 1000000 in
set_option maxRecDepth 100000 in
theorem rbTake_short {Bd : Nat} (g : Nat) (l : List UInt8) (k : Int) (w : World) (h : RB Bd w g l false) (hk : k < 0 ∨ (l.length : Int) < k) :
  Calls Tryz.prog 87 #[.pointer (some ⟨g, 0, none⟩), .int .i64 k] w (TkPost (fun w' => RB Bd w' g) g w l false k) := by
 obtain ⟨A, n, c, hb, ⟨hnc, hBd⟩, hbs⟩ := h
 have hc0 := hb.cell 0
 have hc1 := hb.cell 1
 have hf1 := hb.frozen 1
 have hn := hbs.len
 have HE := Lib.hid (show TkPost (fun w' => RB Bd w' g) g w l false k (.returned (.slice none 0 0)) (w.setCell ⟨g, 1, none⟩ (.bool true)) from by
  have hor : false = true ∨ k < 0 ∨ (l.length : Int) < k := .inr hk
  refine ⟨none, 0, 0, rfl, by simpa [tkOut, hk] using OB.nil_, ?_, only_setCell (World.grownBy.refl w _) (.inl rfl) _⟩
  have hg := only_setCell (World.grownBy.refl w (some g)) (p := ⟨g, 1, none⟩) (.inl rfl) (.bool true)
  refine ⟨A, n, c, ?_, ⟨hnc, by simpa [World.setCell] using hBd⟩, ?_⟩
  ·have := hb.set_ 1 (.bool true)
   simpa [tkShort, hk] using this
  ·rw [tkLeft, if_pos hor]
   exact hbs.grownAtB hBd hg (hbs.apart hb rd_no))
 by_cases hk0 : k < 0
 ·go_enter Tryz.func87, Tryz.ntmps87
  go_wp2_with fail
  go_ret
  exact HE.out
 ·have hk1 : (n : Int) < k := by omega
  go_enter Tryz.func87, Tryz.ntmps87
  go_wp2_with fail
  go_ret
  exact HE.out
set_option maxHeartbeats 1000000 in
set_option maxRecDepth 100000 in
theorem rbTake_ok {Bd : Nat} (g : Nat) (l : List UInt8) (k : Nat) (w : World) (h : RB Bd w g l false) (hk : k ≤ l.length) (hl : l.length ≤ 140737488355320) :
  Calls Tryz.prog 87 #[.pointer (some ⟨g, 0, none⟩), .int .i64 k] w (TkPost (fun w' => RB Bd w' g) g w l false k) := by
 obtain ⟨A, n, c, hb, ⟨hnc, hBd⟩, hbs⟩ := h
 have hc0 := hb.cell 0
 have hc1 := hb.cell 1
 have hf0 := hb.frozen 0
 have hn := hbs.len
 have hkn : k ≤ n := by omega
 have hkc : k ≤ c := by omega
 have hki : (k : Int) ≤ n := by omega
 have hk0 : (0 : Int) ≤ k := by omega
 have HE := Lib.hid (show ∀ (A0 : Option Addr) (n0 c0 : Nat) (w0 : World) (A' : Option Addr) (n' c' : Nat), OB w0 5 w.heap.size A0 n0 c0 (l.take k) → Below w.heap.size w w0 → A' = (if c = k then A else A.map (·.add k)) → n' = n - k → c' = c - k →
   TkPost (fun w' => RB Bd w' g) g w l false k (.returned (.slice A0 n0 c0)) (w0.setCell ⟨g, 0, none⟩ (.slice A' n' c')) from by
  rintro A0 n0 c0 w0 A' n' c' o0 b0 rfl rfl rfl
  have hor : ¬ (false = true ∨ (k : Int) < 0 ∨ (l.length : Int) < k) := by simp; omega
  have hb0 := hb.below b0 hb.lt
  have hbs0 := hbs.below (b0.mono hBd)
  have hBd0 := Nat.le_trans hBd b0.size
  have hg0 := World.grownBy.refl w0 (some g)
  have hg1 := only_setCell hg0 (p := ⟨g, 0, none⟩) (.inl rfl) (.slice (if c = k then A else A.map (·.add k)) (n - k) (c - k))
  refine ⟨A0, n0, c0, rfl, ?_, ?_, only_setCell (only_of_below b0 _) (.inl rfl) _⟩
  ·rw [tkOut, if_neg hor, Int.toNat_natCast]
   exact o0.grownAt hg1 hb.lt
  ·refine ⟨(if c = k then A else A.map (·.add k)), n - k, c - k, ?_, ⟨by omega, by simpa [World.setCell] using hBd0⟩, ?_⟩
   ·have := hb0.set_ 0 (.slice (if c = k then A else A.map (·.add k)) (n - k) (c - k))
    rw [tkShort, decide_eq_false hor]
    simpa using this
   ·rw [tkLeft, if_neg hor, Int.toNat_natCast]
    exact (hbs0.grownAtB hBd0 hg1 (hbs0.apart hb0 rd_no)).drop_ hkn hnc)
 go_enter Tryz.func87, Tryz.ntmps87
 go_wp2_with (at_builtin; refine wpl_app rfl (.const (.slice none 0 0)) (.tmp 33) _ rfl 5 Tryz.underlying38 u8info w.heap.size none 0 0 [] rfl OB.nil_ w.heap.size A k c (l.take k) (by rfl) ((hbs.more hBd).take_ hkn) (by simp; omega) (Nat.le_refl _) ?_; intro A0 n0 c0 w0 o0 b0 g0; rw [List.nil_append] at o0; have hb0 := hb.below b0 hb.lt; have hc00 := hb0.cell 0; have hf00 := hb0.frozen 0)
 all_goals
  try go_ret
 all_goals
  refine HE.out A0 n0 c0 w0 _ _ _ o0 b0 ?_ ?_ ?_
  ·first | (rw [if_pos rfl]) | (rw [if_neg (by assumption)]) | (rw [if_pos (by assumption)])
  ·omega
  ·omega
theorem rbTake {Bd : Nat} (g : Nat) (l : List UInt8) (s : Bool) (k : Int) (w : World) (h : RB Bd w g l s) (hl : l.length ≤ 140737488355320) :
  Calls Tryz.prog 87 #[.pointer (some ⟨g, 0, none⟩), .int .i64 k] w (TkPost (fun w' => RB Bd w' g) g w l s k) := by
 cases s
 ·by_cases hk : k < 0 ∨ (l.length : Int) < k
  ·exact rbTake_short g l k w h hk
  ·obtain ⟨m, rfl⟩ := Int.eq_ofNat_of_zero_le (show 0 ≤ k by omega)
   exact rbTake_ok g l m w h (by omega) hl
 ·exact rbTake_was g l k w h
set_option maxHeartbeats 1000000 in
set_option maxRecDepth 100000 in
theorem rbNumber {Bd : Nat} (g : Nat) (l : List UInt8) (s : Bool) (k : Nat) (w : World) (h : RB Bd w g l s) (hl : l.length ≤ 140737488355320) (hk : k ≤ 4) :
  Calls Tryz.prog 142 #[.pointer (some ⟨g, 0, none⟩), .int .i64 k] w fun en w' => en = .returned (.int .u32 (numL (tkOut l s k))) ∧ RB Bd w' g (tkLeft l s k) (tkShort l s k) ∧ w.grownBy w' (some g) := by
 have hL := tkOut_len l s k
 go_enter Tryz.func142, Tryz.ntmps142
 go_wp2_with fail
 refine (rbTake g l s k _ h hl).mono ?_
 rintro _ w1 ⟨A1, n1, c1, rfl, o1, r1, g1⟩
 obtain ⟨L, HL⟩ : ∃ L, tkOut l s k = L := ⟨_, rfl⟩
 rw [HL] at o1 hL
 have HL' := Lib.hid HL
 clear HL
 have hn1 := o1.1
 go_wp2_with fail
 go_loop [5, 12] (fun x i => ∃ j : Nat, j ≤ n1 ∧ x = .int .u32 (numL (L.take j)) ∧ i = .int .i64 j) (fun _ i => n1 - (intOf i).toNat)
 case atStart => exact ⟨0, by omega, rfl, rfl⟩
 case round =>
  obtain ⟨j, hj, rfl, rfl⟩ := hrel
  by_cases hlt : j < n1
  ·obtain ⟨b, off, rfl, hbw, hcw⟩ := o1.bs.form hlt
   have hs := numL_succ L j (by omega)
   have hb := numL_lt L j (by omega)
   have hv := lb_lt L j
   have hpow : 256 ^ j ≤ 256 ^ 3 := Nat.pow_le_pow_right (by omega) (by omega)
   obtain ⟨v, hvv⟩ : ∃ v, lb L j = v := ⟨_, rfl⟩
   obtain ⟨x, hxx⟩ : ∃ x, numL (L.take j) = x := ⟨_, rfl⟩
   rw [hvv] at hcw hv hs
   rw [hxx] at hb hs
   go_wp2_with fail
   go_round
   case rel =>
    refine ⟨j + 1, by omega, ?_, by go_num⟩
    have hx : x < 16777216 := by
     have : (256 : Nat) ^ 3 = 16777216 := by decide
     omega
    rw [hs, u32_or8 x v hx hv]
   case measure => simp [intOf]; omega
  ·have hj' : j = n1 := by omega
   go_wp2_with fail
   go_ret
   refine ⟨?_, r1, g1⟩
   rw [HL'.out]
   rfl
set_option maxHeartbeats 1000000 in
set_option maxRecDepth 100000 in
theorem rbByte {Bd : Nat} (g : Nat) (l : List UInt8) (s : Bool) (w : World) (h : RB Bd w g l s) (hl : l.length ≤ 140737488355320) :
  Calls Tryz.prog 175 #[.pointer (some ⟨g, 0, none⟩)] w fun en w' => en = .returned (.int .i64 (numL (tkOut l s (1 : Nat)))) ∧ RB Bd w' g (tkLeft l s (1 : Nat)) (tkShort l s (1 : Nat)) ∧ w.grownBy w' (some g) := by
 have hN := tkOut_num l s 1
 obtain ⟨N, hNN⟩ : ∃ N, numL (tkOut l s (1 : Nat)) = N := ⟨_, rfl⟩
 rw [hNN] at hN
 have HN := Lib.hid hNN
 clear hNN
 go_enter Tryz.func175, Tryz.ntmps175
 go_wp2_with fail
 refine (rbNumber g l s 1 _ h hl (by omega)).mono ?_
 rw [HN.out]
 rintro _ w1 ⟨rfl, r1, g1⟩
 go_wp2_with fail
 go_ret
 exact ⟨by rw [HN.out]; rfl, r1, g1⟩
set_option maxHeartbeats 1000000 in
set_option maxRecDepth 100000 in
theorem rbU16 {Bd : Nat} (g : Nat) (l : List UInt8) (s : Bool) (w : World) (h : RB Bd w g l s) (hl : l.length ≤ 140737488355320) :
  Calls Tryz.prog 88 #[.pointer (some ⟨g, 0, none⟩)] w fun en w' => en = .returned (.int .i64 (numL (tkOut l s (2 : Nat)))) ∧ RB Bd w' g (tkLeft l s (2 : Nat)) (tkShort l s (2 : Nat)) ∧ w.grownBy w' (some g) := by
 have hN := tkOut_num l s 2
 obtain ⟨N, hNN⟩ : ∃ N, numL (tkOut l s (2 : Nat)) = N := ⟨_, rfl⟩
 rw [hNN] at hN
 have HN := Lib.hid hNN
 clear hNN
 go_enter Tryz.func88, Tryz.ntmps88
 go_wp2_with fail
 refine (rbNumber g l s 2 _ h hl (by omega)).mono ?_
 rw [HN.out]
 rintro _ w1 ⟨rfl, r1, g1⟩
 go_wp2_with fail
 go_ret
 exact ⟨by rw [HN.out]; rfl, r1, g1⟩
set_option maxHeartbeats 1000000 in
set_option maxRecDepth 100000 in
theorem rbU32 {Bd : Nat} (g : Nat) (l : List UInt8) (s : Bool) (w : World) (h : RB Bd w g l s) (hl : l.length ≤ 140737488355320) :
  Calls Tryz.prog 176 #[.pointer (some ⟨g, 0, none⟩)] w fun en w' => en = .returned (.int .u32 (numL (tkOut l s (4 : Nat)))) ∧ RB Bd w' g (tkLeft l s (4 : Nat)) (tkShort l s (4 : Nat)) ∧ w.grownBy w' (some g) := by
 have hN := tkOut_num l s 4
 obtain ⟨N, hNN⟩ : ∃ N, numL (tkOut l s (4 : Nat)) = N := ⟨_, rfl⟩
 rw [hNN] at hN
 have HN := Lib.hid hNN
 clear hNN
 go_enter Tryz.func176, Tryz.ntmps176
 go_wp2_with fail
 refine (rbNumber g l s 4 _ h hl (by omega)).mono ?_
 rw [HN.out]
 rintro _ w1 ⟨rfl, r1, g1⟩
 go_wp2_with fail
 go_ret
 exact ⟨by rw [HN.out]; rfl, r1, g1⟩
theorem rbLeft {Bd : Nat} (g : Nat) (l : List UInt8) (s : Bool) (w : World) (h : RB Bd w g l s) :
  Calls Tryz.prog 93 #[.pointer (some ⟨g, 0, none⟩)] w fun en w' => en = .returned (.int .i64 (if s then 0 else l.length : Nat)) ∧ w = w' := readerLeft g l s w h.rd
theorem rbErr {Bd : Nat} (g : Nat) (l : List UInt8) (s : Bool) (w : World) (h : RB Bd w g l s) :
  Calls Tryz.prog 89 #[.pointer (some ⟨g, 0, none⟩)] w fun en w' => en = .returned (.int .i64 (if s then 3 else 0 : Nat)) ∧ w = w' := readerErr g l s w h.rd
/-- A document's reader; its bytes lie below Bd. -/
def RY (Bd : Nat) (w : World) (g : Nat) (l : List UInt8) (s : Bool) : Prop := ∃ (A : Option Addr) (n c a : Nat) (F : List UInt8), Blk w g 257 #[.slice A n c, .int .i64 a, .bool s] ∧ (a ≤ n ∧ Bd ≤ w.heap.size) ∧ BS w Bd A n F ∧ n ≤ 100000 ∧ l = F.drop a
theorem RY.lt {Bd : Nat} {w : World} {g : Nat} {l : List UInt8} {s : Bool} (h : RY Bd w g l s) : g < w.heap.size := by
 obtain ⟨_, _, _, _, _, hb, _⟩ := h; exact hb.lt
theorem RY.short {Bd : Nat} {w : World} {g : Nat} {l : List UInt8} {s : Bool} (h : RY Bd w g l s) : w.cell? ⟨g, 2, none⟩ = some (.bool s) := by
 obtain ⟨_, _, _, _, _, hb, _⟩ := h; exact hb.cell 2
theorem RY.blk {Bd : Nat} {w : World} {g : Nat} {l : List UInt8} {s : Bool} (h : RY Bd w g l s) : ∃ cs, Blk w g 257 cs := by
 obtain ⟨_, _, _, _, _, hb, _⟩ := h; exact ⟨_, hb⟩
theorem RY.keep {Bd : Nat} {w w' : World} {g : Nat} {l : List UInt8} {s : Bool} (h : RY Bd w g l s) (hz : w.heap.size ≤ w'.heap.size) (hk : ∀ b, b < Bd ∨ b = g → w'.heap[b]? = w.heap[b]?) : RY Bd w' g l s := by
 obtain ⟨A, n, c, a, F, hb, ⟨hnc, hBd⟩, hbs, r⟩ := h
 exact ⟨A, n, c, a, F, (hk g (.inr rfl)).trans hb, ⟨hnc, Nat.le_trans hBd hz⟩, ⟨hbs.1, hbs.2.keep fun p hp => World.cell?_of_block (hk p.block (.inl hp))⟩, r⟩
theorem RY.below {Bd B : Nat} {w w' : World} {g : Nat} {l : List UInt8} {s : Bool} (h : RY Bd w g l s) (hb : Below B w w') (hB : Bd ≤ B) (hg : g < B) : RY Bd w' g l s :=
 h.keep hb.size fun b hb' => hb.block b (by rcases hb' with h | h <;> omega)
theorem RY.setCell {Bd : Nat} {w : World} {g : Nat} {l : List UInt8} {s : Bool} (h : RY Bd w g l s) {p : Addr} (hp : Bd ≤ p.block) (hne : p.block ≠ g) (u : Value) : RY Bd (w.setCell p u) g l s :=
 h.keep (by simp [World.setCell]) fun b hb' => Below.heap_setCell w p u b (by rcases hb' with h | h <;> omega)
theorem RY.grown {Bd : Nat} {w w' : World} {g : Nat} {l : List UInt8} {s : Bool} {row : Option Nat} (h : RY Bd w g l s) (hg : w.grownBy w' row) (hr : ∀ k, row = some k → Bd ≤ k ∧ k ≠ g) : RY Bd w' g l s := by
 have hlt := h.lt
 have hBd : Bd ≤ w.heap.size := by obtain ⟨_, _, _, _, _, _, ⟨_, h⟩, _⟩ := h; exact h
 exact h.keep hg.size fun b hb' => hg.block b (by rcases hb' with h | h <;> omega) (fun e => by have := hr b e.symm; rcases hb' with h | h <;> omega)
theorem RY.rx {Bd : Nat} {w : World} {g : Nat} {l : List UInt8} {s : Bool} (h : RY Bd w g l s) : RX w g l s := by
 obtain ⟨A, n, c, a, F, hb, ⟨hnc, hBd⟩, hbs, r⟩ := h
 exact ⟨A, n, c, a, F, hb, hnc, hbs.more hBd, r⟩
theorem RD.beside {w w' : World} {g g' : Nat} {l l' : List UInt8} {s s' : Bool} (h : RD w g l s) (hx : RX w g' l' s') (hg : w.grownBy w' (some g')) : RD w' g l s := by
 obtain ⟨A, n, c, h1, h2, h3⟩ := h
 obtain ⟨A', n', c', a', F', k1, _⟩ := hx
 have hne : g ≠ g' := h1.ne_ k1 (by decide)
 exact ⟨A, n, c, h1.grown hg (by simpa using hne), h2, h3.grownAt hg (h3.apart k1 rx_no)⟩
theorem RX.beside {w w' : World} {g g' : Nat} {l l' : List UInt8} {s s' : Bool} (hx : RX w g' l' s') (h : RD w g l s) (hg : w.grownBy w' (some g)) : RX w' g' l' s' := by
 obtain ⟨A, n, c, h1, h2, h3⟩ := h
 obtain ⟨A', n', c', a', F', k1, k2, k3, k4, k5⟩ := hx
 have hne : g' ≠ g := k1.ne_ h1 (by decide)
 exact ⟨A', n', c', a', F', k1.grown hg (by simpa using hne), k2, k3.grownAt hg (k3.apart h1 rd_no), k4, k5⟩
theorem tk_ok {l : List UInt8} {k : Nat} (h : k ≤ l.length) : tkOut l false k = l.take k ∧ tkLeft l false k = l.drop k ∧ tkShort l false k = false := by
 have hor : ¬ (false = true ∨ (k : Int) < 0 ∨ (l.length : Int) < k) := by simp; omega
 exact ⟨by rw [tkOut, if_neg hor, Int.toNat_natCast], by rw [tkLeft, if_neg hor, Int.toNat_natCast], by rw [tkShort, decide_eq_false hor]⟩
theorem tkLeft_len (l : List UInt8) (s : Bool) (k : Int) : (tkLeft l s k).length ≤ l.length := by
 unfold tkLeft
 split
 ·exact Nat.le_refl _
 ·simp
theorem numL_cons (b : UInt8) (l : List UInt8) : numL (b :: l) = b.toNat * 256 ^ l.length + numL l := by
 have key : ∀ (l : List UInt8) (x : Nat), l.foldl (fun x b => 256 * x + b.toNat) x = x * 256 ^ l.length + numL l := by
  intro l
  induction l with
  | nil => intro x; simp [numL]
  | cons c l ih =>
   intro x
   have e : numL (c :: l) = (256 * 0 + c.toNat) * 256 ^ l.length + numL l := by rw [numL, List.foldl_cons, ih]
   rw [List.foldl_cons, ih, e]
   simp only [List.length_cons, Nat.pow_succ, Nat.mul_zero, Nat.zero_add]
   rw [Nat.add_mul, Nat.mul_comm 256 x, Nat.mul_assoc, Nat.mul_comm 256 (256 ^ l.length), Nat.add_assoc]
 rw [numL, List.foldl_cons, key]
 simp
theorem ub_nat {e : Int} (h0 : 0 ≤ e) (h1 : e ≤ 255) : (ub e).toNat = e.toNat := by
 have := ub_toNat h0 h1
 omega
theorem numL_b16 {m : Int} (h0 : 0 ≤ m) (h1 : m < 65536) : (numL (b16 m) : Int) = m := by
 have e1 := ub_nat (e := m % 65536 / 256) (by omega) (by omega)
 have e2 := ub_nat (e := m % 256) (by omega) (by omega)
 simp only [b16, numL_cons, e1, e2, List.length_cons, List.length_nil]
 simp [numL]
 omega
theorem numL_b32 {m : Int} (h0 : 0 ≤ m) (h1 : m < 4294967296) : (numL (b32 m) : Int) = m := by
 have e1 := ub_nat (e := m / 16777216) (by omega) (by omega)
 have e2 := ub_nat (e := m / 65536 % 256) (by omega) (by omega)
 have e3 := ub_nat (e := m / 256 % 256) (by omega) (by omega)
 have e4 := ub_nat (e := m % 256) (by omega) (by omega)
 simp only [b32, numL_cons, e1, e2, e3, e4, List.length_cons, List.length_nil]
 simp [numL]
 omega
set_option linter.unusedSimpArgs false
set_option linter.unusedVariables false
/-- So many numbers of sz bytes each, and what stands behind them. -/
def numsO (sz : Nat) : Nat → List UInt8 → Option (List Int × List UInt8)
 | 0, t => some ([], t)
 | n + 1, t => if t.length < sz then none else (numsO sz n (t.drop sz)).map fun p => ((numL (t.take sz) : Int) :: p.1, p.2)
/-- One part, and what stands behind it. -/
def oneO (sz : Nat) : List UInt8 → Option (Seg × List UInt8)
 | k :: c :: t => (numsO sz c.toNat t).map fun p => (((k.toNat : Int), p.1), p.2)
 | _ => none
def segsO (sz : Nat) : Nat → List UInt8 → Option (List Seg)
 | 0, _ => some []
 | _ + 1, [] => some []
 | f + 1, l@(_ :: _) => match oneO sz l with
  | none => none
  | some (x, t) => (segsO sz f t).map (x :: ·)
def szA (wide : Bool) : Nat := if wide then 4 else 2
/-- The path that bytes say. -/
def readA (wide : Bool) (l : List UInt8) : Option (List Seg) :=
 match segsO (szA wide) 9 l with
 | some M => if rightA M = true then some M else none
 | none => none
/-- What a round over numbers keeps: t0 stood there at first. -/
def InvN (sz C : Nat) (t0 : List UInt8) (s0 : Bool) (acc : List Int) (m : Nat) (t : List UInt8) (s : Bool) : Prop :=
 acc.length + m = C ∧ t.length ≤ t0.length ∧ (s = false → s0 = false ∧ numsO sz C t0 = (numsO sz m t).map fun p => (acc ++ p.1, p.2)) ∧ (s = true → s0 = true ∨ numsO sz C t0 = none)
theorem InvN.start (sz C : Nat) (t0 : List UInt8) (s0 : Bool) : InvN sz C t0 s0 [] C t0 s0 := by
 refine ⟨by simp, Nat.le_refl _, fun h => ⟨h, ?_⟩, fun h => .inl h⟩
 cases numsO sz C t0 <;> simp
theorem tk_no {l : List UInt8} {k : Nat} (h : l.length < k) : tkShort l false k = true ∧ tkLeft l false k = l ∧ tkOut l false k = [] := by
 have hor : false = true ∨ (k : Int) < 0 ∨ (l.length : Int) < k := .inr (.inr (by omega))
 exact ⟨by rw [tkShort, decide_eq_true hor], by rw [tkLeft, if_pos hor], by rw [tkOut, if_pos hor]⟩
theorem InvN.step {sz C m : Nat} {t0 t : List UInt8} {s0 : Bool} {acc : List Int} (h : InvN sz C t0 s0 acc (m + 1) t false) :
  InvN sz C t0 s0 (acc ++ [(numL (tkOut t false sz) : Int)]) m (tkLeft t false sz) (tkShort t false sz) := by
 obtain ⟨h1, h2, h3, _⟩ := h
 obtain ⟨h3, h4⟩ := h3 rfl
 by_cases hl : t.length < sz
 ·obtain ⟨e1, e2, e3⟩ := tk_no hl
  rw [e1, e2, e3]
  refine ⟨by simp; omega, h2, fun h => (by cases h), fun _ => .inr ?_⟩
  rw [h4, numsO, if_pos hl]; rfl
 ·obtain ⟨e1, e2, e3⟩ := tk_ok (l := t) (k := sz) (by omega)
  rw [e1, e2, e3]
  refine ⟨by simp; omega, by rw [List.length_drop]; omega, fun _ => ⟨h3, ?_⟩, fun h => (by cases h)⟩
  rw [h4, numsO, if_neg hl, Option.map_map]
  congr 1
  funext p
  simp
theorem InvN.done {sz C : Nat} {t0 t : List UInt8} {s0 : Bool} {acc : List Int} (h : InvN sz C t0 s0 acc 0 t false) : numsO sz C t0 = some (acc, t) := by
 rw [(h.2.2.1 rfl).2, numsO]
 simp
/-- What a round over parts keeps. -/
def InvO (sz : Nat) (l0 : List UInt8) (M : List Seg) (f : Nat) (t : List UInt8) (s : Bool) : Prop :=
 M.length + f = 9 ∧ t.length ≤ l0.length ∧ sumN M ≤ 255 * M.length ∧ (s = false → segsO sz 9 l0 = (segsO sz f t).map (M ++ ·)) ∧ (s = true → segsO sz 9 l0 = none)
theorem InvO.start (sz : Nat) (l0 : List UInt8) : InvO sz l0 [] 9 l0 false := by
 refine ⟨rfl, Nat.le_refl _, Nat.le_refl _, fun _ => ?_, fun h => (by cases h)⟩
 cases segsO sz 9 l0 <;> simp
theorem InvO.step {sz f m K C : Nat} {l0 t t1 t2 t3 : List UInt8} {s1 s2 s3 : Bool} {M : List Seg} {acc : List Int} (h : InvO sz l0 M (f + 1) t false) (hne : t ≠ [])
  (e1 : numL (tkOut t false (1 : Nat)) = K ∧ tkLeft t false (1 : Nat) = t1 ∧ tkShort t false (1 : Nat) = s1) (e2 : numL (tkOut t1 s1 (1 : Nat)) = C ∧ tkLeft t1 s1 (1 : Nat) = t2 ∧ tkShort t1 s1 (1 : Nat) = s2)
  (hi : InvN sz C t2 s2 acc m t3 s3) (hd : s3 = true ∨ m = 0) : InvO sz l0 (M ++ [((K : Int), acc)]) f t3 s3 := by
 obtain ⟨h1, h2, h3, h4, _⟩ := h
 have h4 := h4 rfl
 obtain ⟨k, r, rfl⟩ : ∃ k r, t = k :: r := by
  cases t with
  | nil => exact absurd rfl hne
  | cons k r => exact ⟨k, r, rfl⟩
 have T1 := tk_ok (l := k :: r) (k := 1) (by simp)
 rw [T1.1, T1.2.1, T1.2.2] at e1
 obtain ⟨eK0, et1, es1⟩ := e1
 have et1 : r = t1 := et1
 subst et1 es1
 have eK : k.toNat = K := by rw [← eK0]; simp [numL]
 clear eK0
 have hC : C ≤ 255 := by
  rw [← e2.1]
  have := tkOut_num r false 1
  omega
 have hacc : acc.length ≤ 255 := by have := hi.1; omega
 have hs : sumN (M ++ [((K : Int), acc)]) ≤ 255 * (M ++ [((K : Int), acc)]).length := by
  rw [sumN_app, List.length_append]; simp [sumN]; omega
 have hl2 : t2.length ≤ r.length := by rw [← e2.2.1]; exact tkLeft_len _ _ _
 have hlen : t3.length ≤ l0.length := by have := hi.2.1; simp at h2; omega
 refine ⟨by simp; omega, hlen, hs, fun h0 => ?_, fun h0 => ?_⟩
 ·subst h0
  have hm : m = 0 := by rcases hd with h | h; cases h; exact h
  subst hm
  have hdn := hi.done
  have hs2 : s2 = false := (hi.2.2.1 rfl).1
  subst hs2
  cases r with
  | nil => exact absurd e2.2.2 (by decide)
  | cons c r2 =>
   have T2 := tk_ok (l := c :: r2) (k := 1) (by simp)
   rw [T2.1, T2.2.1] at e2
   have eC : c.toNat = C := by rw [← e2.1]; simp [numL]
   have et2 : r2 = t2 := e2.2.1
   subst et2 eC eK
   have ho : oneO sz (k :: c :: r2) = some (((k.toNat : Int), acc), t3) := by rw [oneO, hdn]; rfl
   rw [h4, segsO, ho]
   simp only [Option.map_map]
   congr 1
   funext p
   simp
 ·subst h0
  have hO : oneO sz (k :: r) = none := by
   cases r with
   | nil => rfl
   | cons c r2 =>
    have T2 := tk_ok (l := c :: r2) (k := 1) (by simp)
    rw [T2.1, T2.2.1, T2.2.2] at e2
    have eC : c.toNat = C := by rw [← e2.1]; simp [numL]
    have et2 : r2 = t2 := e2.2.1
    subst et2 eC
    rcases hi.2.2.2 rfl with h | h
    ·rw [← e2.2.2] at h; cases h
    ·rw [oneO, h]; rfl
  rw [h4, segsO, hO]
  rfl
theorem InvO.bad {wide : Bool} {l0 t : List UInt8} {M : List Seg} {f : Nat} (h : InvO (szA wide) l0 M f t true) : readA wide l0 = none := by
 unfold readA
 rw [h.2.2.2.2 rfl]
theorem segsO_nil (sz f : Nat) : segsO sz f [] = some [] := by cases f <;> rfl
theorem InvO.good {wide : Bool} {l0 t : List UInt8} {M : List Seg} {f : Nat} (h : InvO (szA wide) l0 M f t false) (hd : t = [] ∨ f = 0) : readA wide l0 = if rightA M = true then some M else none := by
 have e : segsO (szA wide) f t = some [] := by
  rcases hd with rfl | rfl
  ·exact segsO_nil _ _
  ·rfl
 unfold readA
 rw [h.2.2.2.1 rfl, e]
 simp
theorem InvO.none_ {wide : Bool} {l0 t : List UInt8} {M : List Seg} {s : Bool} {f : Nat} (h : InvO (szA wide) l0 M f t s) (hd : s = true ∨ t = [] ∨ f = 0) (hr : rightA M = false) : readA wide l0 = none := by
 cases s
 ·rw [h.good (by rcases hd with h | h; cases h; exact h), hr]; rfl
 ·exact h.bad
def normStep (out : List Seg) (s : Seg) : List Seg := if s.1 = 2 ∧ out.getLast?.map (·.1) = some 2 then out.dropLast ++ [(2, (out.getLast?.map (·.2)).getD [] ++ s.2)] else out ++ [s]
def normA (l : List Seg) : List Seg := l.foldl normStep []
/-- Parts more, their numbers apart from all others. -/
theorem OP.pushAll {w w' : World} {base n m c c' : Nat} {A A' : Option Addr} {L M : List (Seg × Hd)} (h : OP w base A n c L) (hm : m = M.length) (hM : ∀ y ∈ M, OU w base y.2.1 y.2.2.1 y.2.2.2 y.1.2) (hp : M.Pairwise Apt) (ha : ∀ z ∈ L, ∀ y ∈ M, Apt z y) (ho : w'.ownsRow base 229 2 (.slice A' (n + m) c') (n + m) (segsC L ++ segsC M)) (hg : w.grownBy w' (Value.ownBlock (.slice A n c))) : OP w' base A' (n + m) c' (L ++ M) := by
 refine ⟨by rw [List.length_append, h.1, hm], by rw [segsC_app]; exact ho, fun z hz => ?_, List.pairwise_append.2 ⟨h.2.2.2, hp, ha⟩⟩
 have key : OU w base z.2.1 z.2.2.1 z.2.2.2 z.1.2 := by
  rcases List.mem_append.1 hz with hz | hz
  ·exact h.2.2.1 z hz
  ·exact hM z hz
 exact ⟨key.1, own_own key.2.1 h.2.1 (by decide) hg, key.2.2⟩
theorem OP.reads {w : World} {base n c : Nat} {A : Option Addr} {L : List (Seg × Hd)} (h : OP w base A n c L) : Reads w w.heap.size 2 A n (segsC L) := Reads.of_own h.2.1
theorem segsC_one1 {L : List (Seg × Hd)} : ∀ u ∈ segsC L, u.oneCell' = true := by
 intro u hu
 obtain ⟨y, _, hy⟩ := List.mem_flatMap.1 hu
 simp [segC] at hy
 rcases hy with rfl | rfl <;> rfl
theorem OP.one {w : World} {base : Nat} {x : Seg} {p : Hd} (hp : OU w base p.1 p.2.1 p.2.2 x.2) (hb : base ≤ w.heap.size) {g : Nat} (hg : g = w.heap.size) : OP (w.alloc (.cells #[.int .i64 x.1, p.v] 229)) base (some ⟨g, 0, none⟩) 1 1 [(x, p)] := by
 subst hg
 refine ⟨rfl, ?_, fun y hy => by simp at hy; subst hy; exact hp.alloc _, List.pairwise_singleton _ _⟩
 have := World.ownsRow_lit (e := 229) (size := 2) w #[.int .i64 x.1, p.v] 1 hb (by unfold maxLen; omega) rfl
 exact this
set_option maxHeartbeats 4000000 in
set_option maxRecDepth 100000 in
theorem copiedOne (k : Int) (A : Option Addr) (n c : Nat) (zs : List Int) (w : World) (h : NS .u32 w w.heap.size A n zs) (hn : Hid (n ≤ 35184372088832)) :
  Calls Tryz.prog 251 #[.agg #[.int .i64 k, .slice A n c]] w (RetP w [(k, zs)]) := by
 obtain ⟨w1, hw1, hX, b1⟩ := box1c w #[.int .i64 k, .slice A n c] 229
 have hXl := hX.lt
 have hXd : Blk w1.drew w.heap.size 229 #[.int .i64 k, .slice A n c] := hX
 have ns1 : NS .u32 w1.drew w1.drew.heap.size A n zs := (h.below b1).more b1.size
 have hsz1 : w.heap.size ≤ w1.drew.heap.size := b1.size
 go_enter Tryz.func251, Tryz.ntmps251
 go_upto_region 1 with fail
 try rw [hw1]
 clear hw1
 obtain ⟨gx, hgx⟩ : ∃ gx, w.heap.size = gx := ⟨_, rfl⟩
 have HGX := Lib.hid hgx
 rw [hgx] at hX hXd hXl
 try rw [hgx]
 clear hgx
 have hXl1 : gx < w1.drew.heap.size := hXl
 rename_i hk
 have HKK := Lib.hid hk
 clear hk
 refine wp_region_held_drew (S := (fun w' => w'.cell? ⟨gx, 0, none⟩ = some (.int .i64 k) ∧ w'.cell? ⟨gx, 1, none⟩ = some (.slice A n c))) (by kernel_rfl) ?_ (fun hHeld => ?_)
 ·first | exact ⟨hXd.cell 0, hXd.cell 1⟩ | exact ⟨hX2.cell 0, hX2.cell 1⟩ | exact ⟨hX3.cell 0, hX3.cell 1⟩
 refine tkh 0 (h := ?_)
 try simp only [Act.put, q1, q2, q3, q4, q5, q6]
 refine tkh 1 (h := ?_)
 try simp only [Act.put, q1, q2, q3, q4, q5, q6]
 refine tkh 2 (h := ?_)
 try simp only [Act.put, q1, q2, q3, q4, q5, q6]
 refine tkh 3 (h := ?_)
 try simp only [Act.put, q1, q2, q3, q4, q5, q6]
 refine tkr 4 fun K hK => ?_
 go_simp
 go_wp2_with ((go_at_call 252; refine (cloneU A n c zs _ ns1 hn.out).mono ?_; rintro _ w2 ⟨A3, n3, c3, rfl, o3, b2⟩; have hX2 := hXd.below b2 hXl1; have hX3 := hX2.alloc (.cells #[.int .i64 k, .slice A3 n3 c3] 229)))
 refine hK.out _ _ ?_ (fun hHeld => ?_)
 ·try dsimp only
  first | exact ⟨hXd.cell 0, hXd.cell 1⟩ | exact ⟨hX2.cell 0, hX2.cell 1⟩ | exact ⟨hX3.cell 0, hX3.cell 1⟩
 clear hK K
 refine tkh 5 (h := ?_)
 try simp only [Act.put, q1, q2, q3, q4, q5, q6]
 refine tkr 6 fun K hK => ?_
 go_simp
 go_wp2_with (fail)
 refine hK.out _ _ ?_ (fun hHeld => ?_)
 ·try dsimp only
  first | exact ⟨hXd.cell 0, hXd.cell 1⟩ | exact ⟨hX2.cell 0, hX2.cell 1⟩ | exact ⟨hX3.cell 0, hX3.cell 1⟩
 clear hK K
 refine tkh 7 (h := ?_)
 try simp only [Act.put, q1, q2, q3, q4, q5, q6]
 refine wpAnyH_done (by kernel_rfl) ?_ _
 refine HKK.out _ _ ?_
 go_wp2_with fail
 go_ret
 have hz2 := b2.size
 have op := OP.one (w := w2) (base := w.heap.size) (x := (k, zs)) (p := (A3, n3, c3)) (o3.low hsz1) (Nat.le_trans hsz1 hz2) (g := w2.heap.size) rfl
 exact ⟨some ⟨w2.heap.size, 0, none⟩, 1, 1, _, rfl, op, rfl, (btr b1.drew b2 hsz1).alloc (Nat.le_trans hsz1 hz2) _⟩

set_option maxHeartbeats 4000000 in
set_option maxRecDepth 100000 in
theorem gatheredS (A : Option Addr) (n c : Nat) (l : List Seg) (w : World) (hd : DL rSeg 2 w (Lo w) A n l) (hn : n ≤ 100000) (hs : Hid (sumN l ≤ big32)) :
  Calls Tryz.prog 250 #[.slice A n c, .func (.func 251) #[] #[]] w (RetP w l) := by
 have HN := Lib.hid hd.len
 go_enter Tryz.func250, Tryz.ntmps250
 go_wp2_with fail
 go_loopw [5, 10] (fun s i wr => ∃ (j : Nat) (A1 : Option Addr) (c1 : Nat) (L : List (Seg × Hd)), j ≤ n ∧ i = .int .i64 j ∧ s = .slice A1 j c1 ∧ OP wr w.heap.size A1 j c1 L ∧ Hid (L.map (·.1) = l.take j) ∧ Below w.heap.size w wr) (fun _ i _ => n - (intOf i).toNat)
 case atStart => exact ⟨0, none, 0, [], by omega, rfl, rfl, OP.nil_, Lib.hid (by simp), Below.refl _ _⟩
 case round =>
  obtain ⟨j, A1, c1, L, hj, rfl, rfl, ho, HL, hb⟩ := hrel
  by_cases hlt : j < n
  case neg =>
   have e2 : decide ((j : Int) < n) = false := decide_eq_false (by omega)
   have HF := Lib.hid (show L.map (·.1) = l by rw [HL.out, List.take_of_length_le (by have := HN.out; omega)])
   go_wp2_with fail
   go_ret
   exact ⟨A1, j, c1, L, rfl, ho, HF.out, hb⟩
  obtain ⟨x, hx⟩ := getS HN.out hlt
  have HTK := Lib.hid (take_snoc hx)
  have e2 : decide ((j : Int) < n) = true := decide_eq_true (by omega)
  have hlti : (j : Int) < n := by omega
  have HNL := Lib.hid (show x.2.length ≤ 35184372088832 by have h1 := sumN_at hx; have h2 := hs.out; unfold big32 at h2; omega)
  obtain ⟨b, off, A', n', c', rfl, hbl, k0w, k1w, hnf, hnc'⟩ := hd.segAt hx
  have hbl : b < w.heap.size := hbl
  have k0 := (hb.cell (p := ⟨b, off + j * 2, none⟩) hbl).trans k0w
  have k1 := (hb.cell (p := ⟨b, off + j * 2 + 1, none⟩) hbl).trans k1w
  have wj : IntKind.i64.wrap ((j : Int) + 1) = (j : Int) + 1 := IntWalk.i64_in _ ⟨by omega, by omega⟩
  have HN' := Lib.hid (show n' ≤ 35184372088832 by have := hnf.1; have := HNL.out; omega)
  have bx := hb.alloc hb.size (.cells #[.int .i64 x.1, .slice A' n' c'] 229)
  have hX := Blk.new wr 229 #[.int .i64 x.1, .slice A' n' c']
  have x0 := hX.cell 0
  have x1 := hX.cell 1
  have ns := (hnf.lt.below bx).more bx.size
  have ho1 := ho.call ((Below.refl wr.heap.size wr).alloc (Nat.le_refl _) (.cells #[.int .i64 x.1, .slice A' n' c'] 229))
  clear hx hnf k0w k1w
  go_wp2_with fail
  refine (copiedOne x.1 A' n' c' x.2 _ ns HN').mono ?_
  rintro _ w2 ⟨A2, n2, c2, M, rfl, hoM, hM, b2⟩
  have b02 := btr bx b2 bx.size
  have ho2 := ho1.call b2
  have hbx := bx.size
  have hn2 : n2 = M.length := hoM.1
  have hM1 : M.length = 1 := by have := congrArg List.length hM; simpa using this
  obtain rfl : n2 = 1 := by omega
  have HML := Lib.hid hn2
  have HMM := Lib.hid hM
  have HAP := Lib.hid (fun z (hz : z ∈ L) y (hy : y ∈ M) => (ho1.apt (y := y) (hoM.2.2.1 y hy) (Nat.le_refl _)) z hz)
  have hMl := hoM.low hbx
  clear hn2 hM1 hM
  go_wp2_with (at_builtin; refine wpl_appR rfl (.tmp 14) (.tmp 17) 71 rfl 229 _ 2 32 Tryz.underlying71 seg_info rfl (by omega) w.heap.size A1 j c1 _ (by rfl) ho2.2.1 w2.heap.size A2 1 c2 (segsC M) (by rfl) hoM.reads segsC_one1 (by unfold maxLen; omega) (by omega) b02.size ?_; intro A6 c6 w6 o6 b6 g6 _)
  have hO6 := ho2.pushAll (M := M) HML.out (fun y hy => hMl.2.2.1 y hy) hoM.2.2.2 HAP.out o6 g6
  go_roundw
  case rel => exact ⟨j + 1, A6, c6, _, by omega, by go_num, rfl, hO6, Lib.hid (by rw [List.map_append, HL.out, HMM.out, HTK.out]), b02.trans b6⟩
  case measure => simp [intOf]; omega
set_option maxHeartbeats 2000000 in
set_option maxRecDepth 100000 in
theorem aspCopied (A : Option Addr) (n c : Nat) (l : List Seg) (w : World) (hd : DL rSeg 2 w (Lo w) A n l) (hn : n ≤ 100000) (hs : Hid (sumN l ≤ big32)) :
  Calls Tryz.prog 235 #[.slice A n c] w (RetP w l) := by
 go_enter Tryz.func235, Tryz.ntmps235
 go_wp2_with fail
 refine (gatheredS A n c l _ hd hn hs).mono ?_
 rintro _ w1 ⟨A1, n1, c1, L, rfl, o1, hL, b1⟩
 go_wp2_with fail
 go_ret
 exact ⟨A1, n1, c1, L, rfl, o1, hL, b1⟩
/-- The beginning of a path that counts so long. -/
def headA : List Seg → Nat → List Seg
 | [], _ => []
 | x :: l, n => if n = 0 then [] else if x.1 = 1 then x :: headA l (n - 1) else (x.1, x.2.take n) :: headA l (n - min n x.2.length)
theorem headA_zero (l : List Seg) : headA l 0 = [] := by cases l <;> rfl
/-- A part of which the beginning is taken. -/
def Cut (z y : Seg × Hd) : Prop := z.2.1 = y.2.1 ∧ z.2.2.2 = y.2.2.2 ∧ z.2.2.1 ≤ y.2.2.1 ∧ (0 < z.2.2.1 ∨ z.2.2.1 = y.2.2.1) ∧ z.1.2 = y.1.2.take z.2.2.1
theorem OU.cut {w : World} {base n c m : Nat} {A : Option Addr} {l : List Int} (h : OU w base A n c l) (hm : m ≤ n) (h0 : 0 < m ∨ m = n) : OU w base A m c (l.take m) := by
 rcases h0 with h0 | rfl
 ·refine ⟨by rw [List.length_take]; have := h.1; omega, ⟨?_, ?_⟩, fun x hx => h.2.2 x (List.mem_of_mem_take hx)⟩
  ·rw [un_length, List.length_take]; have := h.1; omega
  ·rcases h.2.1.2 with ⟨_, h2⟩ | ⟨g, cap, cur, hv, hb, hh, h1, h2, h3, h4⟩
   ·omega
   ·injection hv with e1 e2 e3
    subst e1 e3
    refine .inr ⟨g, _, cur, rfl, hb, hh, by omega, h2, h3, ?_⟩
    have e : un (l.take m) = (un l).take m := by unfold un; rw [List.map_take]
    rw [e, ← h4, List.take_take, Nat.mul_one, Nat.mul_one, Nat.min_eq_left hm]
 ·rw [List.take_of_length_le (by rw [h.1]; exact Nat.le_refl _)]
  exact h
theorem Cut.ou {w : World} {base : Nat} {z y : Seg × Hd} (h : Cut z y) (ho : OU w base y.2.1 y.2.2.1 y.2.2.2 y.1.2) : OU w base z.2.1 z.2.2.1 z.2.2.2 z.1.2 := by
 obtain ⟨h1, h2, h3, h4, h5⟩ := h
 rw [h1, h2, h5]
 exact ho.cut h3 h4
theorem Cut.blk {z y : Seg × Hd} (h : Cut z y) : z.2.v.ownBlock = y.2.v.ownBlock := by
 obtain ⟨⟨k, zs⟩, ⟨A, n, c⟩⟩ := z
 obtain ⟨⟨k', zs'⟩, ⟨A', n', c'⟩⟩ := y
 obtain ⟨h1, _⟩ := h
 simp only at h1
 subst h1
 unfold Hd.v
 cases A <;> rfl
theorem Cut.refl (y : Seg × Hd) (h : y.2.2.1 = y.1.2.length) : Cut y y := ⟨rfl, rfl, Nat.le_refl _, .inr rfl, by rw [h, List.take_length]⟩
/-- What the beginning's parts are. -/
def Parts (LL M : List (Seg × Hd)) (j : Nat) : Prop := (∀ z ∈ M, ∃ i y, i < j ∧ LL[i]? = some y ∧ Cut z y) ∧ M.Pairwise Apt
theorem Parts.nil_ (LL : List (Seg × Hd)) (j : Nat) : Parts LL [] j := ⟨fun z hz => (by cases hz), List.Pairwise.nil⟩
theorem Parts.more {LL M : List (Seg × Hd)} {j : Nat} {z y : Seg × Hd} (h : Parts LL M j) (hp : LL.Pairwise Apt) (hy : LL[j]? = some y) (hc : Cut z y) : Parts LL (M ++ [z]) (j + 1) := by
 refine ⟨fun u hu => ?_, List.pairwise_append.2 ⟨h.2, List.pairwise_singleton _ _, fun u hu v hv => ?_⟩⟩
 ·rcases List.mem_append.1 hu with hu | hu
  ·obtain ⟨i, y', h1, h2, h3⟩ := h.1 u hu
   exact ⟨i, y', by omega, h2, h3⟩
  ·simp at hu; subst hu
   exact ⟨j, y, by omega, hy, hc⟩
 ·simp at hv
  subst hv
  obtain ⟨i, y', h1, h2, h3⟩ := h.1 u hu
  obtain ⟨g1, e1⟩ := List.getElem?_eq_some_iff.1 h2
  obtain ⟨g2, e2⟩ := List.getElem?_eq_some_iff.1 hy
  have := List.pairwise_iff_getElem.1 hp i j g1 g2 h1
  rw [e1, e2] at this
  intro b hb
  rw [hc.blk]
  rw [h3.blk] at hb
  exact this b hb
theorem Parts.op {w : World} {base base2 n c n2 c2 j : Nat} {A A2 : Option Addr} {LL M : List (Seg × Hd)} (h : Parts LL M j) (ho : OP w base A n c LL) (hr : w.ownsRow base2 229 2 (.slice A2 n2 c2) n2 (segsC M)) (hb : base ≤ base2) : OP w base A2 n2 c2 M := by
 refine ⟨?_, own_low hr hb, fun z hz => ?_, h.2⟩
 ·have := hr.1; rw [segsC_len] at this; omega
 ·obtain ⟨i, y, _, hy, hc⟩ := h.1 z hz
  exact hc.ou (ho.2.2.1 y (List.mem_of_getElem? hy))
theorem drop_cons {α : Type} {l : List α} {j : Nat} {x : α} (h : l[j]? = some x) : l.drop j = x :: l.drop (j + 1) := by
 obtain ⟨g1, g2⟩ := List.getElem?_eq_some_iff.1 h
 rw [List.drop_eq_getElem_cons g1, g2]
theorem right_at {l : List Seg} (h : rightA l = true) {x : Seg} (hx : x ∈ l) : (x.1 = 1 ∨ x.1 = 2) ∧ x.2.length ≠ 0 ∧ x.2.length ≤ 64 := by
 have h1 := List.all_eq_true.1 (rightA_of h).1 x hx
 exact of_decide_eq_true h1
set_option maxHeartbeats 8000000 in
set_option maxRecDepth 100000 in
theorem aspHead (A : Option Addr) (n c : Nat) (l : List Seg) (N : Nat) (w : World) (hd : DL rSeg 2 w (Lo w) A n l) (hn : n ≤ 100000) (hr : Hid (rightA l = true)) (hN : N ≤ 1000) :
  Calls Tryz.prog 236 #[.slice A n c, .int .i64 (N : Int)] w (RetP w (headA l N)) := by
 have HS := Lib.hid (show sumN l ≤ big32 by have := (rightA_of hr.out).2.1; unfold big32; omega)
 go_enter Tryz.func236, Tryz.ntmps236
 go_wp2_with fail
 refine (aspCopied A n c l _ hd hn HS).mono ?_
 rintro _ w2 ⟨A2, n2, c2, LL, rfl, hop, hLL, b2⟩
 have HLL := Lib.hid hLL
 have HN := Lib.hid (show n2 = l.length by rw [← HLL.out, List.length_map]; exact hop.1)
 have hn2 : n2 ≤ 8 := by have := (rightA_of hr.out).2.2; have := HN.out; omega
 clear hLL
 go_wp2_with fail
 go_loopw [1, 5, 11] (fun v1 s i wr => ∃ (j m : Nat) (A1 : Option Addr) (n1 c1 : Nat) (M : List (Seg × Hd)), j ≤ n2 ∧ i = .int .i64 j ∧ v1 = .int .i64 (m : Int) ∧ m ≤ 1000 ∧ s = .slice A1 n1 c1 ∧ n1 ≤ j ∧ wr.ownsRow w2.heap.size 229 2 (.slice A1 n1 c1) n1 (segsC M) ∧ Hid (Parts LL M j) ∧ Hid (headA l N = M.map (·.1) ++ headA (l.drop j) m) ∧ Below w2.heap.size w2 wr) (fun _ _ i _ => n2 - (intOf i).toNat)
 case atStart => exact ⟨0, N, none, 0, 0, [], by omega, rfl, rfl, hN, rfl, by omega, World.ownsRow_nil _ _ _ _, Lib.hid (Parts.nil_ _ _), Lib.hid rfl, Below.refl _ _⟩
 case round =>
  obtain ⟨j, m, A1, n1, c1, M, hj, rfl, rfl, hm, rfl, hn1, hrow, HP, HH, hb⟩ := hrel
  by_cases hlt : j < n2
  case neg =>
   have e2 : decide ((j : Int) < n2) = false := decide_eq_false (by omega)
   have HF := Lib.hid (show M.map (·.1) = headA l N by rw [HH.out, List.drop_eq_nil_of_le (by have := HN.out; omega)]; simp [headA])
   have hopr := (hop.call hb)
   go_wp2_with fail
   go_ret
   exact ⟨A1, n1, c1, M, rfl, HP.out.op hopr hrow b2.size, HF.out, btr b2 hb b2.size⟩
  have e2 : decide ((j : Int) < n2) = true := decide_eq_true (by omega)
  have hlti : (j : Int) < n2 := by omega
  obtain ⟨y, hy⟩ : ∃ y, LL[j]? = some y := ⟨_, List.getElem?_eq_getElem (by have := hop.1; omega)⟩
  have HY := Lib.hid hy
  have hlx : l[j]? = some y.1 := by rw [← HLL.out, List.getElem?_map, hy]; rfl
  have HDR := Lib.hid (drop_cons hlx)
  have HRA := Lib.hid (right_at hr.out (List.mem_of_getElem? hlx))
  have hou2 : OU w2 w.heap.size y.2.1 y.2.2.1 y.2.2.2 y.1.2 := hop.2.2.1 y (List.mem_of_getElem? hy)
  obtain ⟨g, rfl, hbg, hgl, k0w, k1w, _⟩ := hop.at_ hy
  obtain ⟨⟨k, zs⟩, ⟨A', n', c'⟩⟩ := y
  simp only at hou2 k0w
  have k1w : w2.cell? ⟨g, j * 2 + 1, none⟩ = some (.slice A' n' c') := k1w
  have hnz : n' = zs.length := hou2.1
  have hn64 : n' ≤ 64 := by have := HRA.out.2.2; simp only at this; omega
  have hn0 : n' ≠ 0 := by have := HRA.out.2.1; simp only at this; omega
  have hcap := hou2.cap
  have HNZ := Lib.hid hnz
  have k0 := (hb.cell (p := ⟨g, j * 2, none⟩) hgl).trans k0w
  have k1 := (hb.cell (p := ⟨g, j * 2 + 1, none⟩) hgl).trans k1w
  have wj : IntKind.i64.wrap ((j : Int) + 1) = (j : Int) + 1 := IntWalk.i64_in _ ⟨by omega, by omega⟩
  have ou1 := hou2.call hb
  have hzb := hb.size
  clear hy hlx hnz k0w k1w hou2
  by_cases h0 : m = 0
  ·have t0 : decide (m = 0) = true := decide_eq_true h0
   have HF := Lib.hid (show M.map (·.1) = headA l N by rw [HH.out, h0, headA_zero, List.append_nil])
   have bX := hb.alloc hb.size (.cells #[.int .i64 k, .slice A' n' c'] 229)
   have hopr := hop.call bX
   have hrow2 := own_alloc2 hrow (.cells #[.int .i64 k, .slice A' n' c'] 229)
   clear h0
   go_wp2_with fail
   go_ret
   exact ⟨A1, n1, c1, M, rfl, HP.out.op hopr hrow2 b2.size, HF.out, btr b2 bX b2.size⟩
  have t0 : decide (m = 0) = false := decide_eq_false h0
  have hX := Blk.new wr 229 #[.int .i64 k, .slice A' n' c']
  have bX := hb.alloc hb.size (.cells #[.int .i64 k, .slice A' n' c'] 229)
  have ouX := ou1.alloc (.cells #[.int .i64 k, .slice A' n' c'] 229)
  have hrowX := own_alloc2 hrow (.cells #[.int .i64 k, .slice A' n' c'] 229)
  obtain ⟨w3, hw3⟩ : ∃ W, wr.alloc (.cells #[.int .i64 k, .slice A' n' c'] 229) = W := ⟨_, rfl⟩
  have HW3 := Lib.hid hw3
  rw [hw3] at hX bX ouX hrowX
  clear hw3
  obtain ⟨gx, hgx⟩ : ∃ gx, wr.heap.size = gx := ⟨_, rfl⟩
  have HGX := Lib.hid hgx
  have hgx2 : w2.heap.size ≤ gx := by rw [← hgx]; exact hb.size
  rw [hgx] at hX
  clear hgx
  have x0 := hX.cell 0
  have x1 := hX.cell 1
  have f1 := hX.frozen 1
  by_cases hk1 : k = 1
  ·have t1 : (k == 2) = false := by rw [hk1]; rfl
   have HC := Lib.hid (show (countA [(k, zs)] : Int) = 1 by simp [countA, hk1])
   have HM2 := Lib.hid (show headA l N = (M ++ [((k, zs), ((A', n', c') : Hd))]).map (·.1) ++ headA (l.drop (j + 1)) (m - 1) by
    rw [HH.out, HDR.out, headA, if_neg h0, if_pos hk1, List.map_append]; simp)
   have HP2 := Lib.hid (HP.out.more hop.2.2.2 HY.out (z := ((k, zs), ((A', n', c') : Hd))) (Cut.refl _ (by simp only; exact HNZ.out)))
   have wd : IntKind.i64.wrap ((m : Int) - 1) = ((m - 1 : Nat) : Int) := by rw [IntWalk.i64_in _ ⟨by omega, by omega⟩]; omega
   clear hk1 h0
   go_upto_region 5 with fail
   try rw [HW3.out, HGX.out]
   try rw [HGX.out]
   have bN := (Below.refl w3.heap.size w3).alloc (Nat.le_refl _) (.cells #[.int .i64 k, .slice A' n' c'] 229)
   have hNw := Blk.new w3 229 #[.int .i64 k, .slice A' n' c']
   have ouN := ouX.alloc (.cells #[.int .i64 k, .slice A' n' c'] 229)
   have DN : DL rSeg 2 (w3.alloc (.cells #[.int .i64 k, .slice A' n' c'] 229)) (Lo _) (some ⟨w3.heap.size, 0, none⟩) 1 [(k, zs)] := DL.one rSeg_ok (cs := [.int .i64 k, .slice A' n' c']) hNw hNw.lt ⟨A', n', c', rfl, NF.of ouN.ns (fun b hb => hb), ouN.cap⟩
   have HCC := Lib.hid (show Calls Tryz.prog 234 #[.slice (some ⟨w3.heap.size, 0, none⟩) 1 1] (w3.alloc (.cells #[.int .i64 k, .slice A' n' c'] 229)) fun e w' => e = .returned (.int .i64 (1 : Int)) ∧ Below (w3.alloc (.cells #[.int .i64 k, .slice A' n' c'] 229)).heap.size (w3.alloc (.cells #[.int .i64 k, .slice A' n' c'] 229)) w' from by
    have := aspCount (some ⟨w3.heap.size, 0, none⟩) 1 1 [(k, zs)] _ DN (by omega) (Lib.hid (by simp only [sumN]; have h1 := ouX.1; have h2 := hn64; unfold big32; omega))
    rw [← HC.out]
    exact this)
   go_wp2_with fail
   refine HCC.out.mono ?_
   rintro _ w5 ⟨rfl, b5⟩
   have b45 := btr bN b5 bN.size
   have hX5 := hX.below b45 hX.lt
   clear x0 x1
   have x0 := hX5.cell 0
   have x1 := hX5.cell 1
   have row5 := own_below hrowX b45
   have b05 := btr bX b45 bX.size
   have row6 := own_alloc2 row5 (.cells #[.int .i64 k, .slice A' n' c'] 229)
   have b06 := b05.alloc b05.size (.cells #[.int .i64 k, .slice A' n' c'] 229)
   have hz5 := b06.size
   go_wp2_with (at_builtin; refine wpl_appR rfl (.tmp 37) (.tmp 39) 71 rfl 229 _ 2 32 Tryz.underlying71 seg_info rfl (by omega) w2.heap.size A1 n1 c1 _ (by rfl) row6 (w5.heap.size + 1) (some ⟨w5.heap.size, 0, none⟩) 1 1 [.int .i64 k, .slice A' n' c'] (by rfl) (Reads.two w5 229 (.int .i64 k) (.slice A' n' c') rfl) (by intro u hu; simp at hu; rcases hu with rfl | rfl <;> rfl) (by unfold maxLen; omega) (by omega) hz5 ?_; intro A6 c6 w6 o6 b6 g6 _)
   go_roundw
   case rel => exact ⟨j + 1, (m - 1), A6, n1 + 1, c6, _, by omega, by go_num, rfl, by omega, rfl, by omega, by rw [segsC_app, segsC_one]; exact o6, HP2, HM2, b06.trans b6⟩
   case measure => simp [intOf]; omega
  have hk2 : k = 2 := by have := HRA.out.1; simp only at this; omega
  have t1 : (k == 2) = true := by rw [hk2]; rfl
  have hk1' : k ≠ 1 := hk1
  by_cases hml : m < n'
  ·have t2 : decide ((m : Int) < (n' : Int)) = true := decide_eq_true (by omega)
   have hmc : (m : Int) ≤ (c' : Int) := by omega
   have hm00 : (0 : Int) ≤ (m : Int) := by omega
   have HC := Lib.hid (show (countA [(k, zs.take m)] : Int) = (m : Int) by simp [countA, hk1']; have := HNZ.out; omega)
   have HM2 := Lib.hid (show headA l N = (M ++ [((k, zs.take m), ((A', m, c') : Hd))]).map (·.1) ++ headA (l.drop (j + 1)) 0 by
    have hz := HNZ.out
    rw [HH.out, HDR.out, headA, if_neg h0, if_neg hk1', List.map_append]; simp only; rw [show m - min m zs.length = 0 by omega]; simp)
   have HP2 := Lib.hid (HP.out.more hop.2.2.2 HY.out (z := ((k, zs.take m), ((A', m, c') : Hd))) ⟨rfl, rfl, by simp only; omega, .inl (by simp only; omega), rfl⟩)
   have wd : IntKind.i64.wrap ((m : Int) - (m : Int)) = ((0 : Nat) : Int) := by rw [IntWalk.i64_in _ ⟨by omega, by omega⟩]; omega
   have hmpos : 0 < m := by omega
   clear hk1' hk1 hk2 h0
   go_upto_region 5 with fail
   try rw [HW3.out, HGX.out]
   try rw [HGX.out]
   go_upto_region 8 with fail
   have hX4 := hX.set_ 1 (.slice A' m c')
   simp only [List.setIfInBounds_toArray, List.set_cons_succ, List.set_cons_zero] at hX4
   have G4 := only_setCell (World.grownBy.refl w3 (some gx)) (p := ⟨gx, 1, none⟩) (.inl rfl) (.slice A' m c')
   have ou4 : OU (w3.setCell ⟨gx, 1, none⟩ (.slice A' m c')) w.heap.size A' n' c' zs := ⟨ouX.1, own_at ouX.2.1 hX (by decide) G4, ouX.2.2⟩
   have ou5 := ou4.cut (m := m) (by omega) (.inl hmpos)
   have hne : ∀ b, Value.ownBlock (.slice A1 n1 c1) = some b → b ≠ gx := by
    intro b hb e
    have h1 := (hrow.lt b hb).2
    have h2 := HGX.out
    omega
   have hrow4 : (w3.setCell ⟨gx, 1, none⟩ (.slice A' m c')).ownsRow w2.heap.size 229 2 (.slice A1 n1 c1) n1 (segsC M) := own_keep hrowX (fun b hb => Below.heap_setCell _ _ _ _ (hne b hb))
   have b4 := bX.setCell (p := ⟨gx, 1, none⟩) hgx2 (.slice A' m c')
   obtain ⟨w4, hw4⟩ : ∃ W, w3.setCell ⟨gx, 1, none⟩ (.slice A' m c') = W := ⟨_, rfl⟩
   rw [hw4] at hX4 ou5 hrow4 b4
   try rw [hw4]
   clear hw4 x0 x1 f1 G4 ou4
   have x0 := hX4.cell 0
   have x1 := hX4.cell 1
   have bN := (Below.refl w4.heap.size w4).alloc (Nat.le_refl _) (.cells #[.int .i64 k, .slice A' m c'] 229)
   have hNw := Blk.new w4 229 #[.int .i64 k, .slice A' m c']
   have ouN := ou5.alloc (.cells #[.int .i64 k, .slice A' m c'] 229)
   have DN : DL rSeg 2 (w4.alloc (.cells #[.int .i64 k, .slice A' m c'] 229)) (Lo _) (some ⟨w4.heap.size, 0, none⟩) 1 [(k, (zs.take m))] := DL.one rSeg_ok (cs := [.int .i64 k, .slice A' m c']) hNw hNw.lt ⟨A', m, c', rfl, NF.of ouN.ns (fun b hb => hb), ouN.cap⟩
   have HCC := Lib.hid (show Calls Tryz.prog 234 #[.slice (some ⟨w4.heap.size, 0, none⟩) 1 1] (w4.alloc (.cells #[.int .i64 k, .slice A' m c'] 229)) fun e w' => e = .returned (.int .i64 (m : Int)) ∧ Below (w4.alloc (.cells #[.int .i64 k, .slice A' m c'] 229)).heap.size (w4.alloc (.cells #[.int .i64 k, .slice A' m c'] 229)) w' from by
    have := aspCount (some ⟨w4.heap.size, 0, none⟩) 1 1 [(k, (zs.take m))] _ DN (by omega) (Lib.hid (by simp only [sumN]; have h1 := ou5.1; have h2 := hn64; unfold big32; omega))
    rw [← HC.out]
    exact this)
   go_wp2_with fail
   refine HCC.out.mono ?_
   rintro _ w5 ⟨rfl, b5⟩
   have b45 := btr bN b5 bN.size
   have hX5 := hX4.below b45 hX4.lt
   clear x0 x1
   have x0 := hX5.cell 0
   have x1 := hX5.cell 1
   have row5 := own_below hrow4 b45
   have b05 := btr b4 b45 b4.size
   have row6 := own_alloc2 row5 (.cells #[.int .i64 k, .slice A' m c'] 229)
   have b06 := b05.alloc b05.size (.cells #[.int .i64 k, .slice A' m c'] 229)
   have hz5 := b06.size
   go_wp2_with (at_builtin; refine wpl_appR rfl (.tmp 37) (.tmp 39) 71 rfl 229 _ 2 32 Tryz.underlying71 seg_info rfl (by omega) w2.heap.size A1 n1 c1 _ (by rfl) row6 (w5.heap.size + 1) (some ⟨w5.heap.size, 0, none⟩) 1 1 [.int .i64 k, .slice A' m c'] (by rfl) (Reads.two w5 229 (.int .i64 k) (.slice A' m c') rfl) (by intro u hu; simp at hu; rcases hu with rfl | rfl <;> rfl) (by unfold maxLen; omega) (by omega) hz5 ?_; intro A6 c6 w6 o6 b6 g6 _)
   go_roundw
   case rel => exact ⟨j + 1, 0, A6, n1 + 1, c6, _, by omega, by go_num, rfl, by omega, rfl, by omega, by rw [segsC_app, segsC_one]; exact o6, HP2, HM2, b06.trans b6⟩
   case measure => simp [intOf]; omega
  ·have t2 : decide ((m : Int) < (n' : Int)) = false := decide_eq_false (by omega)
   have HC := Lib.hid (show (countA [(k, zs)] : Int) = (n' : Int) by simp [countA, hk1']; have := HNZ.out; omega)
   have HM2 := Lib.hid (show headA l N = (M ++ [((k, zs), ((A', n', c') : Hd))]).map (·.1) ++ headA (l.drop (j + 1)) (m - n') by
    have hz := HNZ.out
    rw [HH.out, HDR.out, headA, if_neg h0, if_neg hk1', List.map_append]; simp only; rw [show m - min m zs.length = m - n' by omega, List.take_of_length_le (by omega)]; simp)
   have HP2 := Lib.hid (HP.out.more hop.2.2.2 HY.out (z := ((k, zs), ((A', n', c') : Hd))) (Cut.refl _ (by simp only; exact HNZ.out)))
   have wd : IntKind.i64.wrap ((m : Int) - (n' : Int)) = ((m - n' : Nat) : Int) := by rw [IntWalk.i64_in _ ⟨by omega, by omega⟩]; omega
   clear hk1' hk1 hk2 h0
   go_upto_region 5 with fail
   try rw [HW3.out, HGX.out]
   try rw [HGX.out]
   go_upto_region 8 with fail
   have bN := (Below.refl w3.heap.size w3).alloc (Nat.le_refl _) (.cells #[.int .i64 k, .slice A' n' c'] 229)
   have hNw := Blk.new w3 229 #[.int .i64 k, .slice A' n' c']
   have ouN := ouX.alloc (.cells #[.int .i64 k, .slice A' n' c'] 229)
   have DN : DL rSeg 2 (w3.alloc (.cells #[.int .i64 k, .slice A' n' c'] 229)) (Lo _) (some ⟨w3.heap.size, 0, none⟩) 1 [(k, zs)] := DL.one rSeg_ok (cs := [.int .i64 k, .slice A' n' c']) hNw hNw.lt ⟨A', n', c', rfl, NF.of ouN.ns (fun b hb => hb), ouN.cap⟩
   have HCC := Lib.hid (show Calls Tryz.prog 234 #[.slice (some ⟨w3.heap.size, 0, none⟩) 1 1] (w3.alloc (.cells #[.int .i64 k, .slice A' n' c'] 229)) fun e w' => e = .returned (.int .i64 (n' : Int)) ∧ Below (w3.alloc (.cells #[.int .i64 k, .slice A' n' c'] 229)).heap.size (w3.alloc (.cells #[.int .i64 k, .slice A' n' c'] 229)) w' from by
    have := aspCount (some ⟨w3.heap.size, 0, none⟩) 1 1 [(k, zs)] _ DN (by omega) (Lib.hid (by simp only [sumN]; have h1 := ouX.1; have h2 := hn64; unfold big32; omega))
    rw [← HC.out]
    exact this)
   go_wp2_with fail
   refine HCC.out.mono ?_
   rintro _ w5 ⟨rfl, b5⟩
   have b45 := btr bN b5 bN.size
   have hX5 := hX.below b45 hX.lt
   clear x0 x1
   have x0 := hX5.cell 0
   have x1 := hX5.cell 1
   have row5 := own_below hrowX b45
   have b05 := btr bX b45 bX.size
   have row6 := own_alloc2 row5 (.cells #[.int .i64 k, .slice A' n' c'] 229)
   have b06 := b05.alloc b05.size (.cells #[.int .i64 k, .slice A' n' c'] 229)
   have hz5 := b06.size
   go_wp2_with (at_builtin; refine wpl_appR rfl (.tmp 37) (.tmp 39) 71 rfl 229 _ 2 32 Tryz.underlying71 seg_info rfl (by omega) w2.heap.size A1 n1 c1 _ (by rfl) row6 (w5.heap.size + 1) (some ⟨w5.heap.size, 0, none⟩) 1 1 [.int .i64 k, .slice A' n' c'] (by rfl) (Reads.two w5 229 (.int .i64 k) (.slice A' n' c') rfl) (by intro u hu; simp at hu; rcases hu with rfl | rfl <;> rfl) (by unfold maxLen; omega) (by omega) hz5 ?_; intro A6 c6 w6 o6 b6 g6 _)
   go_roundw
   case rel => exact ⟨j + 1, (m - n'), A6, n1 + 1, c6, _, by omega, by go_num, rfl, by omega, rfl, by omega, by rw [segsC_app, segsC_one]; exact o6, HP2, HM2, b06.trans b6⟩
   case measure => simp [intOf]; omega
theorem DL.segB2 {w w' : World} {A : Option Addr} {n : Nat} {l : List Seg} (h : DL rSeg 2 w (Lo w) A n l) (hb : Below w.heap.size w w') : DL rSeg 2 w' (Lo w') A n l := h.keep rSeg_ok (Kp.call hb)
/-- Two paths together. -/
def mergeA (l more : List Seg) : List Seg :=
 if more = [] ∨ rightA l = false ∨ rightA more = false ∨ countA l < countA more then l
 else if rightA (headA l (countA l - countA more) ++ more) = true then headA l (countA l - countA more) ++ more else l
theorem mergeA_no {l more : List Seg} (h : more = [] ∨ rightA l = false ∨ rightA more = false ∨ countA l < countA more) : mergeA l more = l := if_pos h
theorem mergeA_yes {l more : List Seg} (h : ¬ (more = [] ∨ rightA l = false ∨ rightA more = false ∨ countA l < countA more)) : mergeA l more = if rightA (headA l (countA l - countA more) ++ more) = true then headA l (countA l - countA more) ++ more else l := if_neg h
theorem headA_len : ∀ (l : List Seg) (n : Nat), (headA l n).length ≤ l.length
 | [], _ => by simp [headA]
 | x :: l, n => by
  rw [headA]
  split
  ·simp
  ·split
   ·rw [List.length_cons, List.length_cons]; have := headA_len l (n - 1); omega
   ·rw [List.length_cons, List.length_cons]; have := headA_len l (n - min n x.2.length); omega
theorem countA_le8 {l : List Seg} (h : rightA l = true) : countA l ≤ 72 := by
 have h1 := rightA_of h
 have h2 := countA_bd l
 omega
set_option maxHeartbeats 8000000 in
set_option maxRecDepth 100000 in
theorem aspMerge (A : Option Addr) (n c : Nat) (l : List Seg) (A' : Option Addr) (n' c' : Nat) (more : List Seg) (w : World) (hd : DL rSeg 2 w (Lo w) A n l) (hd' : DL rSeg 2 w (Lo w) A' n' more) (hn : n ≤ 100000) (hn' : n' ≤ 100000) (hs : Hid (sumN l ≤ big32)) (hs' : Hid (sumN more ≤ big32)) :
  Calls Tryz.prog 207 #[.slice A n c, .slice A' n' c'] w (RetP w (mergeA l more)) := by
 have HN := Lib.hid hd.len
 have HN' := Lib.hid hd'.len
 have HCO := Lib.hid (show ∀ w, DL rSeg 2 w (Lo w) A n l → Calls Tryz.prog 235 #[.slice A n c] w (RetP w l) from fun w hd => aspCopied A n c l w hd hn hs)
 by_cases h0 : n' = 0
 ·have t0 : ((n' : Int) == 0) = true := by simp; omega
  have HM := Lib.hid (show mergeA l more = l from mergeA_no (.inl (List.eq_nil_of_length_eq_zero (by have := HN'.out; omega))))
  clear h0
  go_enter Tryz.func207, Tryz.ntmps207
  go_wp2_with fail
  refine (HCO.out _ hd).mono ?_
  rintro _ w1 ⟨A1, n1, c1, L1, rfl, o1, hL1, b1⟩
  have b01 := b1
  go_wp2_with fail
  go_ret
  exact ⟨A1, n1, c1, L1, rfl, o1, by rw [HM.out]; exact hL1, b01⟩
 have t0 : ((n' : Int) == 0) = false := by simp; omega
 have HNE := Lib.hid (show more ≠ [] from fun e => h0 (by have := HN'.out; rw [e] at this; exact this))
 obtain ⟨r1, hr1⟩ : ∃ r, rightA l = r := ⟨_, rfl⟩
 obtain ⟨r2, hr2⟩ : ∃ r, rightA more = r := ⟨_, rfl⟩
 have HR1 := Lib.hid (show ∀ w, DL rSeg 2 w (Lo w) A n l → Calls Tryz.prog 224 #[.slice A n c] w fun en w' => en = .returned (.bool r1) ∧ Below w.heap.size w w' from fun w hd => by rw [← hr1]; exact aspRight A n c l w hd hn)
 have HR2 := Lib.hid (show ∀ w, DL rSeg 2 w (Lo w) A' n' more → Calls Tryz.prog 224 #[.slice A' n' c'] w fun en w' => en = .returned (.bool r2) ∧ Below w.heap.size w w' from fun w hd => by rw [← hr2]; exact aspRight A' n' c' more w hd hn')
 clear h0
 cases r1
 ·have HM := Lib.hid (show mergeA l more = l from mergeA_no (.inr (.inl hr1)))
  clear hr1 hr2
  go_enter Tryz.func207, Tryz.ntmps207
  go_wp2_with fail
  refine (HR1.out _ hd).mono ?_
  rintro _ w1 ⟨rfl, b1⟩
  have b01 := b1
  go_wp2_with fail
  refine (HCO.out _ (hd.segB2 b01)).mono ?_
  rintro _ w2 ⟨A1, n1, c1, L1, rfl, o1, hL1, b2⟩
  have b02 := btr b01 b2 b01.size
  go_wp2_with fail
  go_ret
  exact ⟨A1, n1, c1, L1, rfl, o1.low b1.size, by rw [HM.out]; exact hL1, b02⟩
 cases r2
 ·have HM := Lib.hid (show mergeA l more = l from mergeA_no (.inr (.inr (.inl hr2))))
  clear hr1 hr2
  go_enter Tryz.func207, Tryz.ntmps207
  go_wp2_with fail
  refine (HR1.out _ hd).mono ?_
  rintro _ w1 ⟨rfl, b1⟩
  have b01 := b1
  go_wp2_with fail
  refine (HR2.out _ (hd'.segB2 b01)).mono ?_
  rintro _ w2 ⟨rfl, b2⟩
  have b02 := btr b01 b2 b01.size
  go_wp2_with fail
  refine (HCO.out _ (hd.segB2 b02)).mono ?_
  rintro _ w3 ⟨A1, n1, c1, L1, rfl, o1, hL1, b3⟩
  have b03 := btr b02 b3 b02.size
  go_wp2_with fail
  go_ret
  exact ⟨A1, n1, c1, L1, rfl, o1.low b02.size, by rw [HM.out]; exact hL1, b03⟩
 have HRL := Lib.hid hr1
 have hc1 := countA_le8 hr1
 have hc2 := countA_le8 hr2
 obtain ⟨C1, hC1⟩ : ∃ C, countA l = C := ⟨_, rfl⟩
 obtain ⟨C2, hC2⟩ : ∃ C, countA more = C := ⟨_, rfl⟩
 have HC1 := Lib.hid (show ∀ w, DL rSeg 2 w (Lo w) A n l → Calls Tryz.prog 234 #[.slice A n c] w fun en w' => en = .returned (.int .i64 (C1 : Int)) ∧ Below w.heap.size w w' from fun w hd => by rw [← hC1]; exact aspCount A n c l w hd hn hs)
 have HC2 := Lib.hid (show ∀ w, DL rSeg 2 w (Lo w) A' n' more → Calls Tryz.prog 234 #[.slice A' n' c'] w fun en w' => en = .returned (.int .i64 (C2 : Int)) ∧ Below w.heap.size w w' from fun w hd => by rw [← hC2]; exact aspCount A' n' c' more w hd hn' hs')
 rw [hC1] at hc1
 rw [hC2] at hc2
 by_cases hlt : C1 < C2
 ·have t1 : decide (C1 < C2) = true := decide_eq_true hlt
  have HM := Lib.hid (show mergeA l more = l from mergeA_no (.inr (.inr (.inr (by omega)))))
  clear hr1 hr2 hC1 hC2 hc1 hc2 hlt
  go_enter Tryz.func207, Tryz.ntmps207
  go_wp2_with fail
  refine (HR1.out _ hd).mono ?_
  rintro _ w1 ⟨rfl, b1⟩
  have b01 := b1
  go_wp2_with fail
  refine (HR2.out _ (hd'.segB2 b01)).mono ?_
  rintro _ w2 ⟨rfl, b2⟩
  have b02 := btr b01 b2 b01.size
  go_wp2_with fail
  refine (HC2.out _ (hd'.segB2 b02)).mono ?_
  rintro _ w3 ⟨rfl, b3⟩
  have b03 := btr b02 b3 b02.size
  go_wp2_with fail
  refine (HC1.out _ (hd.segB2 b03)).mono ?_
  rintro _ w4 ⟨rfl, b4⟩
  have b04 := btr b03 b4 b03.size
  go_wp2_with fail
  refine (HCO.out _ (hd.segB2 b04)).mono ?_
  rintro _ w5 ⟨A1, n1, c1, L1, rfl, o1, hL1, b5⟩
  have b05 := btr b04 b5 b04.size
  go_wp2_with fail
  go_ret
  exact ⟨A1, n1, c1, L1, rfl, o1.low b04.size, by rw [HM.out]; exact hL1, b05⟩
 have t1 : decide (C1 < C2) = false := decide_eq_false hlt
 have HM := Lib.hid (show mergeA l more = if rightA (headA l (C1 - C2) ++ more) = true then headA l (C1 - C2) ++ more else l by
  rw [← hC1, ← hC2]
  exact mergeA_yes (by rw [hr1, hr2]; rintro (h | h | h | h); exact HNE.out h; cases h; cases h; omega))
 have wd : IntKind.i64.wrap ((C1 : Int) - (C2 : Int)) = ((C1 - C2 : Nat) : Int) := by rw [IntWalk.i64_in _ ⟨by omega, by omega⟩]; omega
 obtain ⟨Dn, hDn⟩ : ∃ D, C1 - C2 = D := ⟨_, rfl⟩
 rw [hDn] at wd HM
 have hDb : Dn ≤ 1000 := by omega
 have HHD := Lib.hid (show ∀ w, DL rSeg 2 w (Lo w) A n l → Calls Tryz.prog 236 #[.slice A n c, .int .i64 (Dn : Int)] w (RetP w (headA l Dn)) from fun w hd => aspHead A n c l Dn w hd hn HRL hDb)
 have HCM := Lib.hid (show ∀ w, DL rSeg 2 w (Lo w) A' n' more → Calls Tryz.prog 235 #[.slice A' n' c'] w (RetP w more) from fun w hd => aspCopied A' n' c' more w hd hn' hs')
 have HLH := Lib.hid (headA_len l Dn)
 have HL8 := Lib.hid (show l.length ≤ 8 ∧ more.length ≤ 8 from ⟨(rightA_of hr1).2.2, (rightA_of hr2).2.2⟩)
 clear hr1 hr2 hC1 hC2 hc1 hc2 hlt hDn hDb
 go_enter Tryz.func207, Tryz.ntmps207
 go_wp2_with fail
 refine (HR1.out _ hd).mono ?_
 rintro _ w1 ⟨rfl, b1⟩
 have b01 := b1
 go_wp2_with fail
 refine (HR2.out _ (hd'.segB2 b01)).mono ?_
 rintro _ w2 ⟨rfl, b2⟩
 have b02 := btr b01 b2 b01.size
 go_wp2_with fail
 refine (HC2.out _ (hd'.segB2 b02)).mono ?_
 rintro _ w3 ⟨rfl, b3⟩
 have b03 := btr b02 b3 b02.size
 go_wp2_with fail
 refine (HC1.out _ (hd.segB2 b03)).mono ?_
 rintro _ w4 ⟨rfl, b4⟩
 have b04 := btr b03 b4 b03.size
 go_wp2_with fail
 refine (HC1.out _ (hd.segB2 b04)).mono ?_
 rintro _ w5 ⟨rfl, b5⟩
 have b05 := btr b04 b5 b04.size
 go_wp2_with fail
 refine (HC2.out _ (hd'.segB2 b05)).mono ?_
 rintro _ w6 ⟨rfl, b6⟩
 have b06 := btr b05 b6 b05.size
 go_wp2_with fail
 refine (HHD.out _ (hd.segB2 b06)).mono ?_
 rintro _ w7 ⟨A7, n7, c7, L7, rfl, o7, hL7, b7⟩
 have b07 := btr b06 b7 b06.size
 have HL7 := Lib.hid hL7
 clear hL7
 have o7w := o7.low b06.size
 have D7 := hd'.segB2 b07
 go_wp2_with fail
 refine (HCM.out _ D7).mono ?_
 rintro _ w8 ⟨A8, n8, c8, L8, rfl, o8, hL8, b8⟩
 have HL8m := Lib.hid hL8
 clear hL8
 have b08 := btr b07 b8 b07.size
 have o78 := o7w.call b8
 have o8w := o8.low b07.size
 have HAP := Lib.hid (fun z (hz : z ∈ L7) y (hy : y ∈ L8) => (o7w.apt (y := y) (o8.2.2.1 y hy) (Nat.le_refl _)) z hz)
 have HML := Lib.hid o8.1
 have hn7 : n7 ≤ 8 := by have h1 := o7.1; have h2 := congrArg List.length HL7.out; rw [List.length_map] at h2; have h3 := HLH.out; have h4 := HL8.out.1; omega
 have hn8 : n8 ≤ 8 := by have h1 := o8.1; have h2 := congrArg List.length HL8m.out; rw [List.length_map] at h2; have h4 := HL8.out.2; omega
 go_upto_region 4 with (at_builtin; refine wpl_appR rfl (.tmp 34) (.tmp 36) 71 rfl 229 _ 2 32 Tryz.underlying71 seg_info rfl (by omega) w.heap.size A7 n7 c7 _ (by rfl) o78.2.1 w8.heap.size A8 n8 c8 (segsC L8) (by rfl) o8.reads segsC_one1 (by unfold maxLen; omega) (by omega) b08.size ?_; intro A9 c9 w9 o9 b9 g9 _)
 have hO9 := o78.pushAll (M := L8) HML.out (fun y hy => o8w.2.2.1 y hy) o8.2.2.2 HAP.out o9 g9
 have b09 := b08.trans b9
 have HLL := Lib.hid (show (L7 ++ L8).map (·.1) = headA l Dn ++ more by rw [List.map_append, HL7.out, HL8m.out])
 have D9 := hO9.dl
 rw [HLL.out] at D9
 have hn9 : n7 + n8 ≤ 100000 := by omega
 obtain ⟨r3, hr3⟩ : ∃ r, rightA (headA l Dn ++ more) = r := ⟨_, rfl⟩
 have HR3 := aspRight A9 (n7 + n8) c9 _ w9 D9 hn9
 rw [hr3] at HR3
 have HR3' := Lib.hid HR3
 clear HR3
 cases r3
 ·have HM2 := Lib.hid (show mergeA l more = l by rw [HM.out, hr3]; rfl)
  clear hr3
  go_wp2_with fail
  refine HR3'.out.mono ?_
  rintro _ w10 ⟨rfl, b10⟩
  have b010 := btr b09 b10 b09.size
  go_wp2_with fail
  refine (HCO.out _ (hd.segB2 b010)).mono ?_
  rintro _ w11 ⟨A1, n1, c1, L1, rfl, o1, hL1, b11⟩
  go_wp2_with fail
  go_ret
  exact ⟨A1, n1, c1, L1, rfl, o1.low b010.size, by rw [HM2.out]; exact hL1, btr b010 b11 b010.size⟩
 ·have HM2 := Lib.hid (show mergeA l more = headA l Dn ++ more by rw [HM.out, hr3, if_pos rfl])
  clear hr3
  go_wp2_with fail
  refine HR3'.out.mono ?_
  rintro _ w10 ⟨rfl, b10⟩
  have b010 := btr b09 b10 b09.size
  have hO10 := hO9.call b10
  go_wp2_with fail
  go_ret
  exact ⟨A9, n7 + n8, c9, L7 ++ L8, rfl, hO10, by rw [HM2.out]; exact HLL.out, b010⟩
/-- An attribute as it came: its flags, its kind, its bytes, all of them, and its value. -/
structure One where
 fl : Int
 kind : Int
 all : List UInt8
 val : List UInt8
/-- How many bytes a value has: two bytes say it, or one. -/
def szV (V : Nat) : Nat := if V / 16 % 2 = 1 then 2 else 1
/-- The next attribute, and what stands behind it. -/
def splitA (b : List UInt8) : Option (One × List UInt8) :=
 let t1 := tkLeft b false (1 : Nat)
 let s1 := tkShort b false (1 : Nat)
 let V := numL (tkOut b false (1 : Nat))
 let t2 := tkLeft t1 s1 (1 : Nat)
 let s2 := tkShort t1 s1 (1 : Nat)
 let z := szV V
 let t3 := tkLeft t2 s2 z
 let s3 := tkShort t2 s2 z
 let N := numL (tkOut t2 s2 z)
 if tkShort t3 s3 N = true then none
 else some (⟨V, numL (tkOut t1 s1 (1 : Nat)), b.take (b.length - (tkLeft t3 s3 N).length), tkOut t3 s3 N⟩, b.drop (b.length - (tkLeft t3 s3 N).length))
theorem splitA_len {b t : List UInt8} {x : One} (h : splitA b = some (x, t)) : t.length < b.length ∨ b = [] := by
 by_cases hb : b = []
 ·exact .inr hb
 refine .inl ?_
 have hl : 1 ≤ b.length := by
  cases b with
  | nil => exact absurd rfl hb
  | cons a r => simp
 obtain ⟨e1, e2, e3⟩ := tk_ok (l := b) (k := 1) hl
 unfold splitA at h
 simp only [e1, e2, e3] at h
 split at h
 ·cases h
 ·injection h with h
  injection h with h1 h2
  rw [← h2, List.length_drop]
  have a1 := tkLeft_len (b.drop 1) false ((1 : Nat) : Int)
  have a2 := tkLeft_len (tkLeft (b.drop 1) false ((1 : Nat) : Int)) (tkShort (b.drop 1) false ((1 : Nat) : Int)) ((szV (numL (b.take 1)) : Nat) : Int)
  have a3 := tkLeft_len (tkLeft (tkLeft (b.drop 1) false ((1 : Nat) : Int)) (tkShort (b.drop 1) false ((1 : Nat) : Int)) ((szV (numL (b.take 1)) : Nat) : Int)) (tkShort (tkLeft (b.drop 1) false ((1 : Nat) : Int)) (tkShort (b.drop 1) false ((1 : Nat) : Int)) ((szV (numL (b.take 1)) : Nat) : Int)) ((numL (tkOut (tkLeft (b.drop 1) false ((1 : Nat) : Int)) (tkShort (b.drop 1) false ((1 : Nat) : Int)) ((szV (numL (b.take 1)) : Nat) : Int)) : Nat) : Int)
  rw [List.length_drop] at a1
  omega
/-- Attributes on their way. -/
structure Gr where
 a : At
 kinds : List Int
 more : List Seg
 hasOld : Bool
 oldAS : Int
 newAS : List UInt8
/-- A fault's number, and its bytes. -/
abbrev FtA := Int × List UInt8
def optF (f : Int) : Bool := decide (f / 128 % 2 = 1)
def trF (f : Int) : Bool := decide (f / 64 % 2 = 1)
def ptF (f : Int) : Bool := decide (f / 32 % 2 = 1)
/-- Where one of a kind belongs. -/
def rawPos (l : List RawV) (k : Int) : Nat := l.findIdx fun y => decide (k < y.2.1)
def insR (l : List RawV) (x : One) : List RawV := l.take (rawPos l x.kind) ++ [(224, x.kind, x.val)] ++ l.drop (rawPos l x.kind)
def unkA (g : Gr) (x : One) : Except FtA Gr :=
 if optF x.fl = false then .error (2, x.all)
 else if trF x.fl = false then .ok g
 else if 64 < x.val.length ∨ 8 ≤ g.a.raws.length then .error (9, x.all)
 else .ok { g with a := { g.a with raws := insR g.a.raws x } }
/-- Whether a value has too few bytes, or too many. -/
def badLen (wide : Bool) (k : Int) (n : Nat) : Bool :=
 if k = 7 then decide (n ≠ if wide then 8 else 6)
 else if k = 8 then decide (n % 4 ≠ 0)
 else decide (n < (lookAt k.toNat).2.1 ∨ (lookAt k.toNat).2.2 < n)
def formA (wide : Bool) (x : One) : Int :=
 if x.fl / 64 % 4 * 64 ≠ flagsA x.kind ∨ ptF x.fl = true ∧ flagsA x.kind ≠ 192 then 4
 else if badLen wide x.kind x.val.length = true then 5
 else 0
/-- A number of sz bytes in front, and one behind it. -/
def numF (sz : Nat) (l : List UInt8) : Int := (numL (tkOut l false sz) : Nat)
def numSec (sz : Nat) (l : List UInt8) : Int := (numL (tkOut (tkLeft l false sz) (tkShort l false sz) (4 : Nat)) : Nat)
def commsA (l : List UInt8) : List Int := match numsO 4 (l.length / 4) l with
 | some p => p.1
 | none => []
def knwA (wide : Bool) (g : Gr) (x : One) : Except FtA Gr :=
 if x.kind = 1 then (if 2 < numF 1 x.val then .error (6, x.all) else .ok { g with a := { g.a with origin := numF 1 x.val } })
 else if x.kind = 2 then (match readA wide x.val with
  | none => .error (11, [])
  | some l => .ok { g with a := { g.a with path := l } })
 else if x.kind = 3 then (if nextA (numF 4 x.val) = true then .ok { g with a := { g.a with next := numF 4 x.val } } else .error (8, x.all))
 else if x.kind = 4 then .ok { g with a := { g.a with med := numF 4 x.val } }
 else if x.kind = 5 then .ok { g with a := { g.a with pref := numF 4 x.val } }
 else if x.kind = 6 then .ok { g with a := { g.a with atomic := true } }
 else if x.kind = 7 then .ok { g with a := { g.a with aggrAS := numF (szA wide) x.val, hasAggr := true, aggrAddr := numSec (szA wide) x.val }, hasOld := true, oldAS := numF (szA wide) x.val }
 else if x.kind = 8 then (if 32 < x.val.length / 4 then .error (9, x.all) else .ok { g with a := { g.a with comms := g.a.comms ++ commsA x.val } })
 else if x.kind = 17 then .ok { g with more := (readA true x.val).getD [] }
 else if x.kind = 18 then .ok (if x.val.length = 8 then { g with newAS := x.val } else g)
 else .ok g
def endA (wide : Bool) (g : Gr) : At :=
 if wide = true ∨ g.hasOld = true ∧ g.oldAS ≠ 23456 then g.a
 else
  let a : At := if hasN g.kinds 2 = true then { g.a with path := mergeA g.a.path g.more } else g.a
  if g.hasOld = true ∧ 0 < g.newAS.length then { a with aggrAS := numF 4 g.newAS, aggrAddr := numSec 4 g.newAS } else a
/-- One attribute more. -/
def stepA (wide : Bool) (g : Gr) (x : One) : Except FtA Gr :=
 if hasN g.kinds x.kind = true then .error (1, [])
 else if knownA x.kind = true then
  (if formA wide x ≠ 0 then .error (formA wide x, x.all) else knwA wide { g with kinds := g.kinds ++ [x.kind] } x)
 else unkA { g with kinds := g.kinds ++ [x.kind] } x
def loopA (wide : Bool) : Nat → Gr → List UInt8 → Except FtA Gr
 | 0, g, _ => .ok g
 | _ + 1, g, [] => .ok g
 | f + 1, g, b@(_ :: _) => match splitA b with
  | none => .error (1, [])
  | some (x, t) => match stepA wide g x with
   | .error e => .error e
   | .ok g' => loopA wide f g' t
def zeroAt : At := ⟨0, [], 0, -1, -1, false, false, 0, 0, [], []⟩
def zeroGr : Gr := ⟨zeroAt, [], [], false, 0, []⟩
/-- What bytes say: attributes, and the kinds that came; or a fault. -/
def readAt (b : List UInt8) (wide : Bool) : Except FtA (At × List Int) :=
 match loopA wide b.length zeroGr b with
 | .error e => .error e
 | .ok g => .ok (endA wide g, g.kinds)
theorem knwA_kinds {wide : Bool} {g g' : Gr} {x : One} (h : knwA wide g x = .ok g') : g'.kinds = g.kinds := by
 unfold knwA at h
 by_cases c1 : x.kind = 1
 ·rw [if_pos c1] at h
  by_cases c : 2 < numF 1 x.val
  ·rw [if_pos c] at h; cases h
  ·rw [if_neg c] at h; cases h; rfl
 rw [if_neg c1] at h
 by_cases c2 : x.kind = 2
 ·rw [if_pos c2] at h
  cases hr : readA wide x.val <;> rw [hr] at h <;> cases h
  rfl
 rw [if_neg c2] at h
 by_cases c3 : x.kind = 3
 ·rw [if_pos c3] at h
  by_cases c : nextA (numF 4 x.val) = true
  ·rw [if_pos c] at h; cases h; rfl
  ·rw [if_neg c] at h; cases h
 rw [if_neg c3] at h
 by_cases c4 : x.kind = 4
 ·rw [if_pos c4] at h; cases h; rfl
 rw [if_neg c4] at h
 by_cases c5 : x.kind = 5
 ·rw [if_pos c5] at h; cases h; rfl
 rw [if_neg c5] at h
 by_cases c6 : x.kind = 6
 ·rw [if_pos c6] at h; cases h; rfl
 rw [if_neg c6] at h
 by_cases c7 : x.kind = 7
 ·rw [if_pos c7] at h; cases h; rfl
 rw [if_neg c7] at h
 by_cases c8 : x.kind = 8
 ·rw [if_pos c8] at h
  by_cases c : 32 < x.val.length / 4
  ·rw [if_pos c] at h; cases h
  ·rw [if_neg c] at h; cases h; rfl
 rw [if_neg c8] at h
 by_cases c9 : x.kind = 17
 ·rw [if_pos c9] at h; cases h; rfl
 rw [if_neg c9] at h
 by_cases c10 : x.kind = 18
 ·rw [if_pos c10] at h
  by_cases c : x.val.length = 8
  ·rw [if_pos c] at h; cases h; rfl
  ·rw [if_neg c] at h; cases h; rfl
 rw [if_neg c10] at h
 cases h
 rfl
theorem unkA_kinds {g g' : Gr} {x : One} (h : unkA g x = .ok g') : g'.kinds = g.kinds := by
 unfold unkA at h
 by_cases c1 : optF x.fl = false
 ·rw [if_pos c1] at h; cases h
 rw [if_neg c1] at h
 by_cases c2 : trF x.fl = false
 ·rw [if_pos c2] at h; cases h; rfl
 rw [if_neg c2] at h
 by_cases c3 : 64 < x.val.length ∨ 8 ≤ g.a.raws.length
 ·rw [if_pos c3] at h; cases h
 ·rw [if_neg c3] at h; cases h; rfl
theorem kinds_nodup {wide : Bool} {g g' : Gr} {x : One} (h : stepA wide g x = .ok g') : hasN g.kinds x.kind = false ∧ g'.kinds = g.kinds ++ [x.kind] := by
 unfold stepA at h
 by_cases c1 : hasN g.kinds x.kind = true
 ·rw [if_pos c1] at h; cases h
 rw [if_neg c1] at h
 refine ⟨by simpa using c1, ?_⟩
 by_cases c2 : knownA x.kind = true
 ·rw [if_pos c2] at h
  by_cases c3 : formA wide x ≠ 0
  ·rw [if_pos c3] at h; cases h
  ·rw [if_neg c3] at h; exact knwA_kinds h
 ·rw [if_neg c2] at h; exact unkA_kinds h
/-- A prefix: its number, and how many bits. -/
abbrev Pfx := Nat × Int
def okQ (p : Pfx) : Bool := pRight p.1 p.2
def pB (p : Pfx) : List UInt8 := pBytes p.1 p.2.toNat
def pfxB (l : List Pfx) : List UInt8 := l.flatMap pB
def putPs (l : List Pfx) : List UInt8 × Int := if l.all okQ = true then (pfxB l, 0) else ([], 1)
theorem okQ_of {p : Pfx} (h : okQ p = true) : ∃ k : Nat, p.2 = k ∧ k ≤ 32 ∧ normN p.1 (k : Int) = p.1 := pRight_of h
theorem pB_len {p : Pfx} (h : okQ p = true) : (pB p).length = 1 + (p.2.toNat + 7) / 8 := by
 obtain ⟨k, hk, h32, _⟩ := okQ_of h
 unfold pB
 rw [hk]
 exact pBytes_len p.1 _ h32
theorem pB_len5 (p : Pfx) : (pB p).length ≤ 5 := by
 unfold pB pBytes
 rw [List.length_take]
 exact Nat.min_le_right _ _
theorem pfxB_len (l : List Pfx) : (pfxB l).length ≤ 5 * l.length := by
 induction l with
 | nil => simp [pfxB]
 | cons p l ih =>
  have := pB_len5 p
  unfold pfxB at ih ⊢
  rw [List.flatMap_cons, List.length_append, List.length_cons]
  omega
theorem pfxB_take {l : List Pfx} {j : Nat} {p : Pfx} (h : l[j]? = some p) : pfxB (l.take (j + 1)) = pfxB (l.take j) ++ pB p := by
 unfold pfxB
 rw [List.take_succ_eq_append_getElem (List.getElem?_eq_some_iff.1 h).1, (List.getElem?_eq_some_iff.1 h).2]
 simp
theorem okAll_take {l : List Pfx} {j : Nat} {p : Pfx} (h : l[j]? = some p) : (l.take (j + 1)).all okQ = ((l.take j).all okQ && okQ p) := by
 rw [List.take_succ_eq_append_getElem (List.getElem?_eq_some_iff.1 h).1, (List.getElem?_eq_some_iff.1 h).2]
 simp
theorem okAll_not {l : List Pfx} {j : Nat} {p : Pfx} (h : l[j]? = some p) (hp : okQ p = false) : l.all okQ = false := by
 refine List.all_eq_false.2 ⟨p, List.mem_of_getElem? h, by simp [hp]⟩
/-- An UPDATE. -/
structure Upd where
 gone : List Pfx
 a : At
 news : List Pfx
def saidB (wide : Bool) (u : Upd) : List UInt8 := if u.news.length = 0 then [] else attsB wide u.a
def updOk (u : Upd) : Bool := u.gone.all okQ && u.news.all okQ && (decide (u.news.length = 0) || rightAt u.a)
/-- A body of its three parts. -/
def updB (g s n : List UInt8) : List UInt8 := b16 (g.length : Int) ++ g ++ b16 (s.length : Int) ++ s ++ n
def updLen (wide : Bool) (u : Upd) : Nat := (pfxB u.gone).length + (saidB wide u).length + (pfxB u.news).length + 4
/-- A body, and an error's number. -/
def updPut (wide : Bool) (u : Upd) : List UInt8 × Int :=
 if updOk u = true then (if 4077 < updLen wide u then ([], 4) else (updB (pfxB u.gone) (saidB wide u) (pfxB u.news), 0)) else ([], 1)
theorem updB_len (g s n : List UInt8) : (updB g s n).length = g.length + s.length + n.length + 4 := by
 unfold updB b16
 simp only [List.length_append, List.length_cons, List.length_nil]
 omega
/-- The number of the first four bytes; what lacks is 0. -/
def numP (l : List UInt8) (j : Nat) : Nat := match j with
 | 0 => 0
 | j + 1 => numP l j + lb l j * 2 ^ (24 - 8 * j)
/-- A prefix ahead, and what stands behind it. -/
def pfx1 : List UInt8 → Option (Pfx × List UInt8)
 | [] => none
 | c :: t => if 32 < c.toNat then none else if t.length < (c.toNat + 7) / 8 then none else some ((normN (numP (t.take ((c.toNat + 7) / 8)) ((c.toNat + 7) / 8)) (c.toNat : Int), (c.toNat : Int)), t.drop ((c.toNat + 7) / 8))
theorem pfx1_cons (c : UInt8) (t : List UInt8) : pfx1 (c :: t) = if 32 < c.toNat then none else if t.length < (c.toNat + 7) / 8 then none else some ((normN (numP (t.take ((c.toNat + 7) / 8)) ((c.toNat + 7) / 8)) (c.toNat : Int), (c.toNat : Int)), t.drop ((c.toNat + 7) / 8)) := rfl
theorem pfx1_len {l t : List UInt8} {p : Pfx} (h : pfx1 l = some (p, t)) : t.length < l.length := by
 cases l with
 | nil => cases h
 | cons c l =>
  rw [pfx1_cons] at h
  by_cases h1 : 32 < c.toNat
  ·rw [if_pos h1] at h; cases h
  rw [if_neg h1] at h
  by_cases h2 : l.length < (c.toNat + 7) / 8
  ·rw [if_pos h2] at h; cases h
  rw [if_neg h2] at h
  injection h with h
  injection h with _ h
  subst h
  rw [List.length_drop, List.length_cons]
  omega
/-- All prefixes of bytes. -/
def pfxsF : Nat → List UInt8 → Option (List Pfx)
 | _, [] => some []
 | 0, _ :: _ => none
 | f + 1, c :: t => match pfx1 (c :: t) with
  | none => none
  | some (p, t') => (pfxsF f t').map (p :: ·)
def pfxs (l : List UInt8) : Option (List Pfx) := pfxsF l.length l
theorem pfxsF_more : ∀ (f : Nat) (l : List UInt8), l.length ≤ f → pfxsF f l = pfxsF l.length l := by
 intro f
 induction f using Nat.strongRecOn with
 | _ f ih =>
  intro l hl
  cases l with
  | nil => cases f <;> rfl
  | cons c t =>
   cases f with
   | zero => simp at hl
   | succ f =>
    rw [List.length_cons]
    unfold pfxsF
    cases h : pfx1 (c :: t) with
    | none => rfl
    | some x =>
     obtain ⟨p, t'⟩ := x
     have h1 := pfx1_len h
     rw [List.length_cons] at h1 hl
     simp only
     rw [ih f (by omega) t' (by omega)]
     rcases Nat.lt_or_ge t.length (f + 1) with h2 | h2
     ·rw [ih t.length h2 t' (by omega)]
     ·omega
theorem pfxs_nil : pfxs [] = some [] := rfl
theorem pfxs_no {l : List UInt8} (h0 : l ≠ []) (h : pfx1 l = none) : pfxs l = none := by
 cases l with
 | nil => exact absurd rfl h0
 | cons c t =>
  unfold pfxs
  rw [List.length_cons]
  unfold pfxsF
  rw [h]
theorem pfxs_yes {l t : List UInt8} {p : Pfx} (h : pfx1 l = some (p, t)) : pfxs l = (pfxs t).map (p :: ·) := by
 cases l with
 | nil => cases h
 | cons c l =>
  have h1 := pfx1_len h
  rw [List.length_cons] at h1
  unfold pfxs
  rw [List.length_cons]
  conv => lhs; unfold pfxsF
  rw [h]
  simp only
  rw [pfxsF_more l.length t (by omega)]
/-- What is left to read, behind those that came. -/
def pfxsO (done : List Pfx) (l : List UInt8) : Option (List Pfx) := (pfxs l).map (done ++ ·)
theorem pfxsO_nil (done : List Pfx) : pfxsO done [] = some done := by simp [pfxsO, pfxs_nil]
theorem pfxsO_no {done : List Pfx} {l : List UInt8} (h0 : l ≠ []) (h : pfx1 l = none) : pfxsO done l = none := by rw [pfxsO, pfxs_no h0 h]; rfl
theorem pfxsO_yes {done : List Pfx} {l t : List UInt8} {p : Pfx} (h : pfx1 l = some (p, t)) : pfxsO done l = pfxsO (done ++ [p]) t := by
 unfold pfxsO
 rw [pfxs_yes h, Option.map_map]
 congr 1
 funext x
 simp
theorem pfxsO_zero (l : List UInt8) : pfxsO [] l = pfxs l := by
 unfold pfxsO
 cases pfxs l <;> rfl
theorem numP_b32 (a q : Nat) (ha : a < 4294967296) (hq : q ≤ 4) : ∀ j, j ≤ q → numP ((b32 (a : Int)).take q) j = aJ a j := by
 intro j
 induction j with
 | zero => intro _; rw [aJ_zero ha]; rfl
 | succ j ih =>
  intro hj
  show numP _ j + _ = _
  rw [ih (by omega), lb_b32 a q j ha (by omega) hq]
  unfold aJ
  have e : 2 ^ (32 - 8 * j) = 2 ^ (24 - 8 * j) * 256 := by
   rw [show 32 - 8 * j = (24 - 8 * j) + 8 by omega, Nat.pow_add]
  rw [show 32 - 8 * (j + 1) = 24 - 8 * j by omega, e, ← Nat.div_div_eq_div_mul]
  generalize a / 2 ^ (24 - 8 * j) = x
  generalize 2 ^ (24 - 8 * j) = y
  have h := Nat.div_add_mod x 256
  calc x / 256 * (y * 256) + x % 256 * y = (256 * (x / 256) + x % 256) * y := by rw [Nat.add_mul, Nat.mul_comm y 256, ← Nat.mul_assoc, Nat.mul_comm (x / 256) 256]
   _ = x * y := by rw [h]
theorem pfx1_put {p : Pfx} (h : okQ p = true) (ha : p.1 < 4294967296) (M : List UInt8) : pfx1 (pB p ++ M) = some (p, M) := by
 obtain ⟨k, hk, h32, hn⟩ := okQ_of h
 obtain ⟨a, n⟩ := p
 simp only at hk ha hn
 subst hk
 unfold pB
 simp only [Int.toNat_natCast]
 rw [pBytes_eq, List.cons_append]
 have hu : (ub (k : Int)).toNat = k := by
  have := ub_toNat (e := (k : Int)) (by omega) (by omega)
  omega
 obtain ⟨q, hq⟩ : ∃ q, (k + 7) / 8 = q := ⟨_, rfl⟩
 have hq4 : q ≤ 4 := by omega
 have hl : ((b32 (a : Int)).take q).length = q := by rw [List.length_take]; show min _ 4 = _; omega
 rw [pfx1_cons, hu, hq, if_neg (by omega), if_neg (by rw [List.length_append, hl]; omega), List.take_left' hl, List.drop_left' hl, numP_b32 a q ha hq4 q (Nat.le_refl _), aJ_eq a q hq4, normN_norm _ _ _ (by rw [cl_nat h32, cl_nat (by omega)]; omega), hn]
theorem pfxs_put : ∀ (l : List Pfx), l.all okQ = true → (∀ p ∈ l, p.1 < 4294967296) → pfxs (pfxB l) = some l
 | [], _, _ => rfl
 | p :: l, h, hw => by
  rw [List.all_cons, Bool.and_eq_true] at h
  rw [show pfxB (p :: l) = pB p ++ pfxB l from List.flatMap_cons, pfxs_yes (pfx1_put h.1 (hw p (by simp)) _), pfxs_put l h.2 (fun q hq => hw q (by simp [hq]))]
  rfl
/-- The three parts of bytes, and whether they are short. -/
structure Cut5 where
 gone : List UInt8
 said : List UInt8
 rest : List UInt8
 short : Bool
def cut5 (b : List UInt8) : Cut5 :=
 let l1 := tkLeft b false (2 : Nat); let s1 := tkShort b false (2 : Nat); let n : Int := (numL (tkOut b false (2 : Nat)) : Nat)
 let l2 := tkLeft l1 s1 n; let s2 := tkShort l1 s1 n
 let l3 := tkLeft l2 s2 (2 : Nat); let s3 := tkShort l2 s2 (2 : Nat); let m : Int := (numL (tkOut l2 s2 (2 : Nat)) : Nat)
 ⟨tkOut l1 s1 n, tkOut l3 s3 m, tkLeft l3 s3 m, tkShort l3 s3 m⟩
theorem cut5_put {g s n : List UInt8} (hg : g.length < 65536) (hs : s.length < 65536) : cut5 (updB g s n) = ⟨g, s, n, false⟩ := by
 have e : updB g s n = b16 (g.length : Int) ++ (g ++ (b16 (s.length : Int) ++ (s ++ n))) := by unfold updB; simp only [List.append_assoc]
 have n1 : numL (b16 (g.length : Int)) = g.length := by have := numL_b16 (m := (g.length : Int)) (by omega) (by omega); omega
 have n2 : numL (b16 (s.length : Int)) = s.length := by have := numL_b16 (m := (s.length : Int)) (by omega) (by omega); omega
 have l2 : ∀ m : Int, (b16 m).length = 2 := fun m => rfl
 rw [e]
 unfold cut5
 have t1 := tk_yes (l := b16 (g.length : Int) ++ (g ++ (b16 (s.length : Int) ++ (s ++ n)))) (k := 2) (by rw [List.length_append, l2]; omega)
 rw [List.take_left' (l2 _), List.drop_left' (l2 _)] at t1
 have t2 := tk_yes (l := g ++ (b16 (s.length : Int) ++ (s ++ n))) (k := g.length) (by rw [List.length_append]; omega)
 rw [List.take_left' rfl, List.drop_left' rfl] at t2
 have t3 := tk_yes (l := b16 (s.length : Int) ++ (s ++ n)) (k := 2) (by rw [List.length_append, l2]; omega)
 rw [List.take_left' (l2 _), List.drop_left' (l2 _)] at t3
 have t4 := tk_yes (l := s ++ n) (k := s.length) (by rw [List.length_append]; omega)
 rw [List.take_left' rfl, List.drop_left' rfl] at t4
 simp only [t1, n1, t2, t3, n2, t4]
/-- Nothing. -/
def noAt : At := ⟨0, [], 0, 0, 0, false, false, 0, 0, [], []⟩
def noUpd : Upd := ⟨[], noAt, []⟩
/-- The first kind that must be there and is not. -/
def missK (kinds : List Int) (inner : Bool) : Int := if hasN kinds 1 = false then 1 else if hasN kinds 2 = false then 2 else if hasN kinds 3 = false then 3 else if inner = true ∧ hasN kinds 5 = false then 5 else 0
/-- What bytes say, or a fault. -/
def updRead (b : List UInt8) (wide inner : Bool) (near : Int) : Except FtA Upd :=
 let c := cut5 b
 if c.short = true then .error (1, []) else match pfxs c.gone with
 | none => .error (10, [])
 | some gone => match readAt c.said wide with
  | .error e => .error e
  | .ok x => match pfxs c.rest with
   | none => .error (10, [])
   | some news => if news.length = 0 then .ok ⟨gone, noAt, []⟩ else
    if missK x.2 inner ≠ 0 then .error (3, [ub (missK x.2 inner)]) else
    if inner = false ∧ near ≠ 0 ∧ firstA x.1.path ≠ (near, true) then .error (11, []) else
    .ok ⟨gone, if inner = true then x.1 else { x.1 with pref := -1 }, news⟩
end Go.Proofs.YthgjknmfghjioaaGreatDoor
