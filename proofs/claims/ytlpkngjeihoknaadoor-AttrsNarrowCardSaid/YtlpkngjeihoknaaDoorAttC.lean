/- Walks of layer 4 (attributes): whether any may be; whether they are few; what nothing says. Conditions: the table of looks. -/
import Derived.Test.YtlpkngjeihoknaaDoorProg
import Derived.WalkKit
import Derived.WalkSpells
import Derived.WalkLawsBesides
import Derived.Outline
import Derived.Deep.QuietTactic
import Derived.BigQuiet
import Derived.Handy
import Derived.Lib.Hide
import Derived.Deep.DeepCutAuto
import Derived.Deep.CutBlock
import Derived.Test.YtlpkngjeihoknaaDoorAttB
namespace Go.Proofs.YtlpkngjeihoknaaDoor
open Go.RowKit
set_option linter.unusedSimpArgs false
set_option linter.unusedVariables false
theorem att_info1 : (Tryd.prog.info? 54).map (·.size) = some 11 := by kernel_rfl
theorem att_ret {fn : Func} {p : Tmp} (h : fn.results = #[.cell p 54]) (tmps : Array Value) (w : World) (g : Nat) (x0 x1 x2 x3 x4 x5 x6 x7 x8 x9 x10 : Value)
    (hp : tmps.getD p undef = .pointer (some ⟨g, 0, none⟩)) (hB : Blk w g 54 #[x0, x1, x2, x3, x4, x5, x6, x7, x8, x9, x10]) :
    (results fn tmps).run Tryd.prog w = .ok (.agg #[x0, x1, x2, x3, x4, x5, x6, x7, x8, x9, x10]) w := by
  have hp' : tmps[p]?.getD undef = .pointer (some ⟨g, 0, none⟩) := by simpa using hp
  have := run_loadVar_row (P := Tryd.prog) w g 54 54 #[x0, x1, x2, x3, x4, x5, x6, x7, x8, x9, x10] (0, 0) _ hB Tryd.underlying54 rfl att_info1
  simp [results, h, hp', asAddr, this]
set_option maxHeartbeats 8000000 in
set_option maxRecDepth 100000 in
theorem attRight (o : Int) (A : Option Addr) (n c : Nat) (path : List Seg) (nx md pf : Int) (at_ ha : Bool) (gs ga : Int) (A1 : Option Addr) (n1 c1 : Nat) (comms : List Int) (A2 : Option Addr) (n2 c2 : Nat) (raws : List RawV) (w : World) (hp : DL rSeg 2 w (Lo w) A n path) (hc : n1 = comms.length) (hd : DL rRaw 3 w (Lo w) A2 n2 raws) (hn : n ≤ 100000) (hn2 : n2 ≤ 100000) (ht : LookTab w) :
    Calls Tryd.prog 48 #[.agg #[.int .i64 o, .slice A n c, .int .u32 nx, .int .i64 md, .int .i64 pf, .bool at_, .bool ha, .int .u32 gs, .int .u32 ga, .slice A1 n1 c1, .slice A2 n2 c2]] w fun en w' => en = .returned (.bool (rightAt (⟨o, path, nx, md, pf, at_, ha, gs, ga, comms, raws⟩ : At))) ∧ Below w.heap.size w w' := by
  have HN := Lib.hid hd.len
  have HC := Lib.hid hc
  clear hc
  obtain ⟨pr, hpr⟩ : ∃ pr, rightA path = pr := ⟨_, rfl⟩
  have HR := Lib.hid (show ∀ w', DL rSeg 2 w' (Lo w') A n path → Calls Tryd.prog 32 #[.slice A n c] w' fun en w'' => en = .returned (.bool pr) ∧ Below w'.heap.size w' w'' from fun w' h => by rw [← hpr]; exact aspRight A n c path w' h hn)
  have HPR := Lib.hid hpr
  obtain ⟨rr, hrr⟩ : ∃ rr, (rawsA raws && decide (raws.length ≤ 8)) = rr := ⟨_, rfl⟩
  have HRW := Lib.hid (show ∀ w', DL rRaw 3 w' (Lo w') A2 n2 raws → LookTab w' → Calls Tryd.prog 90 #[.slice A2 n2 c2] w' fun en w'' => en = .returned (.bool rr) ∧ Below w'.heap.size w' w'' from fun w' h h' => by rw [← hrr]; exact attRaws A2 n2 c2 raws w' h hn2 h')
  have HRR := Lib.hid hrr
  obtain ⟨nm, hnm⟩ : ∃ b, numA md = b := ⟨_, rfl⟩
  obtain ⟨np, hnp⟩ : ∃ b, numA pf = b := ⟨_, rfl⟩
  have HNM := Lib.hid (show ∀ w', Calls Tryd.prog 89 #[.int .i64 md] w' fun en w'' => en = .returned (.bool nm) ∧ w' = w'' from fun w' => by rw [← hnm]; exact attNumber md w')
  have HNP := Lib.hid (show ∀ w', Calls Tryd.prog 89 #[.int .i64 pf] w' fun en w'' => en = .returned (.bool np) ∧ w' = w'' from fun w' => by rw [← hnp]; exact attNumber pf w')
  have HM := Lib.hid hnm
  have HP := Lib.hid hnp
  obtain ⟨W, hW, hX, bW⟩ := box1c w #[.int .i64 o, .slice A n c, .int .u32 nx, .int .i64 md, .int .i64 pf, .bool at_, .bool ha, .int .u32 gs, .int .u32 ga, .slice A1 n1 c1, .slice A2 n2 c2] 54
  have hdW := hd.keep rRaw_ok (Kp.call bW)
  have hpW := hp.keep rSeg_ok (Kp.call bW)
  have htW := ht.call bW
  go_enter Tryd.func48, Tryd.ntmps48
  go_upto_region 1 with fail
  try rw [hW]
  clear hW hpr hrr hnm hnp
  have hXl := hX.lt
  obtain ⟨q, hq⟩ : ∃ q, w.heap.size = q := ⟨_, rfl⟩
  have HQ := Lib.hid hq
  rw [hq] at hX hXl
  try rw [hq]
  clear hq
  have y0 : W.cell? ⟨q, 0, none⟩ = some (.int .i64 o) := hX.cell 0
  have y1 : W.cell? ⟨q, 1, none⟩ = some (.slice A n c) := hX.cell 1
  have HPW := Lib.hid hpW
  have HBW := Lib.hid bW
  clear hpW hp hd
  by_cases c0 : o < 0
  · have t0 : decide (o < 0) = true := decide_eq_true c0
    have HG := Lib.hid (rightAt_no (a := (⟨o, path, nx, md, pf, at_, ha, gs, ga, comms, raws⟩ : At)) (.inl (fun h => by have := h.1; simp only at this; omega)))
    clear c0
    go_wp2_with fail
    go_ret
    exact ⟨ret_b HG.out.symm, HBW.out⟩
  have t0 : decide (o < 0) = false := decide_eq_false c0
  by_cases c1 : 2 < o
  · have t1 : decide (2 < o) = true := decide_eq_true c1
    have HG := Lib.hid (rightAt_no (a := (⟨o, path, nx, md, pf, at_, ha, gs, ga, comms, raws⟩ : At)) (.inl (fun h => by have := h.2; simp only at this; omega)))
    clear c0 c1
    go_wp2_with fail
    go_ret
    exact ⟨ret_b HG.out.symm, HBW.out⟩
  have t1 : decide (2 < o) = false := decide_eq_false c1
  have HO := Lib.hid (show 0 ≤ o ∧ o ≤ 2 by omega)
  clear c0 c1
  go_wp2_with fail
  refine (HR.out _ HPW.out).mono ?_
  rintro _ w5 ⟨rfl, b5⟩
  have HB5 := Lib.hid (btr HBW.out b5 HBW.out.size)
  have hX5 := hX.below b5 hX.lt
  have htR := Lib.hid (htW.call b5)
  have hdR := Lib.hid (hdW.keep rRaw_ok (Kp.call b5))
  clear y0 y1 htW hdW
  have y10 : w5.cell? ⟨q, 10, none⟩ = some (.slice A2 n2 c2) := hX5.cell 10
  have y9 : w5.cell? ⟨q, 9, none⟩ = some (.slice A1 n1 c1) := hX5.cell 9
  have y3 : w5.cell? ⟨q, 3, none⟩ = some (.int .i64 md) := hX5.cell 3
  have y4 : w5.cell? ⟨q, 4, none⟩ = some (.int .i64 pf) := hX5.cell 4
  have y6 : w5.cell? ⟨q, 6, none⟩ = some (.bool ha) := hX5.cell 6
  have y7 : w5.cell? ⟨q, 7, none⟩ = some (.int .u32 gs) := hX5.cell 7
  have y8 : w5.cell? ⟨q, 8, none⟩ = some (.int .u32 ga) := hX5.cell 8
  cases pr
  · skip
    have HG := Lib.hid (rightAt_no (a := (⟨o, path, nx, md, pf, at_, ha, gs, ga, comms, raws⟩ : At)) (.inr (.inl HPR.out)))
    go_wp2_with fail
    go_ret
    exact ⟨ret_b HG.out.symm, HB5.out⟩
  go_wp2_with fail
  refine (HNM.out _).mono ?_
  rintro _ _ ⟨rfl, rfl⟩
  cases nm
  · skip
    have HG := Lib.hid (rightAt_no (a := (⟨o, path, nx, md, pf, at_, ha, gs, ga, comms, raws⟩ : At)) (.inr (.inr (.inl HM.out))))
    go_wp2_with fail
    go_ret
    exact ⟨ret_b HG.out.symm, HB5.out⟩
  go_wp2_with fail
  refine (HNP.out _).mono ?_
  rintro _ _ ⟨rfl, rfl⟩
  cases np
  · skip
    have HG := Lib.hid (rightAt_no (a := (⟨o, path, nx, md, pf, at_, ha, gs, ga, comms, raws⟩ : At)) (.inr (.inr (.inr (.inl HP.out)))))
    go_wp2_with fail
    go_ret
    exact ⟨ret_b HG.out.symm, HB5.out⟩
  cases ha
  case true =>
    by_cases c3 : n1 ≤ 32
    case neg =>
      have t3 : decide ((n1 : Int) ≤ 32) = false := decide_eq_false (by omega)
      have t3' : decide (n1 ≤ 32) = false := decide_eq_false c3
      have HG := Lib.hid (rightAt_no (a := ⟨o, path, nx, md, pf, at_, true, gs, ga, comms, raws⟩) (.inr (.inr (.inr (.inr (.inr (.inl (by have := HC.out; simp only; omega))))))))
      clear c3 
      go_wp2_with fail
      go_ret
      exact ⟨ret_b HG.out.symm, HB5.out⟩
    have t3 : decide ((n1 : Int) ≤ 32) = true := decide_eq_true (by omega)
    have t3' : decide (n1 ≤ 32) = true := decide_eq_true c3
    have HL := Lib.hid (show comms.length ≤ 32 by have := HC.out; omega)
    have HAG0 := 0
    clear c3 
    go_wp2_with fail
    refine (HRW.out _ hdR.out htR.out).mono ?_
    rintro _ w6 ⟨rfl, b6⟩
    have HB6 := Lib.hid (btr HB5.out b6 HB5.out.size)
    cases rr
    · have HG := Lib.hid (show rightAt ⟨o, path, nx, md, pf, at_, true, gs, ga, comms, raws⟩ = false from by
        have h := HRR.out
        cases hra : rawsA raws
        · exact rightAt_no (.inr (.inr (.inr (.inr (.inr (.inr (.inl hra)))))))
        · rw [hra, Bool.true_and] at h
          exact rightAt_no (.inr (.inr (.inr (.inr (.inr (.inr (.inr (by have := of_decide_eq_false h; simp only; omega))))))))) 
      go_wp2_with fail
      go_ret
      exact ⟨ret_b HG.out.symm, HB6.out⟩
    · have HG := Lib.hid (show rightAt ⟨o, path, nx, md, pf, at_, true, gs, ga, comms, raws⟩ = true from by
        have h := HRR.out
        simp only [Bool.and_eq_true] at h
        exact rightAt_yes HO.out HPR.out HM.out HP.out (.inl rfl) HL.out h.1 (of_decide_eq_true h.2))
      go_wp2_with fail
      go_ret
      exact ⟨ret_b HG.out.symm, HB6.out⟩
  case false =>
    by_cases g0 : gs = 0
    case neg =>
      have tg : (gs != 0) = true := by simp; omega
      have HG := Lib.hid (rightAt_no (a := ⟨o, path, nx, md, pf, at_, false, gs, ga, comms, raws⟩) (.inr (.inr (.inr (.inr (.inl ⟨rfl, fun h => g0 h.1⟩))))))
      clear g0
      go_wp2_with fail
      go_ret
      exact ⟨ret_b HG.out.symm, HB5.out⟩
    have tg : (gs != 0) = false := by simp; omega
    by_cases g1 : ga = 0
    case neg =>
      have tg1 : (ga != 0) = true := by simp; omega
      have HG := Lib.hid (rightAt_no (a := ⟨o, path, nx, md, pf, at_, false, gs, ga, comms, raws⟩) (.inr (.inr (.inr (.inr (.inl ⟨rfl, fun h => g1 h.2⟩))))))
      clear g0 g1
      go_wp2_with fail
      go_ret
      exact ⟨ret_b HG.out.symm, HB5.out⟩
    have tg1 : (ga != 0) = false := by simp; omega
    by_cases c3 : n1 ≤ 32
    case neg =>
      have t3 : decide ((n1 : Int) ≤ 32) = false := decide_eq_false (by omega)
      have t3' : decide (n1 ≤ 32) = false := decide_eq_false c3
      have HG := Lib.hid (rightAt_no (a := ⟨o, path, nx, md, pf, at_, false, gs, ga, comms, raws⟩) (.inr (.inr (.inr (.inr (.inr (.inl (by have := HC.out; simp only; omega))))))))
      clear c3 g0 g1
      go_wp2_with fail
      go_ret
      exact ⟨ret_b HG.out.symm, HB5.out⟩
    have t3 : decide ((n1 : Int) ≤ 32) = true := decide_eq_true (by omega)
    have t3' : decide (n1 ≤ 32) = true := decide_eq_true c3
    have HL := Lib.hid (show comms.length ≤ 32 by have := HC.out; omega)
    have HAG := Lib.hid (And.intro g0 g1)
    clear c3 g0 g1
    go_wp2_with fail
    refine (HRW.out _ hdR.out htR.out).mono ?_
    rintro _ w6 ⟨rfl, b6⟩
    have HB6 := Lib.hid (btr HB5.out b6 HB5.out.size)
    cases rr
    · have HG := Lib.hid (show rightAt ⟨o, path, nx, md, pf, at_, false, gs, ga, comms, raws⟩ = false from by
        have h := HRR.out
        cases hra : rawsA raws
        · exact rightAt_no (.inr (.inr (.inr (.inr (.inr (.inr (.inl hra)))))))
        · rw [hra, Bool.true_and] at h
          exact rightAt_no (.inr (.inr (.inr (.inr (.inr (.inr (.inr (by have := of_decide_eq_false h; simp only; omega))))))))) 
      go_wp2_with fail
      go_ret
      exact ⟨ret_b HG.out.symm, HB6.out⟩
    · have HG := Lib.hid (show rightAt ⟨o, path, nx, md, pf, at_, false, gs, ga, comms, raws⟩ = true from by
        have h := HRR.out
        simp only [Bool.and_eq_true] at h
        exact rightAt_yes HO.out HPR.out HM.out HP.out (.inr HAG.out) HL.out h.1 (of_decide_eq_true h.2))
      go_wp2_with fail
      go_ret
      exact ⟨ret_b HG.out.symm, HB6.out⟩
/-- Attributes that are small enough. -/
def fewAt (path : List Seg) (comms : List Int) (raws : List RawV) : Bool := fewA path && decide (comms.length ≤ 60) && decide (raws.length ≤ 12) && raws.all fun x => decide (x.2.2.length ≤ 400)
theorem fewAt_of {path : List Seg} {comms : List Int} {raws : List RawV} (h : fewAt path comms raws = true) : fewA path = true ∧ comms.length ≤ 60 ∧ raws.length ≤ 12 ∧ ∀ x ∈ raws, x.2.2.length ≤ 400 := by
  unfold fewAt at h
  simp only [Bool.and_eq_true, decide_eq_true_eq] at h
  exact ⟨h.1.1.1, h.1.1.2, h.1.2, fun x hx => of_decide_eq_true (List.all_eq_true.1 h.2 x hx)⟩
set_option maxHeartbeats 8000000 in
set_option maxRecDepth 100000 in
theorem law04Few (o : Int) (A : Option Addr) (n c : Nat) (path : List Seg) (nx md pf : Int) (at_ ha : Bool) (gs ga : Int) (A1 : Option Addr) (n1 c1 : Nat) (comms : List Int) (A2 : Option Addr) (n2 c2 : Nat) (raws : List RawV) (w : World) (hp : DL rSeg 2 w (Lo w) A n path) (hc : n1 = comms.length) (hd : DL rRaw 3 w (Lo w) A2 n2 raws) :
    Calls Tryd.prog 46 #[.agg #[.int .i64 o, .slice A n c, .int .u32 nx, .int .i64 md, .int .i64 pf, .bool at_, .bool ha, .int .u32 gs, .int .u32 ga, .slice A1 n1 c1, .slice A2 n2 c2]] w fun en w' => en = .returned (.bool (fewAt path comms raws)) ∧ Below w.heap.size w w' := by
  have HN := Lib.hid hd.len
  have HC := Lib.hid hc
  clear hc
  obtain ⟨pr, hpr⟩ : ∃ pr, fewA path = pr := ⟨_, rfl⟩
  have HR := Lib.hid (show ∀ w', DL rSeg 2 w' (Lo w') A n path → Calls Tryd.prog 16 #[.slice A n c] w' fun en w'' => en = .returned (.bool pr) ∧ Below w'.heap.size w' w'' from fun w' h => by rw [← hpr]; exact law03Few A n c path w' h)
  have HPR := Lib.hid hpr
  obtain ⟨W, hW, hX, bW⟩ := box1c w #[.int .i64 o, .slice A n c, .int .u32 nx, .int .i64 md, .int .i64 pf, .bool at_, .bool ha, .int .u32 gs, .int .u32 ga, .slice A1 n1 c1, .slice A2 n2 c2] 54
  have hpW := hp.keep rSeg_ok (Kp.call bW)
  go_enter Tryd.func46, Tryd.ntmps46
  go_upto_region 1 with fail
  try rw [hW]
  clear hW hpr
  have hXl := hX.lt
  obtain ⟨q, hq⟩ : ∃ q, w.heap.size = q := ⟨_, rfl⟩
  have HQ := Lib.hid hq
  rw [hq] at hX hXl
  try rw [hq]
  clear hq
  have y1 : W.cell? ⟨q, 1, none⟩ = some (.slice A n c) := hX.cell 1
  have HPW := Lib.hid hpW
  clear hpW hp
  go_wp2_with fail
  refine (HR.out _ HPW.out).mono ?_
  rintro _ w5 ⟨rfl, b5⟩
  have b05 := btr bW b5 bW.size
  have HB5 := Lib.hid b05
  have hX5 := hX.below b5 hX.lt
  clear y1
  have y10 : w5.cell? ⟨q, 10, none⟩ = some (.slice A2 n2 c2) := hX5.cell 10
  have y9 : w5.cell? ⟨q, 9, none⟩ = some (.slice A1 n1 c1) := hX5.cell 9
  have hd5 := hd.keep rRaw_ok (Kp.call b05)
  cases pr
  · have HG := Lib.hid (show fewAt path comms raws = false by unfold fewAt; rw [HPR.out]; rfl)
    go_wp2_with fail
    go_ret
    exact ⟨ret_b HG.out.symm, HB5.out⟩
  by_cases k1 : 60 < n1
  · have t1 : decide ((60 : Int) < (n1 : Int)) = true := decide_eq_true (by omega)
    have t1' : decide (60 < n1) = true := decide_eq_true k1
    have HG := Lib.hid (show fewAt path comms raws = false by unfold fewAt; rw [HPR.out, decide_eq_false (show ¬ comms.length ≤ 60 by have := HC.out; omega)]; rfl)
    clear k1
    go_wp2_with fail
    go_ret
    exact ⟨ret_b HG.out.symm, HB5.out⟩
  have t1 : decide ((60 : Int) < (n1 : Int)) = false := decide_eq_false (by omega)
  have t1' : decide (60 < n1) = false := decide_eq_false k1
  by_cases k2 : 12 < n2
  · have t2 : decide ((12 : Int) < (n2 : Int)) = true := decide_eq_true (by omega)
    have t2' : decide (12 < n2) = true := decide_eq_true k2
    have HG := Lib.hid (show fewAt path comms raws = false by unfold fewAt; rw [decide_eq_false (show ¬ raws.length ≤ 12 by have := HN.out; omega)]; simp)
    clear k1 k2
    go_wp2_with fail
    go_ret
    exact ⟨ret_b HG.out.symm, HB5.out⟩
  have t2 : decide ((12 : Int) < (n2 : Int)) = false := decide_eq_false (by omega)
  have t2' : decide (12 < n2) = false := decide_eq_false k2
  have HL := Lib.hid (show comms.length ≤ 60 ∧ raws.length ≤ 12 by have h1 := HC.out; have h2 := HN.out; omega)
  have hn12 : n2 ≤ 12 := by omega
  clear k1 k2
  go_wp2_with fail
  go_loopw [3] (fun i wr => ∃ j : Nat, j ≤ n2 ∧ i = .int .i64 j ∧ wr = w5 ∧ Hid (∀ i y, i < j → raws[i]? = some y → y.2.2.length ≤ 400)) (fun i _ => n2 - (intOf i).toNat)
  case atStart => exact ⟨0, by omega, rfl, rfl, Lib.hid (fun i y h => by omega)⟩
  case round =>
    obtain ⟨j, hj, rfl, rfl, HA⟩ := hrel
    by_cases hlt : j < n2
    case neg =>
      have e2 : decide ((j : Int) < n2) = false := decide_eq_false (by omega)
      have HG := Lib.hid (show fewAt path comms raws = true by
        unfold fewAt
        rw [HPR.out, decide_eq_true HL.out.1, decide_eq_true HL.out.2]
        simp only [Bool.true_and]
        refine List.all_eq_true.2 fun x hx => ?_
        obtain ⟨i, hi⟩ := List.getElem?_of_mem hx
        exact decide_eq_true (HA.out i x (by have := (List.getElem?_eq_some_iff.1 hi).1; have := HN.out; omega) hi))
      go_wp2_with fail
      go_ret
      exact ⟨ret_b HG.out.symm, HB5.out⟩
    have e2 : decide ((j : Int) < n2) = true := decide_eq_true (by omega)
    have hlti : (j : Int) < n2 := by omega
    obtain ⟨x, hx⟩ := getL HN.out hlt
    have HX := Lib.hid hx
    obtain ⟨b, off, A', n', c', rfl, hbl, k0, k1, k2, hbf, hnc', wf0, wf1⟩ := hd5.rawAt hx
    have HNX := Lib.hid hbf.1
    have wj : IntKind.i64.wrap ((j : Int) + 1) = (j : Int) + 1 := IntWalk.i64_in _ ⟨by omega, by omega⟩
    have hj0 : (0 : Int) ≤ (j : Int) := by omega
    clear hx hbf k0 k1 wf0 wf1
    by_cases k4 : 400 < n'
    · have t4 : decide ((400 : Int) < (n' : Int)) = true := decide_eq_true (by omega)
      have t4' : decide (400 < n') = true := decide_eq_true k4
      have HG := Lib.hid (show fewAt path comms raws = false by
        unfold fewAt
        have : (raws.all fun x => decide (x.2.2.length ≤ 400)) = false := List.all_eq_false.2 ⟨x, List.mem_of_getElem? HX.out, by have := HNX.out; rw [decide_eq_false (by omega)]; simp⟩
        rw [this, Bool.and_false])
      clear k4
      go_wp2_with fail
      go_ret
      exact ⟨ret_b HG.out.symm, HB5.out⟩
    · have t4 : decide ((400 : Int) < (n' : Int)) = false := decide_eq_false (by omega)
      have t4' : decide (400 < n') = false := decide_eq_false k4
      have HS := Lib.hid (show ∀ i y, i < j + 1 → raws[i]? = some y → y.2.2.length ≤ 400 from fun i y hi hy => by
        rcases Nat.lt_or_ge i j with h1 | h1
        · exact HA.out i y h1 hy
        · have : i = j := by omega
          subst this
          rw [HX.out] at hy
          injection hy with hy
          subst hy
          have := HNX.out
          omega)
      clear k4
      go_wp2_with fail
      go_roundw
      case rel => exact ⟨j + 1, by omega, by go_num, (by first | rfl | trivial), HS⟩
      case measure => simp [intOf]; omega
set_option maxHeartbeats 1000000 in
theorem attZero (w : World) : Calls Tryd.prog 55 #[] w fun en w' => en = .returned (.agg #[.int .i64 0, .slice none 0 0, .int .u32 0, .int .i64 (-1), .int .i64 (-1), .bool false, .bool false, .int .u32 0, .int .u32 0, .slice none 0 0, .slice none 0 0]) ∧ Below w.heap.size w w' := by
  obtain ⟨W, hW, hX, bW⟩ := box1c w #[.int .i64 0, .slice none 0 0, .int .u32 0, .int .i64 (-1), .int .i64 (-1), .bool false, .bool false, .int .u32 0, .int .u32 0, .slice none 0 0, .slice none 0 0] 54
  have HW := Lib.hid hW
  clear hW
  go_enter Tryd.func55, Tryd.ntmps55
  go_wp2_with fail
  rw [HW.out]
  refine bodyPost_ret (att_ret rfl _ _ w.heap.size _ _ _ _ _ _ _ _ _ _ _ rfl hX) rfl ?_
  exact ⟨rfl, bW⟩
set_option maxHeartbeats 1000000 in
theorem refZero04 (w : World) : Calls Tryd.prog 56 #[] w fun en w' => en = .returned (.agg #[.int .i64 0, .slice none 0 0, .int .u32 0, .int .i64 (-1), .int .i64 (-1), .bool false, .bool false, .int .u32 0, .int .u32 0, .slice none 0 0, .slice none 0 0]) ∧ Below w.heap.size w w' := by
  obtain ⟨W, hW, hX, bW⟩ := box1c w #[.int .i64 0, .slice none 0 0, .int .u32 0, .int .i64 (-1), .int .i64 (-1), .bool false, .bool false, .int .u32 0, .int .u32 0, .slice none 0 0, .slice none 0 0] 54
  have HW := Lib.hid hW
  clear hW
  go_enter Tryd.func56, Tryd.ntmps56
  go_wp2_with fail
  rw [HW.out]
  refine bodyPost_ret (att_ret rfl _ _ w.heap.size _ _ _ _ _ _ _ _ _ _ _ rfl hX) rfl ?_
  exact ⟨rfl, bW⟩
end Go.Proofs.YtlpkngjeihoknaaDoor
