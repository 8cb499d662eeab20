/- Walks of layer 4 (attributes): whether any may be; the document's. Conditions: the table of looks. -/
import Derived.Test.YtlpkngjeihoknaaDoorProg
import Derived.WalkKit
import Derived.WalkSpells
import Derived.WalkLawsBesides
import Derived.Outline
import Derived.Deep.QuietTactic
import Derived.BigQuiet
import Derived.Handy
import Derived.Lib.Hide
import Derived.Deep.DeepCutAuto
import Derived.Deep.CutBlock
import Derived.Test.YtlpkngjeihoknaaDoorAspB
import Derived.Test.YtlpkngjeihoknaaDoorAttA
namespace Go.Proofs.YtlpkngjeihoknaaDoor
open Go.RowKit
set_option linter.unusedSimpArgs false
set_option linter.unusedVariables false
theorem getL {α : Type} {l : List α} {j n : Nat} (hn : n = l.length) (hj : j < n) : ∃ x, l[j]? = some x := ⟨_, List.getElem?_eq_getElem (by omega)⟩
/-- What may not be at a place: the one ahead, and the one there. -/
def badRaw (prev : Option RawV) (x : RawV) : Bool := decide (x.2.1 < 0 ∨ 255 < x.2.1 ∨ knownA x.2.1 = true ∨ x.1 ≠ 224 ∨ 64 < x.2.2.length) || (match prev with
  | none => false
  | some p => decide (x.2.1 ≤ p.2.1))
def prevAt (l : List RawV) (j : Nat) : Option RawV := if j = 0 then none else l[j - 1]?
def rawsA (l : List RawV) : Bool := (List.range l.length).all fun j => !badRaw (prevAt l j) (l[j]?.getD (0, 0, []))
theorem rawsA_bad {l : List RawV} {j : Nat} {x : RawV} (hx : l[j]? = some x) (h : badRaw (prevAt l j) x = true) : rawsA l = false := by
  unfold rawsA
  refine List.all_eq_false.2 ⟨j, List.mem_range.2 (List.getElem?_eq_some_iff.1 hx).1, ?_⟩
  rw [hx, Option.getD_some, h]; simp
theorem rawsA_ok {l : List RawV} (h : ∀ j x, l[j]? = some x → badRaw (prevAt l j) x = false) : rawsA l = true := by
  unfold rawsA
  refine List.all_eq_true.2 fun j hj => ?_
  have hl := List.mem_range.1 hj
  rw [List.getElem?_eq_getElem hl, Option.getD_some, h j _ (List.getElem?_eq_getElem hl)]
  rfl
theorem rawsA_at {l : List RawV} (h : rawsA l = true) {j : Nat} {x : RawV} (hx : l[j]? = some x) : badRaw (prevAt l j) x = false := by
  unfold rawsA at h
  have := List.all_eq_true.1 h j (List.mem_range.2 (List.getElem?_eq_some_iff.1 hx).1)
  rw [hx, Option.getD_some] at this
  simpa using this
theorem bad_of {prev : Option RawV} {x : RawV} (h : x.2.1 < 0 ∨ 255 < x.2.1 ∨ knownA x.2.1 = true ∨ x.1 ≠ 224 ∨ 64 < x.2.2.length) : badRaw prev x = true := by
  unfold badRaw
  rw [decide_eq_true h, Bool.true_or]
theorem bad_prev {q x : RawV} (h : x.2.1 ≤ q.2.1) : badRaw (some q) x = true := by
  unfold badRaw
  simp only
  rw [decide_eq_true h, Bool.or_true]
theorem good_first {x : RawV} (h : ¬ (x.2.1 < 0 ∨ 255 < x.2.1 ∨ knownA x.2.1 = true ∨ x.1 ≠ 224 ∨ 64 < x.2.2.length)) : badRaw none x = false := by
  unfold badRaw
  rw [decide_eq_false h]; rfl
theorem good_next {q x : RawV} (h : ¬ (x.2.1 < 0 ∨ 255 < x.2.1 ∨ knownA x.2.1 = true ∨ x.1 ≠ 224 ∨ 64 < x.2.2.length)) (h2 : ¬ x.2.1 ≤ q.2.1) : badRaw (some q) x = false := by
  unfold badRaw
  simp only
  rw [decide_eq_false h, decide_eq_false h2]; rfl
theorem prevAt_succ {l : List RawV} {j : Nat} (h : 0 < j) : prevAt l j = l[j - 1]? := by unfold prevAt; rw [if_neg (by omega)]
theorem fine_step {l : List RawV} {j : Nat} {x : RawV} (h : ∀ i y, i < j → l[i]? = some y → badRaw (prevAt l i) y = false) (hx : l[j]? = some x) (hb : badRaw (prevAt l j) x = false) : ∀ i y, i < j + 1 → l[i]? = some y → badRaw (prevAt l i) y = false := by
  intro i y hi hy
  rcases Nat.lt_or_ge i j with h1 | h1
  · exact h i y h1 hy
  · have : i = j := by omega
    subst this
    rw [hx] at hy
    injection hy with hy
    subst hy
    exact hb
def rightAt (a : At) : Bool := decide (0 ≤ a.origin ∧ a.origin ≤ 2) && rightA a.path && numA a.med && numA a.pref && (a.hasAggr || decide (a.aggrAS = 0 ∧ a.aggrAddr = 0)) && decide (a.comms.length ≤ 32) && rawsA a.raws && decide (a.raws.length ≤ 8)
set_option maxHeartbeats 4000000 in
set_option maxRecDepth 100000 in
theorem attRaws (A : Option Addr) (n c : Nat) (l : List RawV) (w : World) (hd : DL rRaw 3 w (Lo w) A n l) (hn : n ≤ 100000) (ht : LookTab w) :
    Calls Tryd.prog 90 #[.slice A n c] w fun en w' => en = .returned (.bool (rawsA l && decide (l.length ≤ 8))) ∧ Below w.heap.size w w' := by
  have HN := Lib.hid hd.len
  have HBAD := Lib.hid (show rawsA l = false → (rawsA l && decide (l.length ≤ 8)) = false from fun h => by rw [h]; rfl)
  go_enter Tryd.func90, Tryd.ntmps90
  go_wp2_with fail
  go_loopw [7] (fun i wr => ∃ j : Nat, j ≤ n ∧ i = .int .i64 j ∧ Hid (∀ i y, i < j → l[i]? = some y → badRaw (prevAt l i) y = false) ∧ Below w.heap.size w wr) (fun i _ => n - (intOf i).toNat)
  case atStart => exact ⟨0, by omega, rfl, Lib.hid (fun i y h => by omega), Below.refl _ _⟩
  case round =>
    obtain ⟨j, hj, rfl, HA, hb⟩ := hrel
    by_cases hlt : j < n
    case neg =>
      have e2 : decide ((j : Int) < n) = false := decide_eq_false (by omega)
      have HF := Lib.hid (show rawsA l = true from rawsA_ok fun i x hx => HA.out i x (by have := (List.getElem?_eq_some_iff.1 hx).1; have := HN.out; omega) hx)
      by_cases h8 : n ≤ 8
      · have e3 : decide ((n : Int) ≤ 8) = true := decide_eq_true (by omega)
        have e3' : decide (n ≤ 8) = true := decide_eq_true h8
        have HG := Lib.hid (show (rawsA l && decide (l.length ≤ 8)) = true by rw [HF.out, ← HN.out, e3']; rfl)
        clear h8
        go_wp2_with fail
        go_ret
        exact ⟨ret_b HG.out.symm, hb⟩
      · have e3 : decide ((n : Int) ≤ 8) = false := decide_eq_false (by omega)
        have e3' : decide (n ≤ 8) = false := decide_eq_false h8
        have HG := Lib.hid (show (rawsA l && decide (l.length ≤ 8)) = false by rw [HF.out, ← HN.out, e3']; rfl)
        clear h8
        go_wp2_with fail
        go_ret
        exact ⟨ret_b HG.out.symm, hb⟩
    have e2 : decide ((j : Int) < n) = true := decide_eq_true (by omega)
    have hlti : (j : Int) < n := by omega
    obtain ⟨x, hx⟩ := getL HN.out hlt
    have HX := Lib.hid hx
    obtain ⟨b, off, A', n', c', hA0, hbl, k0w, k1w, k2w, hbf, hnc', wf0, wf1⟩ := hd.rawAt hx
    subst hA0
    have hbl : b < w.heap.size := hbl
    have HNX := Lib.hid hbf.1
    obtain ⟨fl, ty, dat⟩ := x
    simp only at k0w k1w HNX wf0 wf1
    have k0 := (hb.cell (p := ⟨b, off + j * 3, none⟩) hbl).trans k0w
    have k1 := (hb.cell (p := ⟨b, off + j * 3 + 1, none⟩) hbl).trans k1w
    have k2 := (hb.cell (p := ⟨b, off + j * 3 + 2, none⟩) hbl).trans k2w
    have wj : IntKind.i64.wrap ((j : Int) + 1) = (j : Int) + 1 := IntWalk.i64_in _ ⟨by omega, by omega⟩
    have hj0 : (0 : Int) ≤ (j : Int) := by omega
    go_upto_region 4 with fail
    obtain ⟨w1, hw1, hB1, b1⟩ := box1c wr #[.int .i64 fl, .int .i64 ty, .slice A' n' c'] 100
    rw [hw1]
    clear hw1
    have b01 := btr hb b1 hb.size
    have x0 := hB1.cell 0
    have x1 := hB1.cell 1
    have x2 := hB1.cell 2
    clear hx hbf hnc' k0 k1 k2 k0w k1w k2w
    obtain ⟨kb, hkb⟩ : ∃ kb, knownA ty = kb := ⟨_, rfl⟩
    have HKN := Lib.hid (show ∀ w', LookTab w' → Calls Tryd.prog 50 #[.int .i64 ty] w' fun en w'' => en = .returned (.bool kb) ∧ w' = w'' from fun w' h => by rw [← hkb]; exact attKnown ty w' wf1 h)
    have HKB := Lib.hid hkb
    have htw := ht.call b01
    have htH := Lib.hid htw
    clear hkb wf0 wf1 htw
    by_cases c1 : ty < 0
    · have t1 : decide (ty < 0) = true := decide_eq_true c1
      have HG := Lib.hid (HBAD.out (rawsA_bad HX.out (bad_of (.inl c1))))
      clear c1
      go_quiet (fail)
      go_wp2_with fail
      go_ret
      exact ⟨ret_b HG.out.symm, below_drewN b01 _⟩
    have t1 : decide (ty < 0) = false := decide_eq_false c1
    by_cases c2 : 255 < ty
    · have t2 : decide (255 < ty) = true := decide_eq_true c2
      have HG := Lib.hid (HBAD.out (rawsA_bad HX.out (bad_of (.inr (.inl c2)))))
      clear c1 c2
      go_quiet (fail)
      go_wp2_with fail
      go_ret
      exact ⟨ret_b HG.out.symm, below_drewN b01 _⟩
    have t2 : decide (255 < ty) = false := decide_eq_false c2
    cases kb
    case true =>
      have HG := Lib.hid (HBAD.out (rawsA_bad HX.out (bad_of (.inr (.inr (.inl HKB.out))))))
      clear c1 c2
      go_quiet ((go_at_call 50; exact quiet_left (HKN.out _ htH.out)))
      go_wp2_with fail
      go_ret
      exact ⟨ret_b HG.out.symm, below_drewN b01 _⟩
    by_cases c4 : fl = 224
    case neg =>
      have t4 : (fl != 224) = true := by simp; omega
      have HG := Lib.hid (HBAD.out (rawsA_bad HX.out (bad_of (.inr (.inr (.inr (.inl c4)))))))
      clear c1 c2 c4
      go_quiet ((go_at_call 50; exact quiet_left (HKN.out _ htH.out)))
      go_wp2_with fail
      go_ret
      exact ⟨ret_b HG.out.symm, below_drewN b01 _⟩
    have t4 : (fl != 224) = false := by simp; omega
    by_cases c5 : 64 < n'
    · have t5 : decide ((64 : Int) < (n' : Int)) = true := decide_eq_true (by omega)
      have t5' : decide (64 < n') = true := decide_eq_true c5
      have HG := Lib.hid (HBAD.out (rawsA_bad HX.out (bad_of (.inr (.inr (.inr (.inr (by have := HNX.out; simp only at this ⊢; omega))))))))
      clear c1 c2 c4 c5
      go_quiet ((go_at_call 50; exact quiet_left (HKN.out _ htH.out)))
      go_wp2_with fail
      go_ret
      exact ⟨ret_b HG.out.symm, below_drewN b01 _⟩
    have t5 : decide ((64 : Int) < (n' : Int)) = false := decide_eq_false (by omega)
    have t5' : decide (64 < n') = false := decide_eq_false c5
    have HNB := Lib.hid (show ¬ (ty < 0 ∨ 255 < ty ∨ knownA ty = true ∨ fl ≠ 224 ∨ 64 < dat.length) by
      have h1 := HNX.out
      have h2 := HKB.out
      rintro (h | h | h | h | h)
      · exact c1 h
      · exact c2 h
      · rw [h2] at h; cases h
      · exact h c4
      · omega)
    by_cases c6 : j = 0
    · have t6 : decide ((0 : Int) < (j : Int)) = false := decide_eq_false (by omega)
      have t6' : decide (0 < j) = false := decide_eq_false (by omega)
      have HS := Lib.hid (fine_step HA.out HX.out (by rw [show prevAt l j = none by unfold prevAt; rw [if_pos c6]]; exact good_first HNB.out))
      clear c1 c2 c4 c5 c6
      go_quiet ((go_at_call 50; exact quiet_left (HKN.out _ htH.out)))
      go_wp2_with fail
      go_roundw
      case rel => exact ⟨j + 1, by omega, by go_num, HS, below_drewN b01 _⟩
      case measure => simp [intOf]; omega
    have t6 : decide ((0 : Int) < (j : Int)) = true := decide_eq_true (by omega)
    have t6' : decide (0 < j) = true := decide_eq_true (by omega)
    obtain ⟨y, hy⟩ := getL (j := j - 1) HN.out (by omega)
    have HY := Lib.hid hy
    obtain ⟨b', off', A4, n4, c4', hAe, hbl', _, q1w, _, _, _, _, _⟩ := hd.rawAt hy
    injection hAe with hAe
    injection hAe with hA1 hA2 hA3
    subst hA1 hA2
    clear hA3
    obtain ⟨pt, hpt⟩ : ∃ pt, y.2.1 = pt := ⟨_, rfl⟩
    have HPT := Lib.hid hpt
    rw [hpt] at q1w
    have q1 := (b01.cell (p := ⟨b, off + (j - 1) * 3 + 1, none⟩) hbl).trans q1w
    have wp : IntKind.i64.wrap ((j : Int) - 1) = ((j - 1 : Nat) : Int) := by rw [show ((j - 1 : Nat) : Int) = (j : Int) - 1 by omega]; exact IntWalk.i64_in _ ⟨by omega, by omega⟩
    have hjm : ((j - 1 : Nat) : Int) < (n : Int) := by omega
    have hjm0 : (0 : Int) ≤ ((j - 1 : Nat) : Int) := by omega
    have HJ := Lib.hid (show 0 < j by omega)
    clear hy hpt q1w
    by_cases c7 : ty ≤ pt
    · have t7 : decide (ty ≤ pt) = true := decide_eq_true c7
      have HG := Lib.hid (HBAD.out (rawsA_bad HX.out (by rw [prevAt_succ HJ.out, HY.out]; exact bad_prev (by rw [HPT.out]; exact c7))))
      clear c1 c2 c4 c5 c6 c7
      go_quiet ((go_at_call 50; exact quiet_left (HKN.out _ htH.out)))
      go_wp2_with fail
      go_ret
      exact ⟨ret_b HG.out.symm, below_drewN b01 _⟩
    · have t7 : decide (ty ≤ pt) = false := decide_eq_false c7
      have HS := Lib.hid (fine_step HA.out HX.out (by rw [prevAt_succ HJ.out, HY.out]; exact good_next HNB.out (by rw [HPT.out]; exact c7)))
      clear c1 c2 c4 c5 c6 c7
      go_quiet ((go_at_call 50; exact quiet_left (HKN.out _ htH.out)))
      go_wp2_with fail
      go_roundw
      case rel => exact ⟨j + 1, by omega, by go_num, HS, below_drewN b01 _⟩
      case measure => simp [intOf]; omega
theorem rightAt_no {a : At} (h : ¬ (0 ≤ a.origin ∧ a.origin ≤ 2) ∨ rightA a.path = false ∨ numA a.med = false ∨ numA a.pref = false ∨ (a.hasAggr = false ∧ ¬ (a.aggrAS = 0 ∧ a.aggrAddr = 0)) ∨ 32 < a.comms.length ∨ rawsA a.raws = false ∨ 8 < a.raws.length) : rightAt a = false := by
  unfold rightAt
  rcases h with h | h | h | h | ⟨h, h'⟩ | h | h | h
  · rw [decide_eq_false h]; simp
  · rw [h]; simp
  · rw [h]; simp
  · rw [h]; simp
  · rw [h, decide_eq_false h']; simp
  · rw [decide_eq_false (by omega : ¬ a.comms.length ≤ 32)]; simp
  · rw [h]; simp
  · rw [decide_eq_false (by omega : ¬ a.raws.length ≤ 8)]; simp
theorem rightAt_yes {a : At} (h1 : 0 ≤ a.origin ∧ a.origin ≤ 2) (h2 : rightA a.path = true) (h3 : numA a.med = true) (h4 : numA a.pref = true) (h5 : a.hasAggr = true ∨ (a.aggrAS = 0 ∧ a.aggrAddr = 0)) (h6 : a.comms.length ≤ 32) (h7 : rawsA a.raws = true) (h8 : a.raws.length ≤ 8) : rightAt a = true := by
  unfold rightAt
  rw [decide_eq_true h1, h2, h3, h4, decide_eq_true h6, h7, decide_eq_true h8]
  rcases h5 with h5 | h5
  · rw [h5]; rfl
  · rw [decide_eq_true h5]; simp
theorem numA_no {k : Int} (h : k < -1 ∨ 4294967295 < k) : numA k = false := decide_eq_false (by omega)
theorem numA_yes {k : Int} (h : ¬ k < -1) (h' : ¬ 4294967295 < k) : numA k = true := decide_eq_true (by omega)
set_option maxHeartbeats 8000000 in
set_option maxRecDepth 100000 in
theorem refRight04 (o : Int) (A : Option Addr) (n c : Nat) (path : List Seg) (nx md pf : Int) (at_ ha : Bool) (gs ga : Int) (A1 : Option Addr) (n1 c1 : Nat) (comms : List Int) (A2 : Option Addr) (n2 c2 : Nat) (raws : List RawV) (w : World) (hp : DL rSeg 2 w (Lo w) A n path) (hc : n1 = comms.length) (hd : DL rRaw 3 w (Lo w) A2 n2 raws) (hn : n ≤ 100000) (hn2 : n2 ≤ 100000) :
    Calls Tryd.prog 49 #[.agg #[.int .i64 o, .slice A n c, .int .u32 nx, .int .i64 md, .int .i64 pf, .bool at_, .bool ha, .int .u32 gs, .int .u32 ga, .slice A1 n1 c1, .slice A2 n2 c2]] w fun en w' => en = .returned (.bool (rightAt (⟨o, path, nx, md, pf, at_, ha, gs, ga, comms, raws⟩ : At))) ∧ Below w.heap.size w w' := by
  have HN := Lib.hid hd.len
  have HC := Lib.hid hc
  clear hc
  have HBAD := Lib.hid (show rawsA raws = false → rightAt (⟨o, path, nx, md, pf, at_, ha, gs, ga, comms, raws⟩ : At) = false from fun h => rightAt_no (.inr (.inr (.inr (.inr (.inr (.inr (.inl h))))))))
  obtain ⟨pr, hpr⟩ : ∃ pr, rightA path = pr := ⟨_, rfl⟩
  have HR := Lib.hid (show ∀ w', DL rSeg 2 w' (Lo w') A n path → Calls Tryd.prog 20 #[.slice A n c] w' fun en w'' => en = .returned (.bool pr) ∧ Below w'.heap.size w' w'' from fun w' h => by rw [← hpr]; exact refRight03 A n c path w' h hn)
  have HPR := Lib.hid hpr
  obtain ⟨W, hW, hX, bW⟩ := box1c w #[.int .i64 o, .slice A n c, .int .u32 nx, .int .i64 md, .int .i64 pf, .bool at_, .bool ha, .int .u32 gs, .int .u32 ga, .slice A1 n1 c1, .slice A2 n2 c2] 54
  have hdW := hd.keep rRaw_ok (Kp.call bW)
  have hpW := hp.keep rSeg_ok (Kp.call bW)
  go_enter Tryd.func49, Tryd.ntmps49
  go_upto_region 1 with fail
  try rw [hW]
  clear hW hpr
  have hXl := hX.lt
  obtain ⟨q, hq⟩ : ∃ q, w.heap.size = q := ⟨_, rfl⟩
  have HQ := Lib.hid hq
  rw [hq] at hX hXl
  try rw [hq]
  clear hq
  go_wp2_with fail
  go_loopw [3] (fun i wr => ∃ j : Nat, j ≤ n2 ∧ i = .int .i64 j ∧ Hid (∀ i y, i < j → raws[i]? = some y → badRaw (prevAt raws i) y = false) ∧ Below W.heap.size W wr) (fun i _ => n2 - (intOf i).toNat)
  case atStart => exact ⟨0, by omega, rfl, Lib.hid (fun i y h => by omega), Below.refl _ _⟩
  case round =>
    obtain ⟨j, hj, rfl, HA, hb⟩ := hrel
    have hXr := hX.below hb hXl
    have y10 : wr.cell? ⟨q, 10, none⟩ = some (.slice A2 n2 c2) := hXr.cell 10
    have HBW := Lib.hid (show Below w.heap.size w wr from btr bW hb bW.size)
    by_cases hlt : j < n2
    case neg =>
      have e2 : decide ((j : Int) < n2) = false := decide_eq_false (by omega)
      have HF := Lib.hid (show rawsA raws = true from rawsA_ok fun i x hx => HA.out i x (by have := (List.getElem?_eq_some_iff.1 hx).1; have := HN.out; omega) hx)
      have y0 : wr.cell? ⟨q, 0, none⟩ = some (.int .i64 o) := hXr.cell 0
      have y1 : wr.cell? ⟨q, 1, none⟩ = some (.slice A n c) := hXr.cell 1
      have hpr := hpW.keep rSeg_ok (Kp.call hb)
      have HPW := Lib.hid hpr
      clear hpr
      by_cases c0 : o < 0
      · have t_c0 : decide (o < 0) = true := decide_eq_true c0
        have HG := Lib.hid (rightAt_no (a := (⟨o, path, nx, md, pf, at_, ha, gs, ga, comms, raws⟩ : At)) (.inl (fun h => by have := h.1; simp only at this; omega)))
        clear c0
        go_wp2_with fail
        go_ret
        exact ⟨ret_b HG.out.symm, HBW.out⟩
      have t_c0 : decide (o < 0) = false := decide_eq_false c0
      by_cases c1 : 2 < o
      · have t_c1 : decide (2 < o) = true := decide_eq_true c1
        have HG := Lib.hid (rightAt_no (a := (⟨o, path, nx, md, pf, at_, ha, gs, ga, comms, raws⟩ : At)) (.inl (fun h => by have := h.2; simp only at this; omega)))
        clear c0 c1
        go_wp2_with fail
        go_ret
        exact ⟨ret_b HG.out.symm, HBW.out⟩
      have t_c1 : decide (2 < o) = false := decide_eq_false c1
      have HO := Lib.hid (show 0 ≤ o ∧ o ≤ 2 by omega)
      go_wp2_with fail
      refine (HR.out _ HPW.out).mono ?_
      rintro _ w5 ⟨rfl, b5⟩
      have HB5 := Lib.hid (btr HBW.out b5 HBW.out.size)
      have hX5 := hXr.below b5 hXr.lt
      clear y0 y1 y10 c0 c1
      have y10 : w5.cell? ⟨q, 10, none⟩ = some (.slice A2 n2 c2) := hX5.cell 10
      have y9 : w5.cell? ⟨q, 9, none⟩ = some (.slice A1 n1 c1) := hX5.cell 9
      have y3 : w5.cell? ⟨q, 3, none⟩ = some (.int .i64 md) := hX5.cell 3
      have y4 : w5.cell? ⟨q, 4, none⟩ = some (.int .i64 pf) := hX5.cell 4
      have y6 : w5.cell? ⟨q, 6, none⟩ = some (.bool ha) := hX5.cell 6
      have y7 : w5.cell? ⟨q, 7, none⟩ = some (.int .u32 gs) := hX5.cell 7
      have y8 : w5.cell? ⟨q, 8, none⟩ = some (.int .u32 ga) := hX5.cell 8
      cases pr
      · have HG := Lib.hid (rightAt_no (a := (⟨o, path, nx, md, pf, at_, ha, gs, ga, comms, raws⟩ : At)) (.inr (.inl HPR.out)))
        go_wp2_with fail
        go_ret
        exact ⟨ret_b HG.out.symm, HB5.out⟩
      by_cases c3 : 32 < n1
      · have t_c3 : decide (32 < n1) = true := decide_eq_true c3
        have u_c3 : decide ((32 : Int) < (n1 : Int)) = true := decide_eq_true (by omega)
        have HG := Lib.hid (rightAt_no (a := (⟨o, path, nx, md, pf, at_, ha, gs, ga, comms, raws⟩ : At)) (.inr (.inr (.inr (.inr (.inr (.inl (by have := HC.out; simp only; omega))))))))
        clear c3
        go_wp2_with fail
        go_ret
        exact ⟨ret_b HG.out.symm, HB5.out⟩
      have t_c3 : decide (32 < n1) = false := decide_eq_false c3
      have u_c3 : decide ((32 : Int) < (n1 : Int)) = false := decide_eq_false (by omega)
      by_cases c4 : 8 < n2
      · have t_c4 : decide (8 < n2) = true := decide_eq_true c4
        have u_c4 : decide ((8 : Int) < (n2 : Int)) = true := decide_eq_true (by omega)
        have HG := Lib.hid (rightAt_no (a := (⟨o, path, nx, md, pf, at_, ha, gs, ga, comms, raws⟩ : At)) (.inr (.inr (.inr (.inr (.inr (.inr (.inr (by have := HN.out; simp only; omega)))))))))
        clear c3 c4
        go_wp2_with fail
        go_ret
        exact ⟨ret_b HG.out.symm, HB5.out⟩
      have t_c4 : decide (8 < n2) = false := decide_eq_false c4
      have u_c4 : decide ((8 : Int) < (n2 : Int)) = false := decide_eq_false (by omega)
      have HL := Lib.hid (show comms.length ≤ 32 ∧ raws.length ≤ 8 by have h1 := HC.out; have h2 := HN.out; omega)
      clear c3 c4
      by_cases c5 : md < -1
      · have t_c5 : decide (md < -1) = true := decide_eq_true c5
        have HG := Lib.hid (rightAt_no (a := (⟨o, path, nx, md, pf, at_, ha, gs, ga, comms, raws⟩ : At)) (.inr (.inr (.inl (numA_no (.inl c5))))))
        clear c5
        go_wp2_with fail
        go_ret
        exact ⟨ret_b HG.out.symm, HB5.out⟩
      have t_c5 : decide (md < -1) = false := decide_eq_false c5
      by_cases c6 : 4294967295 < md
      · have t_c6 : decide (4294967295 < md) = true := decide_eq_true c6
        have HG := Lib.hid (rightAt_no (a := (⟨o, path, nx, md, pf, at_, ha, gs, ga, comms, raws⟩ : At)) (.inr (.inr (.inl (numA_no (.inr c6))))))
        clear c5 c6
        go_wp2_with fail
        go_ret
        exact ⟨ret_b HG.out.symm, HB5.out⟩
      have t_c6 : decide (4294967295 < md) = false := decide_eq_false c6
      have HMD := Lib.hid (numA_yes c5 c6)
      clear c5 c6
      by_cases c7 : pf < -1
      · have t_c7 : decide (pf < -1) = true := decide_eq_true c7
        have HG := Lib.hid (rightAt_no (a := (⟨o, path, nx, md, pf, at_, ha, gs, ga, comms, raws⟩ : At)) (.inr (.inr (.inr (.inl (numA_no (.inl c7)))))))
        clear c7
        go_wp2_with fail
        go_ret
        exact ⟨ret_b HG.out.symm, HB5.out⟩
      have t_c7 : decide (pf < -1) = false := decide_eq_false c7
      by_cases c8 : 4294967295 < pf
      · have t_c8 : decide (4294967295 < pf) = true := decide_eq_true c8
        have HG := Lib.hid (rightAt_no (a := (⟨o, path, nx, md, pf, at_, ha, gs, ga, comms, raws⟩ : At)) (.inr (.inr (.inr (.inl (numA_no (.inr c8)))))))
        clear c7 c8
        go_wp2_with fail
        go_ret
        exact ⟨ret_b HG.out.symm, HB5.out⟩
      have t_c8 : decide (4294967295 < pf) = false := decide_eq_false c8
      have HPF := Lib.hid (numA_yes c7 c8)
      clear c7 c8
      cases ha
      case true =>
        have HG := Lib.hid (rightAt_yes (a := ⟨o, path, nx, md, pf, at_, true, gs, ga, comms, raws⟩) HO.out HPR.out HMD.out HPF.out (.inl rfl) HL.out.1 HF.out HL.out.2)
        go_wp2_with fail
        go_ret
        exact ⟨ret_b HG.out.symm, HB5.out⟩
      case false =>
        by_cases g0 : gs = 0
        case neg =>
          have tg : (gs == 0) = false := by simp; omega
          have HG := Lib.hid (rightAt_no (a := ⟨o, path, nx, md, pf, at_, false, gs, ga, comms, raws⟩) (.inr (.inr (.inr (.inr (.inl ⟨rfl, fun h => g0 h.1⟩))))))
          clear g0
          go_wp2_with fail
          go_ret
          exact ⟨ret_b HG.out.symm, HB5.out⟩
        have tg : (gs == 0) = true := by simp; omega
        by_cases g1 : ga = 0
        case neg =>
          have tg1 : (ga == 0) = false := by simp; omega
          have HG := Lib.hid (rightAt_no (a := ⟨o, path, nx, md, pf, at_, false, gs, ga, comms, raws⟩) (.inr (.inr (.inr (.inr (.inl ⟨rfl, fun h => g1 h.2⟩))))))
          clear g0 g1
          go_wp2_with fail
          go_ret
          exact ⟨ret_b HG.out.symm, HB5.out⟩
        have tg1 : (ga == 0) = true := by simp; omega
        have HG := Lib.hid (rightAt_yes (a := ⟨o, path, nx, md, pf, at_, false, gs, ga, comms, raws⟩) HO.out HPR.out HMD.out HPF.out (.inr ⟨g0, g1⟩) HL.out.1 HF.out HL.out.2)
        clear g0 g1
        go_wp2_with fail
        go_ret
        exact ⟨ret_b HG.out.symm, HB5.out⟩
    have e2 : decide ((j : Int) < n2) = true := decide_eq_true (by omega)
    have hlti : (j : Int) < n2 := by omega
    obtain ⟨x, hx⟩ := getL HN.out hlt
    have HX := Lib.hid hx
    obtain ⟨b, off, A', n', c', hA0, hbl, k0w, k1w, k2w, hbf, hnc', wf0, wf1⟩ := hdW.rawAt hx
    subst hA0
    have hbl : b < W.heap.size := hbl
    have HNX := Lib.hid hbf.1
    obtain ⟨fl, ty, dat⟩ := x
    simp only at k0w k1w HNX wf0 wf1
    have k0 := (hb.cell (p := ⟨b, off + j * 3, none⟩) hbl).trans k0w
    have k1 := (hb.cell (p := ⟨b, off + j * 3 + 1, none⟩) hbl).trans k1w
    have k2 := (hb.cell (p := ⟨b, off + j * 3 + 2, none⟩) hbl).trans k2w
    have wj : IntKind.i64.wrap ((j : Int) + 1) = (j : Int) + 1 := IntWalk.i64_in _ ⟨by omega, by omega⟩
    have hj0 : (0 : Int) ≤ (j : Int) := by omega
    go_upto_region 5 with fail
    obtain ⟨w1, hw1, hB1, b1⟩ := box1c wr #[.int .i64 fl, .int .i64 ty, .slice A' n' c'] 100
    rw [hw1]
    clear hw1
    have b01 := btr hb b1 hb.size
    have x0 := hB1.cell 0
    have x1 := hB1.cell 1
    have x2 := hB1.cell 2
    clear hx hbf hnc' k0 k1 k2 k0w k1w k2w
    obtain ⟨kb, hkb⟩ : ∃ kb, knownA ty = kb := ⟨_, rfl⟩
    obtain ⟨fg, hfg⟩ : ∃ fg, flagsA ty = fg := ⟨_, rfl⟩
    have HKN := Lib.hid (show ∀ w', Calls Tryd.prog 51 #[.int .i64 ty] w' fun en w'' => en = .returned (.int .i64 fg) ∧ w' = w'' from fun w' => by rw [← hfg]; exact refFlags04 ty w')
    have tfg : (fg != 0) = kb := by rw [← hkb, ← hfg]; unfold knownA; by_cases h : flagsA ty = 0 <;> simp [h]
    have hX1 := hXr.below b1 hXr.lt
    have y10' : w1.cell? ⟨q, 10, none⟩ = some (.slice (some ⟨b, off, none⟩) n2 c2) := hX1.cell 10
    clear hfg
    have HKB := Lib.hid hkb
    clear hkb wf0 wf1
    by_cases c1 : ty < 0
    · have t1 : decide (ty < 0) = true := decide_eq_true c1
      have HG := Lib.hid (HBAD.out (rawsA_bad HX.out (bad_of (.inl c1))))
      clear c1
      go_quiet (fail)
      go_wp2_with fail
      go_ret
      exact ⟨ret_b HG.out.symm, btr bW (below_drewN b01 _) bW.size⟩
    have t1 : decide (ty < 0) = false := decide_eq_false c1
    by_cases c2 : 255 < ty
    · have t2 : decide (255 < ty) = true := decide_eq_true c2
      have HG := Lib.hid (HBAD.out (rawsA_bad HX.out (bad_of (.inr (.inl c2)))))
      clear c1 c2
      go_quiet (fail)
      go_wp2_with fail
      go_ret
      exact ⟨ret_b HG.out.symm, btr bW (below_drewN b01 _) bW.size⟩
    have t2 : decide (255 < ty) = false := decide_eq_false c2
    cases kb
    case true =>
      have HG := Lib.hid (HBAD.out (rawsA_bad HX.out (bad_of (.inr (.inr (.inl HKB.out))))))
      clear c1 c2
      go_quiet ((go_at_call 51; exact quiet_left (HKN.out _)))
      go_wp2_with fail
      go_ret
      exact ⟨ret_b HG.out.symm, btr bW (below_drewN b01 _) bW.size⟩
    by_cases c4 : fl = 224
    case neg =>
      have t4 : (fl != 224) = true := by simp; omega
      have HG := Lib.hid (HBAD.out (rawsA_bad HX.out (bad_of (.inr (.inr (.inr (.inl c4)))))))
      clear c1 c2 c4
      go_quiet ((go_at_call 51; exact quiet_left (HKN.out _)))
      go_wp2_with fail
      go_ret
      exact ⟨ret_b HG.out.symm, btr bW (below_drewN b01 _) bW.size⟩
    have t4 : (fl != 224) = false := by simp; omega
    by_cases c5 : 64 < n'
    · have t5 : decide ((64 : Int) < (n' : Int)) = true := decide_eq_true (by omega)
      have t5' : decide (64 < n') = true := decide_eq_true c5
      have HG := Lib.hid (HBAD.out (rawsA_bad HX.out (bad_of (.inr (.inr (.inr (.inr (by have := HNX.out; simp only at this ⊢; omega))))))))
      clear c1 c2 c4 c5
      go_quiet ((go_at_call 51; exact quiet_left (HKN.out _)))
      go_wp2_with fail
      go_ret
      exact ⟨ret_b HG.out.symm, btr bW (below_drewN b01 _) bW.size⟩
    have t5 : decide ((64 : Int) < (n' : Int)) = false := decide_eq_false (by omega)
    have t5' : decide (64 < n') = false := decide_eq_false c5
    have HNB := Lib.hid (show ¬ (ty < 0 ∨ 255 < ty ∨ knownA ty = true ∨ fl ≠ 224 ∨ 64 < dat.length) by
      have h1 := HNX.out
      have h2 := HKB.out
      rintro (h | h | h | h | h)
      · exact c1 h
      · exact c2 h
      · rw [h2] at h; cases h
      · exact h c4
      · omega)
    by_cases c6 : j = 0
    · have t6 : decide ((0 : Int) < (j : Int)) = false := decide_eq_false (by omega)
      have t6' : decide (0 < j) = false := decide_eq_false (by omega)
      have HS := Lib.hid (fine_step HA.out HX.out (by rw [show prevAt raws j = none by unfold prevAt; rw [if_pos c6]]; exact good_first HNB.out))
      clear c1 c2 c4 c5 c6
      go_quiet ((go_at_call 51; exact quiet_left (HKN.out _)))
      go_wp2_with fail
      go_roundw
      case rel => exact ⟨j + 1, by omega, by go_num, HS, below_drewN b01 _⟩
      case measure => simp [intOf]; omega
    have t6 : decide ((0 : Int) < (j : Int)) = true := decide_eq_true (by omega)
    have t6' : decide (0 < j) = true := decide_eq_true (by omega)
    obtain ⟨y, hy⟩ := getL (j := j - 1) HN.out (by omega)
    have HY := Lib.hid hy
    obtain ⟨b', off', A4, n4, c4', hAe, hbl', _, q1w, _, _, _, _, _⟩ := hdW.rawAt hy
    injection hAe with hAe
    injection hAe with hA1 hA2 hA3
    subst hA1 hA2
    clear hA3
    obtain ⟨pt, hpt⟩ : ∃ pt, y.2.1 = pt := ⟨_, rfl⟩
    have HPT := Lib.hid hpt
    rw [hpt] at q1w
    have q1 := (b01.cell (p := ⟨b, off + (j - 1) * 3 + 1, none⟩) hbl).trans q1w
    have wp : IntKind.i64.wrap ((j : Int) - 1) = ((j - 1 : Nat) : Int) := by rw [show ((j - 1 : Nat) : Int) = (j : Int) - 1 by omega]; exact IntWalk.i64_in _ ⟨by omega, by omega⟩
    have hjm : ((j - 1 : Nat) : Int) < (n2 : Int) := by omega
    have hjm0 : (0 : Int) ≤ ((j - 1 : Nat) : Int) := by omega
    have HJ := Lib.hid (show 0 < j by omega)
    clear hy hpt q1w
    by_cases c7 : ty ≤ pt
    · have t7 : decide (ty ≤ pt) = true := decide_eq_true c7
      have HG := Lib.hid (HBAD.out (rawsA_bad HX.out (by rw [prevAt_succ HJ.out, HY.out]; exact bad_prev (by rw [HPT.out]; exact c7))))
      clear c1 c2 c4 c5 c6 c7
      go_quiet ((go_at_call 51; exact quiet_left (HKN.out _)))
      go_wp2_with fail
      go_ret
      exact ⟨ret_b HG.out.symm, btr bW (below_drewN b01 _) bW.size⟩
    · have t7 : decide (ty ≤ pt) = false := decide_eq_false c7
      have HS := Lib.hid (fine_step HA.out HX.out (by rw [prevAt_succ HJ.out, HY.out]; exact good_next HNB.out (by rw [HPT.out]; exact c7)))
      clear c1 c2 c4 c5 c6 c7
      go_quiet ((go_at_call 51; exact quiet_left (HKN.out _)))
      go_wp2_with fail
      go_roundw
      case rel => exact ⟨j + 1, by omega, by go_num, HS, below_drewN b01 _⟩
      case measure => simp [intOf]; omega
end Go.Proofs.YtlpkngjeihoknaaDoor
