/- Walks of layer 4 (attributes): what an attribute looks like. Conditions: the table of looks, sizes. -/
import Derived.Test.YtlpkngjeihoknaaDoorProg
import Derived.WalkKit
import Derived.WalkSpells
import Derived.WalkLawsBesides
import Derived.Outline
import Derived.Deep.QuietTactic
import Derived.BigQuiet
import Derived.Handy
import Derived.Lib.Hide
import Derived.Deep.DeepCutAuto
import Derived.Deep.CutBlock
import Derived.Test.YtlpkngjeihoknaaDoorAttN
namespace Go.Proofs.YtlpkngjeihoknaaDoor
open Go.RowKit
set_option linter.unusedSimpArgs false
set_option linter.unusedVariables false
theorem ite_cg {α : Type} {c d : Prop} [hc : Decidable c] [hd : Decidable d] {x y u v : α} (h : c ↔ d) (hx : x = u) (hy : y = v) : (if c then x else y) = if d then u else v := by
  subst hx hy
  by_cases hc' : c
  · rw [if_pos hc', if_pos (h.1 hc')]
  · rw [if_neg hc', if_neg (fun h' => hc' (h.2 h'))]
/-- A fault, or none, is handed back. -/
def faultV (f : Int) (A : Option Addr) (n c : Nat) : Value := if f = 0 then .agg #[.int .i64 0, .int .i64 0, .slice none 0 0] else .agg #[.int .i64 3, .int .i64 f, .slice A n c]
set_option maxHeartbeats 4000000 in
set_option maxRecDepth 100000 in
theorem attForm (g : Nat) (fl : Int) (kind : Int) (A : Option Addr) (n c : Nat) (all : List UInt8) (A' : Option Addr) (n' c' : Nat) (val : List UInt8) (wide : Bool) (w : World) (hw : w.cell? ⟨g, 16, none⟩ = some (.bool wide)) (hg : g < w.heap.size) (hf : 0 ≤ fl ∧ fl ≤ 255) (hk : 0 ≤ kind ∧ kind ≤ 18) (hn : n' = val.length) (ht : LookTab w) :
    Calls Tryd.prog 104 #[.pointer (some ⟨g, 0, none⟩), .agg #[.int .i64 fl, .int .i64 kind, .slice A n c, .slice A' n' c']] w fun en w' => en = .returned (faultV (formA wide ⟨fl, kind, all, val⟩) A n c) ∧ Below w.heap.size w w' := by
  obtain ⟨W, hW, hX, hR, b0⟩ := boxes2 w #[.int .i64 fl, .int .i64 kind, .slice A n c, .slice A' n' c'] #[.int .i64 0, .int .i64 0, .slice none 0 0] 117 69
  have hWz := b0.size
  obtain ⟨N, hN0⟩ : ∃ N, kind.toNat = N := ⟨_, rfl⟩
  have hNk : kind = (N : Int) := by omega
  have hN : N < 19 := by omega
  have htW := ht.call b0
  obtain ⟨t0, t1, t2⟩ := htW N hN
  have HFL0 : flagsA kind = ((lookAt N).1 : Int) := by rw [hNk]; exact flags_look ⟨N, hN⟩
  have HFL := Lib.hid HFL0
  clear HFL0
  have HKN := Lib.hid hNk
  have HN0 := Lib.hid hN0
  obtain ⟨L0, h0⟩ : ∃ x, ((lookAt N).1 : Int) = x := ⟨_, rfl⟩
  obtain ⟨L1, h1⟩ : ∃ x, ((lookAt N).2.1 : Int) = x := ⟨_, rfl⟩
  obtain ⟨L2, h2⟩ : ∃ x, ((lookAt N).2.2 : Int) = x := ⟨_, rfl⟩
  rw [h0, ← hN0] at t0
  rw [h1, ← hN0] at t1
  rw [h2, ← hN0] at t2
  have hwW := (b0.cell (p := ⟨g, 16, none⟩) hg).trans hw
  have HH0 := Lib.hid h0
  have HH1 := Lib.hid h1
  have HH2 := Lib.hid h2
  have d1 : decide (0 ≤ kind) = true := decide_eq_true hk.1
  have d2 : decide (kind < 19) = true := decide_eq_true (by omega)
  clear hNk hN0
  have x0 := hX.cell 0
  have x1 := hX.cell 1
  have x2 := hX.cell 2
  have x3 := hX.cell 3
  obtain ⟨a1, a2, _, _⟩ := andK hf.1 hf.2
  have HNL := Lib.hid hn
  clear h0 h1 h2 hw ht htW hn
  go_enter Tryd.func104, Tryd.ntmps104
  go_upto_region 1 with fail
  try rw [hW]
  clear hW
  go_upto_region 3 with fail
  obtain ⟨w3, hw3, hL, b3⟩ := box1c W #[.int .i64 L0, .int .i64 L1, .int .i64 L2] 103
  try rw [hw3]
  clear hw3
  obtain ⟨q, hq⟩ : ∃ q, W.heap.size = q := ⟨_, rfl⟩
  try rw [hq]
  have b03 := btr b0 b3 b0.size
  have hX3 := hX.below b3 hX.lt
  have hR3 := hR.below b3 hR.lt
  have hgW : g < W.heap.size := Nat.lt_of_lt_of_le hg hWz
  have hw3 := (b3.cell (p := ⟨g, 16, none⟩) hgW).trans hwW
  rw [hq] at hL
  have y0 := hX3.cell 0
  have y1 := hX3.cell 1
  have y2 := hX3.cell 2
  have y3 := hX3.cell 3
  have l0 := hL.cell 0
  have l1 := hL.cell 1
  have l2 := hL.cell 2
  have r0 := hR3.cell 0
  have r1 := hR3.cell 1
  have r2 := hR3.cell 2
  have s0 := hR3.frozen 0
  have s1 := hR3.frozen 1
  have s2 := hR3.frozen 2
  clear x0 x1 x2 x3 t0 t1 t2 hwW
  obtain ⟨F, hF⟩ : ∃ x, fl / 64 % 4 * 64 = x := ⟨_, rfl⟩
  obtain ⟨P, hP⟩ : ∃ x, fl / 32 % 2 * 32 = x := ⟨_, rfl⟩
  rw [hF] at a1
  rw [hP] at a2
  have HFI := Lib.hid hF
  have HPI := Lib.hid hP
  clear hF hP hq
  obtain ⟨Bz, hBz⟩ : ∃ x, w.heap.size + 1 = x := ⟨_, rfl⟩
  rw [hBz] at hR3
  have hBle : w.heap.size ≤ Bz := by omega
  try rw [hBz]
  clear hBz
  clear r0 r1 r2 s0 s1 s2
  have HK := Lib.hid b03
  have HFO0 : formA wide ⟨fl, kind, all, val⟩ = if F ≠ L0 ∨ P ≠ 0 ∧ L0 ≠ 192 then 4 else if badLen wide kind val.length = true then 5 else 0 := by
    unfold formA
    simp only
    have e1 : flagsA kind = L0 := by rw [← HH0.out]; exact HFL.out
    have e2 : ptF fl = true ↔ P ≠ 0 := by rw [← HPI.out]; unfold ptF; rw [decide_eq_true_eq]; omega
    rw [e1, HFI.out]
    exact ite_cg (or_congr Iff.rfl (and_congr e2 Iff.rfl)) rfl rfl
  have HFO := Lib.hid HFO0
  clear HFO0
  by_cases cA : F = L0
  case neg =>
    have t1 : (F != L0) = true := by simpa using cA
    have HG := Lib.hid (show formA wide ⟨fl, kind, all, val⟩ = 4 by rw [HFO.out, if_pos (.inl cA)])
    clear cA
    go_wp2_with fail
    refine (attFault 4 A n c w3).mono ?_
    rintro _ w4 ⟨rfl, b4⟩
    have fe0 := (hR3.below b4 hR3.lt).cell 0
    have ff0 := (hR3.below b4 hR3.lt).frozen 0
    have fe1 := (hR3.below b4 hR3.lt).cell 1
    have ff1 := (hR3.below b4 hR3.lt).frozen 1
    have fe2 := (hR3.below b4 hR3.lt).cell 2
    have ff2 := (hR3.below b4 hR3.lt).frozen 2
    go_wp2_with fail
    exact bodyPost_ret (fltA_ret rfl _ _ Bz _ _ _ rfl (flt_store (hR3.below b4 hR3.lt))) rfl ⟨by rw [HG.out]; rfl, flt_below (btr b03 b4 b03.size) hBle⟩
  subst cA
  have t1 : (F != F) = false := by simp
  by_cases cB : P ≠ 0 ∧ F ≠ 192
  case pos =>
    have t2 : (P != 0) = true := by simpa using cB.1
    have t3 : (F != 192) = true := by simpa using cB.2
    have HG := Lib.hid (show formA wide ⟨fl, kind, all, val⟩ = 4 by rw [HFO.out, if_pos (.inr cB)])
    clear cB
    go_wp2_with fail
    refine (attFault 4 A n c w3).mono ?_
    rintro _ w4 ⟨rfl, b4⟩
    have fe0 := (hR3.below b4 hR3.lt).cell 0
    have ff0 := (hR3.below b4 hR3.lt).frozen 0
    have fe1 := (hR3.below b4 hR3.lt).cell 1
    have ff1 := (hR3.below b4 hR3.lt).frozen 1
    have fe2 := (hR3.below b4 hR3.lt).cell 2
    have ff2 := (hR3.below b4 hR3.lt).frozen 2
    go_wp2_with fail
    exact bodyPost_ret (fltA_ret rfl _ _ Bz _ _ _ rfl (flt_store (hR3.below b4 hR3.lt))) rfl ⟨by rw [HG.out]; rfl, flt_below (btr b03 b4 b03.size) hBle⟩
  have HFB := Lib.hid (show formA wide ⟨fl, kind, all, val⟩ = if badLen wide kind val.length = true then 5 else 0 by rw [HFO.out, if_neg (fun h => h.elim (fun h => h rfl) cB)])
  have HCB := Lib.hid cB
  clear cB
  have HGO := Lib.hid (show ∀ r : Bool, badLen wide kind val.length = r → formA wide ⟨fl, kind, all, val⟩ = if r = true then 5 else 0 from fun r h => by rw [HFB.out, h])
  have HB0 : badLen wide kind val.length = if kind = 7 then decide ((n' : Int) ≠ if wide then 8 else 6) else if kind = 8 then decide ((n' : Int) % 4 ≠ 0) else decide ((n' : Int) < L1 ∨ L2 < (n' : Int)) := by
    unfold badLen
    rw [← HNL.out, ← HH1.out, ← HH2.out, HN0.out]
    refine ite_cg Iff.rfl ?_ (ite_cg Iff.rfl ?_ ?_)
    · cases wide <;> exact decide_eq_decide.2 (by simp; omega)
    · exact decide_eq_decide.2 (by omega)
    · exact decide_eq_decide.2 (by omega)
  have HB := Lib.hid HB0
  clear HB0
  -- TAIL (genatto.py)
  by_cases cP : P = 0
  case pos =>
    have t2 : (P != 0) = false := by simpa using cP
    clear cP
    by_cases s1 : (n' : Int) < L1
    case pos =>
      have u1 : decide ((n' : Int) < L1) = true := decide_eq_true s1
      have HS := Lib.hid (show decide ((n' : Int) < L1 ∨ L2 < (n' : Int)) = true from decide_eq_true (.inl s1))
      clear s1
      go_upto_region 7 with fail
      clear u1 t1 t2 a1 a2 d1 d2 l0 l1 l2 y0
      by_cases k7 : kind = 7
      case pos =>
        have v7 : (kind == 7) = true := by simpa using k7
        have HK7 := Lib.hid k7
        clear k7
        cases wide
        case false =>
          by_cases c : (n' : Int) = 6
          case pos =>
            have z1 : ((n' : Int) != 6) = false := by simpa using c
            have z2 : (n' != 6) = false := by simp; omega
            have z3 : (n' == 6) = true := by simp; omega
            have HC := Lib.hid c
            clear c
            have HG := Lib.hid (show formA false ⟨fl, kind, all, val⟩ = 0 by rw [HGO.out false (by rw [HB.out]; rw [if_pos HK7.out]; exact decide_eq_false (fun h => h HC.out))]; rfl)
            go_upto_region 14 with fail
            clear hw3 y1 y2 y3
            have fe0 := hR3.cell 0
            have ff0 := hR3.frozen 0
            have fe1 := hR3.cell 1
            have ff1 := hR3.frozen 1
            have fe2 := hR3.cell 2
            have ff2 := hR3.frozen 2
            go_wp2_with fail
            exact bodyPost_ret (fltA_ret rfl _ _ Bz _ _ _ rfl (flt_store hR3)) rfl ⟨by rw [HG.out]; rfl, flt_below b03 hBle⟩
          have z1 : ((n' : Int) != 6) = true := by simpa using c
          have z2 : (n' != 6) = true := by simp; omega
          have z3 : (n' == 6) = false := by simp; omega
          have HC := Lib.hid c
          clear c
          have HG := Lib.hid (show formA false ⟨fl, kind, all, val⟩ = 5 by rw [HGO.out true (by rw [HB.out]; rw [if_pos HK7.out]; exact decide_eq_true HC.out)]; rfl)
          go_wp2_with fail
          refine (attFault 5 A n c w3).mono ?_
          rintro _ w4 ⟨rfl, b4⟩
          have fe0 := (hR3.below b4 hR3.lt).cell 0
          have ff0 := (hR3.below b4 hR3.lt).frozen 0
          have fe1 := (hR3.below b4 hR3.lt).cell 1
          have ff1 := (hR3.below b4 hR3.lt).frozen 1
          have fe2 := (hR3.below b4 hR3.lt).cell 2
          have ff2 := (hR3.below b4 hR3.lt).frozen 2
          go_wp2_with fail
          exact bodyPost_ret (fltA_ret rfl _ _ Bz _ _ _ rfl (flt_store (hR3.below b4 hR3.lt))) rfl ⟨by rw [HG.out]; rfl, flt_below (btr b03 b4 b03.size) hBle⟩
        case true =>
          by_cases c : (n' : Int) = 8
          case pos =>
            have z1 : ((n' : Int) != 8) = false := by simpa using c
            have z2 : (n' != 8) = false := by simp; omega
            have z3 : (n' == 8) = true := by simp; omega
            have HC := Lib.hid c
            clear c
            have HG := Lib.hid (show formA true ⟨fl, kind, all, val⟩ = 0 by rw [HGO.out false (by rw [HB.out]; rw [if_pos HK7.out]; exact decide_eq_false (fun h => h HC.out))]; rfl)
            go_upto_region 14 with fail
            clear hw3 y1 y2 y3
            have fe0 := hR3.cell 0
            have ff0 := hR3.frozen 0
            have fe1 := hR3.cell 1
            have ff1 := hR3.frozen 1
            have fe2 := hR3.cell 2
            have ff2 := hR3.frozen 2
            go_wp2_with fail
            exact bodyPost_ret (fltA_ret rfl _ _ Bz _ _ _ rfl (flt_store hR3)) rfl ⟨by rw [HG.out]; rfl, flt_below b03 hBle⟩
          have z1 : ((n' : Int) != 8) = true := by simpa using c
          have z2 : (n' != 8) = true := by simp; omega
          have z3 : (n' == 8) = false := by simp; omega
          have HC := Lib.hid c
          clear c
          have HG := Lib.hid (show formA true ⟨fl, kind, all, val⟩ = 5 by rw [HGO.out true (by rw [HB.out]; rw [if_pos HK7.out]; exact decide_eq_true HC.out)]; rfl)
          go_wp2_with fail
          refine (attFault 5 A n c w3).mono ?_
          rintro _ w4 ⟨rfl, b4⟩
          have fe0 := (hR3.below b4 hR3.lt).cell 0
          have ff0 := (hR3.below b4 hR3.lt).frozen 0
          have fe1 := (hR3.below b4 hR3.lt).cell 1
          have ff1 := (hR3.below b4 hR3.lt).frozen 1
          have fe2 := (hR3.below b4 hR3.lt).cell 2
          have ff2 := (hR3.below b4 hR3.lt).frozen 2
          go_wp2_with fail
          exact bodyPost_ret (fltA_ret rfl _ _ Bz _ _ _ rfl (flt_store (hR3.below b4 hR3.lt))) rfl ⟨by rw [HG.out]; rfl, flt_below (btr b03 b4 b03.size) hBle⟩
      have v7 : (kind == 7) = false := by simpa using k7
      have HK7 := Lib.hid k7
      clear k7
      by_cases k8 : kind = 8
      case pos =>
        have v8 : (kind == 8) = true := by simpa using k8
        have HK8 := Lib.hid k8
        clear k8
        obtain ⟨R, hR4⟩ : ∃ x, n' % 4 = x := ⟨_, rfl⟩
        have e4 : (n' : Int).tmod 4 = (R : Int) := by rw [Int.tmod_eq_emod_of_nonneg (by omega)]; omega
        have e5 : IntKind.i64.wrap (R : Int) = (R : Int) := IntWalk.i64_in _ ⟨by omega, by omega⟩
        have HR4 := Lib.hid (show (n' : Int) % 4 = (R : Int) by omega)
        by_cases c : R = 0
        case pos =>
          have z1 : ((R : Int) != 0) = false := by simp; omega
          have z2 : (R != 0) = false := by simp; omega
          have HC := Lib.hid c
          clear c hR4
          have HG := Lib.hid (show formA wide ⟨fl, kind, all, val⟩ = 0 by rw [HGO.out false (by rw [HB.out]; rw [if_neg HK7.out, if_pos HK8.out, HR4.out, HC.out]; rfl)]; rfl)
          go_upto_region 14 with fail
          clear hw3 y1 y2 y3
          have fe0 := hR3.cell 0
          have ff0 := hR3.frozen 0
          have fe1 := hR3.cell 1
          have ff1 := hR3.frozen 1
          have fe2 := hR3.cell 2
          have ff2 := hR3.frozen 2
          go_wp2_with fail
          exact bodyPost_ret (fltA_ret rfl _ _ Bz _ _ _ rfl (flt_store hR3)) rfl ⟨by rw [HG.out]; rfl, flt_below b03 hBle⟩
        have z1 : ((R : Int) != 0) = true := by simp; omega
        have z2 : (R != 0) = true := by simp; omega
        have HC := Lib.hid c
        clear c hR4
        have HG := Lib.hid (show formA wide ⟨fl, kind, all, val⟩ = 5 by rw [HGO.out true (by rw [HB.out]; rw [if_neg HK7.out, if_pos HK8.out, HR4.out]; exact decide_eq_true (by have := HC.out; omega))]; rfl)
        go_wp2_with fail
        refine (attFault 5 A n c w3).mono ?_
        rintro _ w4 ⟨rfl, b4⟩
        have fe0 := (hR3.below b4 hR3.lt).cell 0
        have ff0 := (hR3.below b4 hR3.lt).frozen 0
        have fe1 := (hR3.below b4 hR3.lt).cell 1
        have ff1 := (hR3.below b4 hR3.lt).frozen 1
        have fe2 := (hR3.below b4 hR3.lt).cell 2
        have ff2 := (hR3.below b4 hR3.lt).frozen 2
        go_wp2_with fail
        exact bodyPost_ret (fltA_ret rfl _ _ Bz _ _ _ rfl (flt_store (hR3.below b4 hR3.lt))) rfl ⟨by rw [HG.out]; rfl, flt_below (btr b03 b4 b03.size) hBle⟩
      have v8 : (kind == 8) = false := by simpa using k8
      have HK8 := Lib.hid k8
      clear k8
      have HG := Lib.hid (show formA wide ⟨fl, kind, all, val⟩ = 5 by rw [HGO.out true (by rw [HB.out]; rw [if_neg HK7.out, if_neg HK8.out]; exact HS.out)]; rfl)
      go_wp2_with fail
      refine (attFault 5 A n c w3).mono ?_
      rintro _ w4 ⟨rfl, b4⟩
      have fe0 := (hR3.below b4 hR3.lt).cell 0
      have ff0 := (hR3.below b4 hR3.lt).frozen 0
      have fe1 := (hR3.below b4 hR3.lt).cell 1
      have ff1 := (hR3.below b4 hR3.lt).frozen 1
      have fe2 := (hR3.below b4 hR3.lt).cell 2
      have ff2 := (hR3.below b4 hR3.lt).frozen 2
      go_wp2_with fail
      exact bodyPost_ret (fltA_ret rfl _ _ Bz _ _ _ rfl (flt_store (hR3.below b4 hR3.lt))) rfl ⟨by rw [HG.out]; rfl, flt_below (btr b03 b4 b03.size) hBle⟩
    have u1 : decide ((n' : Int) < L1) = false := decide_eq_false s1
    have HS1 := Lib.hid s1
    clear s1
    by_cases s2 : L2 < (n' : Int)
    case pos =>
      have u2 : decide (L2 < (n' : Int)) = true := decide_eq_true s2
      have HS := Lib.hid (show decide ((n' : Int) < L1 ∨ L2 < (n' : Int)) = true from decide_eq_true (.inr s2))
      clear s2
      go_upto_region 7 with fail
      clear u1 t1 t2 a1 a2 d1 d2 l0 l1 l2 y0 u2
      by_cases k7 : kind = 7
      case pos =>
        have v7 : (kind == 7) = true := by simpa using k7
        have HK7 := Lib.hid k7
        clear k7
        cases wide
        case false =>
          by_cases c : (n' : Int) = 6
          case pos =>
            have z1 : ((n' : Int) != 6) = false := by simpa using c
            have z2 : (n' != 6) = false := by simp; omega
            have z3 : (n' == 6) = true := by simp; omega
            have HC := Lib.hid c
            clear c
            have HG := Lib.hid (show formA false ⟨fl, kind, all, val⟩ = 0 by rw [HGO.out false (by rw [HB.out]; rw [if_pos HK7.out]; exact decide_eq_false (fun h => h HC.out))]; rfl)
            go_upto_region 14 with fail
            clear hw3 y1 y2 y3
            have fe0 := hR3.cell 0
            have ff0 := hR3.frozen 0
            have fe1 := hR3.cell 1
            have ff1 := hR3.frozen 1
            have fe2 := hR3.cell 2
            have ff2 := hR3.frozen 2
            go_wp2_with fail
            exact bodyPost_ret (fltA_ret rfl _ _ Bz _ _ _ rfl (flt_store hR3)) rfl ⟨by rw [HG.out]; rfl, flt_below b03 hBle⟩
          have z1 : ((n' : Int) != 6) = true := by simpa using c
          have z2 : (n' != 6) = true := by simp; omega
          have z3 : (n' == 6) = false := by simp; omega
          have HC := Lib.hid c
          clear c
          have HG := Lib.hid (show formA false ⟨fl, kind, all, val⟩ = 5 by rw [HGO.out true (by rw [HB.out]; rw [if_pos HK7.out]; exact decide_eq_true HC.out)]; rfl)
          go_wp2_with fail
          refine (attFault 5 A n c w3).mono ?_
          rintro _ w4 ⟨rfl, b4⟩
          have fe0 := (hR3.below b4 hR3.lt).cell 0
          have ff0 := (hR3.below b4 hR3.lt).frozen 0
          have fe1 := (hR3.below b4 hR3.lt).cell 1
          have ff1 := (hR3.below b4 hR3.lt).frozen 1
          have fe2 := (hR3.below b4 hR3.lt).cell 2
          have ff2 := (hR3.below b4 hR3.lt).frozen 2
          go_wp2_with fail
          exact bodyPost_ret (fltA_ret rfl _ _ Bz _ _ _ rfl (flt_store (hR3.below b4 hR3.lt))) rfl ⟨by rw [HG.out]; rfl, flt_below (btr b03 b4 b03.size) hBle⟩
        case true =>
          by_cases c : (n' : Int) = 8
          case pos =>
            have z1 : ((n' : Int) != 8) = false := by simpa using c
            have z2 : (n' != 8) = false := by simp; omega
            have z3 : (n' == 8) = true := by simp; omega
            have HC := Lib.hid c
            clear c
            have HG := Lib.hid (show formA true ⟨fl, kind, all, val⟩ = 0 by rw [HGO.out false (by rw [HB.out]; rw [if_pos HK7.out]; exact decide_eq_false (fun h => h HC.out))]; rfl)
            go_upto_region 14 with fail
            clear hw3 y1 y2 y3
            have fe0 := hR3.cell 0
            have ff0 := hR3.frozen 0
            have fe1 := hR3.cell 1
            have ff1 := hR3.frozen 1
            have fe2 := hR3.cell 2
            have ff2 := hR3.frozen 2
            go_wp2_with fail
            exact bodyPost_ret (fltA_ret rfl _ _ Bz _ _ _ rfl (flt_store hR3)) rfl ⟨by rw [HG.out]; rfl, flt_below b03 hBle⟩
          have z1 : ((n' : Int) != 8) = true := by simpa using c
          have z2 : (n' != 8) = true := by simp; omega
          have z3 : (n' == 8) = false := by simp; omega
          have HC := Lib.hid c
          clear c
          have HG := Lib.hid (show formA true ⟨fl, kind, all, val⟩ = 5 by rw [HGO.out true (by rw [HB.out]; rw [if_pos HK7.out]; exact decide_eq_true HC.out)]; rfl)
          go_wp2_with fail
          refine (attFault 5 A n c w3).mono ?_
          rintro _ w4 ⟨rfl, b4⟩
          have fe0 := (hR3.below b4 hR3.lt).cell 0
          have ff0 := (hR3.below b4 hR3.lt).frozen 0
          have fe1 := (hR3.below b4 hR3.lt).cell 1
          have ff1 := (hR3.below b4 hR3.lt).frozen 1
          have fe2 := (hR3.below b4 hR3.lt).cell 2
          have ff2 := (hR3.below b4 hR3.lt).frozen 2
          go_wp2_with fail
          exact bodyPost_ret (fltA_ret rfl _ _ Bz _ _ _ rfl (flt_store (hR3.below b4 hR3.lt))) rfl ⟨by rw [HG.out]; rfl, flt_below (btr b03 b4 b03.size) hBle⟩
      have v7 : (kind == 7) = false := by simpa using k7
      have HK7 := Lib.hid k7
      clear k7
      by_cases k8 : kind = 8
      case pos =>
        have v8 : (kind == 8) = true := by simpa using k8
        have HK8 := Lib.hid k8
        clear k8
        obtain ⟨R, hR4⟩ : ∃ x, n' % 4 = x := ⟨_, rfl⟩
        have e4 : (n' : Int).tmod 4 = (R : Int) := by rw [Int.tmod_eq_emod_of_nonneg (by omega)]; omega
        have e5 : IntKind.i64.wrap (R : Int) = (R : Int) := IntWalk.i64_in _ ⟨by omega, by omega⟩
        have HR4 := Lib.hid (show (n' : Int) % 4 = (R : Int) by omega)
        by_cases c : R = 0
        case pos =>
          have z1 : ((R : Int) != 0) = false := by simp; omega
          have z2 : (R != 0) = false := by simp; omega
          have HC := Lib.hid c
          clear c hR4
          have HG := Lib.hid (show formA wide ⟨fl, kind, all, val⟩ = 0 by rw [HGO.out false (by rw [HB.out]; rw [if_neg HK7.out, if_pos HK8.out, HR4.out, HC.out]; rfl)]; rfl)
          go_upto_region 14 with fail
          clear hw3 y1 y2 y3
          have fe0 := hR3.cell 0
          have ff0 := hR3.frozen 0
          have fe1 := hR3.cell 1
          have ff1 := hR3.frozen 1
          have fe2 := hR3.cell 2
          have ff2 := hR3.frozen 2
          go_wp2_with fail
          exact bodyPost_ret (fltA_ret rfl _ _ Bz _ _ _ rfl (flt_store hR3)) rfl ⟨by rw [HG.out]; rfl, flt_below b03 hBle⟩
        have z1 : ((R : Int) != 0) = true := by simp; omega
        have z2 : (R != 0) = true := by simp; omega
        have HC := Lib.hid c
        clear c hR4
        have HG := Lib.hid (show formA wide ⟨fl, kind, all, val⟩ = 5 by rw [HGO.out true (by rw [HB.out]; rw [if_neg HK7.out, if_pos HK8.out, HR4.out]; exact decide_eq_true (by have := HC.out; omega))]; rfl)
        go_wp2_with fail
        refine (attFault 5 A n c w3).mono ?_
        rintro _ w4 ⟨rfl, b4⟩
        have fe0 := (hR3.below b4 hR3.lt).cell 0
        have ff0 := (hR3.below b4 hR3.lt).frozen 0
        have fe1 := (hR3.below b4 hR3.lt).cell 1
        have ff1 := (hR3.below b4 hR3.lt).frozen 1
        have fe2 := (hR3.below b4 hR3.lt).cell 2
        have ff2 := (hR3.below b4 hR3.lt).frozen 2
        go_wp2_with fail
        exact bodyPost_ret (fltA_ret rfl _ _ Bz _ _ _ rfl (flt_store (hR3.below b4 hR3.lt))) rfl ⟨by rw [HG.out]; rfl, flt_below (btr b03 b4 b03.size) hBle⟩
      have v8 : (kind == 8) = false := by simpa using k8
      have HK8 := Lib.hid k8
      clear k8
      have HG := Lib.hid (show formA wide ⟨fl, kind, all, val⟩ = 5 by rw [HGO.out true (by rw [HB.out]; rw [if_neg HK7.out, if_neg HK8.out]; exact HS.out)]; rfl)
      go_wp2_with fail
      refine (attFault 5 A n c w3).mono ?_
      rintro _ w4 ⟨rfl, b4⟩
      have fe0 := (hR3.below b4 hR3.lt).cell 0
      have ff0 := (hR3.below b4 hR3.lt).frozen 0
      have fe1 := (hR3.below b4 hR3.lt).cell 1
      have ff1 := (hR3.below b4 hR3.lt).frozen 1
      have fe2 := (hR3.below b4 hR3.lt).cell 2
      have ff2 := (hR3.below b4 hR3.lt).frozen 2
      go_wp2_with fail
      exact bodyPost_ret (fltA_ret rfl _ _ Bz _ _ _ rfl (flt_store (hR3.below b4 hR3.lt))) rfl ⟨by rw [HG.out]; rfl, flt_below (btr b03 b4 b03.size) hBle⟩
    have u2 : decide (L2 < (n' : Int)) = false := decide_eq_false s2
    have HS := Lib.hid (show decide ((n' : Int) < L1 ∨ L2 < (n' : Int)) = false from decide_eq_false (fun h => h.elim HS1.out s2))
    clear s2
    go_upto_region 7 with fail
    clear u1 t1 t2 a1 a2 d1 d2 l0 l1 l2 y0 u2
    by_cases k7 : kind = 7
    case pos =>
      have v7 : (kind == 7) = true := by simpa using k7
      have HK7 := Lib.hid k7
      clear k7
      cases wide
      case false =>
        by_cases c : (n' : Int) = 6
        case pos =>
          have z1 : ((n' : Int) != 6) = false := by simpa using c
          have z2 : (n' != 6) = false := by simp; omega
          have z3 : (n' == 6) = true := by simp; omega
          have HC := Lib.hid c
          clear c
          have HG := Lib.hid (show formA false ⟨fl, kind, all, val⟩ = 0 by rw [HGO.out false (by rw [HB.out]; rw [if_pos HK7.out]; exact decide_eq_false (fun h => h HC.out))]; rfl)
          go_upto_region 14 with fail
          clear hw3 y1 y2 y3
          have fe0 := hR3.cell 0
          have ff0 := hR3.frozen 0
          have fe1 := hR3.cell 1
          have ff1 := hR3.frozen 1
          have fe2 := hR3.cell 2
          have ff2 := hR3.frozen 2
          go_wp2_with fail
          exact bodyPost_ret (fltA_ret rfl _ _ Bz _ _ _ rfl (flt_store hR3)) rfl ⟨by rw [HG.out]; rfl, flt_below b03 hBle⟩
        have z1 : ((n' : Int) != 6) = true := by simpa using c
        have z2 : (n' != 6) = true := by simp; omega
        have z3 : (n' == 6) = false := by simp; omega
        have HC := Lib.hid c
        clear c
        have HG := Lib.hid (show formA false ⟨fl, kind, all, val⟩ = 5 by rw [HGO.out true (by rw [HB.out]; rw [if_pos HK7.out]; exact decide_eq_true HC.out)]; rfl)
        go_wp2_with fail
        refine (attFault 5 A n c w3).mono ?_
        rintro _ w4 ⟨rfl, b4⟩
        have fe0 := (hR3.below b4 hR3.lt).cell 0
        have ff0 := (hR3.below b4 hR3.lt).frozen 0
        have fe1 := (hR3.below b4 hR3.lt).cell 1
        have ff1 := (hR3.below b4 hR3.lt).frozen 1
        have fe2 := (hR3.below b4 hR3.lt).cell 2
        have ff2 := (hR3.below b4 hR3.lt).frozen 2
        go_wp2_with fail
        exact bodyPost_ret (fltA_ret rfl _ _ Bz _ _ _ rfl (flt_store (hR3.below b4 hR3.lt))) rfl ⟨by rw [HG.out]; rfl, flt_below (btr b03 b4 b03.size) hBle⟩
      case true =>
        by_cases c : (n' : Int) = 8
        case pos =>
          have z1 : ((n' : Int) != 8) = false := by simpa using c
          have z2 : (n' != 8) = false := by simp; omega
          have z3 : (n' == 8) = true := by simp; omega
          have HC := Lib.hid c
          clear c
          have HG := Lib.hid (show formA true ⟨fl, kind, all, val⟩ = 0 by rw [HGO.out false (by rw [HB.out]; rw [if_pos HK7.out]; exact decide_eq_false (fun h => h HC.out))]; rfl)
          go_upto_region 14 with fail
          clear hw3 y1 y2 y3
          have fe0 := hR3.cell 0
          have ff0 := hR3.frozen 0
          have fe1 := hR3.cell 1
          have ff1 := hR3.frozen 1
          have fe2 := hR3.cell 2
          have ff2 := hR3.frozen 2
          go_wp2_with fail
          exact bodyPost_ret (fltA_ret rfl _ _ Bz _ _ _ rfl (flt_store hR3)) rfl ⟨by rw [HG.out]; rfl, flt_below b03 hBle⟩
        have z1 : ((n' : Int) != 8) = true := by simpa using c
        have z2 : (n' != 8) = true := by simp; omega
        have z3 : (n' == 8) = false := by simp; omega
        have HC := Lib.hid c
        clear c
        have HG := Lib.hid (show formA true ⟨fl, kind, all, val⟩ = 5 by rw [HGO.out true (by rw [HB.out]; rw [if_pos HK7.out]; exact decide_eq_true HC.out)]; rfl)
        go_wp2_with fail
        refine (attFault 5 A n c w3).mono ?_
        rintro _ w4 ⟨rfl, b4⟩
        have fe0 := (hR3.below b4 hR3.lt).cell 0
        have ff0 := (hR3.below b4 hR3.lt).frozen 0
        have fe1 := (hR3.below b4 hR3.lt).cell 1
        have ff1 := (hR3.below b4 hR3.lt).frozen 1
        have fe2 := (hR3.below b4 hR3.lt).cell 2
        have ff2 := (hR3.below b4 hR3.lt).frozen 2
        go_wp2_with fail
        exact bodyPost_ret (fltA_ret rfl _ _ Bz _ _ _ rfl (flt_store (hR3.below b4 hR3.lt))) rfl ⟨by rw [HG.out]; rfl, flt_below (btr b03 b4 b03.size) hBle⟩
    have v7 : (kind == 7) = false := by simpa using k7
    have HK7 := Lib.hid k7
    clear k7
    by_cases k8 : kind = 8
    case pos =>
      have v8 : (kind == 8) = true := by simpa using k8
      have HK8 := Lib.hid k8
      clear k8
      obtain ⟨R, hR4⟩ : ∃ x, n' % 4 = x := ⟨_, rfl⟩
      have e4 : (n' : Int).tmod 4 = (R : Int) := by rw [Int.tmod_eq_emod_of_nonneg (by omega)]; omega
      have e5 : IntKind.i64.wrap (R : Int) = (R : Int) := IntWalk.i64_in _ ⟨by omega, by omega⟩
      have HR4 := Lib.hid (show (n' : Int) % 4 = (R : Int) by omega)
      by_cases c : R = 0
      case pos =>
        have z1 : ((R : Int) != 0) = false := by simp; omega
        have z2 : (R != 0) = false := by simp; omega
        have HC := Lib.hid c
        clear c hR4
        have HG := Lib.hid (show formA wide ⟨fl, kind, all, val⟩ = 0 by rw [HGO.out false (by rw [HB.out]; rw [if_neg HK7.out, if_pos HK8.out, HR4.out, HC.out]; rfl)]; rfl)
        go_upto_region 14 with fail
        clear hw3 y1 y2 y3
        have fe0 := hR3.cell 0
        have ff0 := hR3.frozen 0
        have fe1 := hR3.cell 1
        have ff1 := hR3.frozen 1
        have fe2 := hR3.cell 2
        have ff2 := hR3.frozen 2
        go_wp2_with fail
        exact bodyPost_ret (fltA_ret rfl _ _ Bz _ _ _ rfl (flt_store hR3)) rfl ⟨by rw [HG.out]; rfl, flt_below b03 hBle⟩
      have z1 : ((R : Int) != 0) = true := by simp; omega
      have z2 : (R != 0) = true := by simp; omega
      have HC := Lib.hid c
      clear c hR4
      have HG := Lib.hid (show formA wide ⟨fl, kind, all, val⟩ = 5 by rw [HGO.out true (by rw [HB.out]; rw [if_neg HK7.out, if_pos HK8.out, HR4.out]; exact decide_eq_true (by have := HC.out; omega))]; rfl)
      go_wp2_with fail
      refine (attFault 5 A n c w3).mono ?_
      rintro _ w4 ⟨rfl, b4⟩
      have fe0 := (hR3.below b4 hR3.lt).cell 0
      have ff0 := (hR3.below b4 hR3.lt).frozen 0
      have fe1 := (hR3.below b4 hR3.lt).cell 1
      have ff1 := (hR3.below b4 hR3.lt).frozen 1
      have fe2 := (hR3.below b4 hR3.lt).cell 2
      have ff2 := (hR3.below b4 hR3.lt).frozen 2
      go_wp2_with fail
      exact bodyPost_ret (fltA_ret rfl _ _ Bz _ _ _ rfl (flt_store (hR3.below b4 hR3.lt))) rfl ⟨by rw [HG.out]; rfl, flt_below (btr b03 b4 b03.size) hBle⟩
    have v8 : (kind == 8) = false := by simpa using k8
    have HK8 := Lib.hid k8
    clear k8
    have HG := Lib.hid (show formA wide ⟨fl, kind, all, val⟩ = 0 by rw [HGO.out false (by rw [HB.out]; rw [if_neg HK7.out, if_neg HK8.out]; exact HS.out)]; rfl)
    go_upto_region 14 with fail
    clear hw3 y1 y2 y3
    have fe0 := hR3.cell 0
    have ff0 := hR3.frozen 0
    have fe1 := hR3.cell 1
    have ff1 := hR3.frozen 1
    have fe2 := hR3.cell 2
    have ff2 := hR3.frozen 2
    go_wp2_with fail
    exact bodyPost_ret (fltA_ret rfl _ _ Bz _ _ _ rfl (flt_store hR3)) rfl ⟨by rw [HG.out]; rfl, flt_below b03 hBle⟩
  have t2 : (P != 0) = true := by simpa using cP
  have cF : F = 192 := Classical.byContradiction fun h => HCB.out ⟨cP, h⟩
  have t3 : (F != 192) = false := by simpa using cF
  clear cP cF
  by_cases s1 : (n' : Int) < L1
  case pos =>
    have u1 : decide ((n' : Int) < L1) = true := decide_eq_true s1
    have HS := Lib.hid (show decide ((n' : Int) < L1 ∨ L2 < (n' : Int)) = true from decide_eq_true (.inl s1))
    clear s1
    go_upto_region 7 with fail
    clear u1 t1 t2 a1 a2 d1 d2 l0 l1 l2 y0 t3
    by_cases k7 : kind = 7
    case pos =>
      have v7 : (kind == 7) = true := by simpa using k7
      have HK7 := Lib.hid k7
      clear k7
      cases wide
      case false =>
        by_cases c : (n' : Int) = 6
        case pos =>
          have z1 : ((n' : Int) != 6) = false := by simpa using c
          have z2 : (n' != 6) = false := by simp; omega
          have z3 : (n' == 6) = true := by simp; omega
          have HC := Lib.hid c
          clear c
          have HG := Lib.hid (show formA false ⟨fl, kind, all, val⟩ = 0 by rw [HGO.out false (by rw [HB.out]; rw [if_pos HK7.out]; exact decide_eq_false (fun h => h HC.out))]; rfl)
          go_upto_region 14 with fail
          clear hw3 y1 y2 y3
          have fe0 := hR3.cell 0
          have ff0 := hR3.frozen 0
          have fe1 := hR3.cell 1
          have ff1 := hR3.frozen 1
          have fe2 := hR3.cell 2
          have ff2 := hR3.frozen 2
          go_wp2_with fail
          exact bodyPost_ret (fltA_ret rfl _ _ Bz _ _ _ rfl (flt_store hR3)) rfl ⟨by rw [HG.out]; rfl, flt_below b03 hBle⟩
        have z1 : ((n' : Int) != 6) = true := by simpa using c
        have z2 : (n' != 6) = true := by simp; omega
        have z3 : (n' == 6) = false := by simp; omega
        have HC := Lib.hid c
        clear c
        have HG := Lib.hid (show formA false ⟨fl, kind, all, val⟩ = 5 by rw [HGO.out true (by rw [HB.out]; rw [if_pos HK7.out]; exact decide_eq_true HC.out)]; rfl)
        go_wp2_with fail
        refine (attFault 5 A n c w3).mono ?_
        rintro _ w4 ⟨rfl, b4⟩
        have fe0 := (hR3.below b4 hR3.lt).cell 0
        have ff0 := (hR3.below b4 hR3.lt).frozen 0
        have fe1 := (hR3.below b4 hR3.lt).cell 1
        have ff1 := (hR3.below b4 hR3.lt).frozen 1
        have fe2 := (hR3.below b4 hR3.lt).cell 2
        have ff2 := (hR3.below b4 hR3.lt).frozen 2
        go_wp2_with fail
        exact bodyPost_ret (fltA_ret rfl _ _ Bz _ _ _ rfl (flt_store (hR3.below b4 hR3.lt))) rfl ⟨by rw [HG.out]; rfl, flt_below (btr b03 b4 b03.size) hBle⟩
      case true =>
        by_cases c : (n' : Int) = 8
        case pos =>
          have z1 : ((n' : Int) != 8) = false := by simpa using c
          have z2 : (n' != 8) = false := by simp; omega
          have z3 : (n' == 8) = true := by simp; omega
          have HC := Lib.hid c
          clear c
          have HG := Lib.hid (show formA true ⟨fl, kind, all, val⟩ = 0 by rw [HGO.out false (by rw [HB.out]; rw [if_pos HK7.out]; exact decide_eq_false (fun h => h HC.out))]; rfl)
          go_upto_region 14 with fail
          clear hw3 y1 y2 y3
          have fe0 := hR3.cell 0
          have ff0 := hR3.frozen 0
          have fe1 := hR3.cell 1
          have ff1 := hR3.frozen 1
          have fe2 := hR3.cell 2
          have ff2 := hR3.frozen 2
          go_wp2_with fail
          exact bodyPost_ret (fltA_ret rfl _ _ Bz _ _ _ rfl (flt_store hR3)) rfl ⟨by rw [HG.out]; rfl, flt_below b03 hBle⟩
        have z1 : ((n' : Int) != 8) = true := by simpa using c
        have z2 : (n' != 8) = true := by simp; omega
        have z3 : (n' == 8) = false := by simp; omega
        have HC := Lib.hid c
        clear c
        have HG := Lib.hid (show formA true ⟨fl, kind, all, val⟩ = 5 by rw [HGO.out true (by rw [HB.out]; rw [if_pos HK7.out]; exact decide_eq_true HC.out)]; rfl)
        go_wp2_with fail
        refine (attFault 5 A n c w3).mono ?_
        rintro _ w4 ⟨rfl, b4⟩
        have fe0 := (hR3.below b4 hR3.lt).cell 0
        have ff0 := (hR3.below b4 hR3.lt).frozen 0
        have fe1 := (hR3.below b4 hR3.lt).cell 1
        have ff1 := (hR3.below b4 hR3.lt).frozen 1
        have fe2 := (hR3.below b4 hR3.lt).cell 2
        have ff2 := (hR3.below b4 hR3.lt).frozen 2
        go_wp2_with fail
        exact bodyPost_ret (fltA_ret rfl _ _ Bz _ _ _ rfl (flt_store (hR3.below b4 hR3.lt))) rfl ⟨by rw [HG.out]; rfl, flt_below (btr b03 b4 b03.size) hBle⟩
    have v7 : (kind == 7) = false := by simpa using k7
    have HK7 := Lib.hid k7
    clear k7
    by_cases k8 : kind = 8
    case pos =>
      have v8 : (kind == 8) = true := by simpa using k8
      have HK8 := Lib.hid k8
      clear k8
      obtain ⟨R, hR4⟩ : ∃ x, n' % 4 = x := ⟨_, rfl⟩
      have e4 : (n' : Int).tmod 4 = (R : Int) := by rw [Int.tmod_eq_emod_of_nonneg (by omega)]; omega
      have e5 : IntKind.i64.wrap (R : Int) = (R : Int) := IntWalk.i64_in _ ⟨by omega, by omega⟩
      have HR4 := Lib.hid (show (n' : Int) % 4 = (R : Int) by omega)
      by_cases c : R = 0
      case pos =>
        have z1 : ((R : Int) != 0) = false := by simp; omega
        have z2 : (R != 0) = false := by simp; omega
        have HC := Lib.hid c
        clear c hR4
        have HG := Lib.hid (show formA wide ⟨fl, kind, all, val⟩ = 0 by rw [HGO.out false (by rw [HB.out]; rw [if_neg HK7.out, if_pos HK8.out, HR4.out, HC.out]; rfl)]; rfl)
        go_upto_region 14 with fail
        clear hw3 y1 y2 y3
        have fe0 := hR3.cell 0
        have ff0 := hR3.frozen 0
        have fe1 := hR3.cell 1
        have ff1 := hR3.frozen 1
        have fe2 := hR3.cell 2
        have ff2 := hR3.frozen 2
        go_wp2_with fail
        exact bodyPost_ret (fltA_ret rfl _ _ Bz _ _ _ rfl (flt_store hR3)) rfl ⟨by rw [HG.out]; rfl, flt_below b03 hBle⟩
      have z1 : ((R : Int) != 0) = true := by simp; omega
      have z2 : (R != 0) = true := by simp; omega
      have HC := Lib.hid c
      clear c hR4
      have HG := Lib.hid (show formA wide ⟨fl, kind, all, val⟩ = 5 by rw [HGO.out true (by rw [HB.out]; rw [if_neg HK7.out, if_pos HK8.out, HR4.out]; exact decide_eq_true (by have := HC.out; omega))]; rfl)
      go_wp2_with fail
      refine (attFault 5 A n c w3).mono ?_
      rintro _ w4 ⟨rfl, b4⟩
      have fe0 := (hR3.below b4 hR3.lt).cell 0
      have ff0 := (hR3.below b4 hR3.lt).frozen 0
      have fe1 := (hR3.below b4 hR3.lt).cell 1
      have ff1 := (hR3.below b4 hR3.lt).frozen 1
      have fe2 := (hR3.below b4 hR3.lt).cell 2
      have ff2 := (hR3.below b4 hR3.lt).frozen 2
      go_wp2_with fail
      exact bodyPost_ret (fltA_ret rfl _ _ Bz _ _ _ rfl (flt_store (hR3.below b4 hR3.lt))) rfl ⟨by rw [HG.out]; rfl, flt_below (btr b03 b4 b03.size) hBle⟩
    have v8 : (kind == 8) = false := by simpa using k8
    have HK8 := Lib.hid k8
    clear k8
    have HG := Lib.hid (show formA wide ⟨fl, kind, all, val⟩ = 5 by rw [HGO.out true (by rw [HB.out]; rw [if_neg HK7.out, if_neg HK8.out]; exact HS.out)]; rfl)
    go_wp2_with fail
    refine (attFault 5 A n c w3).mono ?_
    rintro _ w4 ⟨rfl, b4⟩
    have fe0 := (hR3.below b4 hR3.lt).cell 0
    have ff0 := (hR3.below b4 hR3.lt).frozen 0
    have fe1 := (hR3.below b4 hR3.lt).cell 1
    have ff1 := (hR3.below b4 hR3.lt).frozen 1
    have fe2 := (hR3.below b4 hR3.lt).cell 2
    have ff2 := (hR3.below b4 hR3.lt).frozen 2
    go_wp2_with fail
    exact bodyPost_ret (fltA_ret rfl _ _ Bz _ _ _ rfl (flt_store (hR3.below b4 hR3.lt))) rfl ⟨by rw [HG.out]; rfl, flt_below (btr b03 b4 b03.size) hBle⟩
  have u1 : decide ((n' : Int) < L1) = false := decide_eq_false s1
  have HS1 := Lib.hid s1
  clear s1
  by_cases s2 : L2 < (n' : Int)
  case pos =>
    have u2 : decide (L2 < (n' : Int)) = true := decide_eq_true s2
    have HS := Lib.hid (show decide ((n' : Int) < L1 ∨ L2 < (n' : Int)) = true from decide_eq_true (.inr s2))
    clear s2
    go_upto_region 7 with fail
    clear u1 t1 t2 a1 a2 d1 d2 l0 l1 l2 y0 u2 t3
    by_cases k7 : kind = 7
    case pos =>
      have v7 : (kind == 7) = true := by simpa using k7
      have HK7 := Lib.hid k7
      clear k7
      cases wide
      case false =>
        by_cases c : (n' : Int) = 6
        case pos =>
          have z1 : ((n' : Int) != 6) = false := by simpa using c
          have z2 : (n' != 6) = false := by simp; omega
          have z3 : (n' == 6) = true := by simp; omega
          have HC := Lib.hid c
          clear c
          have HG := Lib.hid (show formA false ⟨fl, kind, all, val⟩ = 0 by rw [HGO.out false (by rw [HB.out]; rw [if_pos HK7.out]; exact decide_eq_false (fun h => h HC.out))]; rfl)
          go_upto_region 14 with fail
          clear hw3 y1 y2 y3
          have fe0 := hR3.cell 0
          have ff0 := hR3.frozen 0
          have fe1 := hR3.cell 1
          have ff1 := hR3.frozen 1
          have fe2 := hR3.cell 2
          have ff2 := hR3.frozen 2
          go_wp2_with fail
          exact bodyPost_ret (fltA_ret rfl _ _ Bz _ _ _ rfl (flt_store hR3)) rfl ⟨by rw [HG.out]; rfl, flt_below b03 hBle⟩
        have z1 : ((n' : Int) != 6) = true := by simpa using c
        have z2 : (n' != 6) = true := by simp; omega
        have z3 : (n' == 6) = false := by simp; omega
        have HC := Lib.hid c
        clear c
        have HG := Lib.hid (show formA false ⟨fl, kind, all, val⟩ = 5 by rw [HGO.out true (by rw [HB.out]; rw [if_pos HK7.out]; exact decide_eq_true HC.out)]; rfl)
        go_wp2_with fail
        refine (attFault 5 A n c w3).mono ?_
        rintro _ w4 ⟨rfl, b4⟩
        have fe0 := (hR3.below b4 hR3.lt).cell 0
        have ff0 := (hR3.below b4 hR3.lt).frozen 0
        have fe1 := (hR3.below b4 hR3.lt).cell 1
        have ff1 := (hR3.below b4 hR3.lt).frozen 1
        have fe2 := (hR3.below b4 hR3.lt).cell 2
        have ff2 := (hR3.below b4 hR3.lt).frozen 2
        go_wp2_with fail
        exact bodyPost_ret (fltA_ret rfl _ _ Bz _ _ _ rfl (flt_store (hR3.below b4 hR3.lt))) rfl ⟨by rw [HG.out]; rfl, flt_below (btr b03 b4 b03.size) hBle⟩
      case true =>
        by_cases c : (n' : Int) = 8
        case pos =>
          have z1 : ((n' : Int) != 8) = false := by simpa using c
          have z2 : (n' != 8) = false := by simp; omega
          have z3 : (n' == 8) = true := by simp; omega
          have HC := Lib.hid c
          clear c
          have HG := Lib.hid (show formA true ⟨fl, kind, all, val⟩ = 0 by rw [HGO.out false (by rw [HB.out]; rw [if_pos HK7.out]; exact decide_eq_false (fun h => h HC.out))]; rfl)
          go_upto_region 14 with fail
          clear hw3 y1 y2 y3
          have fe0 := hR3.cell 0
          have ff0 := hR3.frozen 0
          have fe1 := hR3.cell 1
          have ff1 := hR3.frozen 1
          have fe2 := hR3.cell 2
          have ff2 := hR3.frozen 2
          go_wp2_with fail
          exact bodyPost_ret (fltA_ret rfl _ _ Bz _ _ _ rfl (flt_store hR3)) rfl ⟨by rw [HG.out]; rfl, flt_below b03 hBle⟩
        have z1 : ((n' : Int) != 8) = true := by simpa using c
        have z2 : (n' != 8) = true := by simp; omega
        have z3 : (n' == 8) = false := by simp; omega
        have HC := Lib.hid c
        clear c
        have HG := Lib.hid (show formA true ⟨fl, kind, all, val⟩ = 5 by rw [HGO.out true (by rw [HB.out]; rw [if_pos HK7.out]; exact decide_eq_true HC.out)]; rfl)
        go_wp2_with fail
        refine (attFault 5 A n c w3).mono ?_
        rintro _ w4 ⟨rfl, b4⟩
        have fe0 := (hR3.below b4 hR3.lt).cell 0
        have ff0 := (hR3.below b4 hR3.lt).frozen 0
        have fe1 := (hR3.below b4 hR3.lt).cell 1
        have ff1 := (hR3.below b4 hR3.lt).frozen 1
        have fe2 := (hR3.below b4 hR3.lt).cell 2
        have ff2 := (hR3.below b4 hR3.lt).frozen 2
        go_wp2_with fail
        exact bodyPost_ret (fltA_ret rfl _ _ Bz _ _ _ rfl (flt_store (hR3.below b4 hR3.lt))) rfl ⟨by rw [HG.out]; rfl, flt_below (btr b03 b4 b03.size) hBle⟩
    have v7 : (kind == 7) = false := by simpa using k7
    have HK7 := Lib.hid k7
    clear k7
    by_cases k8 : kind = 8
    case pos =>
      have v8 : (kind == 8) = true := by simpa using k8
      have HK8 := Lib.hid k8
      clear k8
      obtain ⟨R, hR4⟩ : ∃ x, n' % 4 = x := ⟨_, rfl⟩
      have e4 : (n' : Int).tmod 4 = (R : Int) := by rw [Int.tmod_eq_emod_of_nonneg (by omega)]; omega
      have e5 : IntKind.i64.wrap (R : Int) = (R : Int) := IntWalk.i64_in _ ⟨by omega, by omega⟩
      have HR4 := Lib.hid (show (n' : Int) % 4 = (R : Int) by omega)
      by_cases c : R = 0
      case pos =>
        have z1 : ((R : Int) != 0) = false := by simp; omega
        have z2 : (R != 0) = false := by simp; omega
        have HC := Lib.hid c
        clear c hR4
        have HG := Lib.hid (show formA wide ⟨fl, kind, all, val⟩ = 0 by rw [HGO.out false (by rw [HB.out]; rw [if_neg HK7.out, if_pos HK8.out, HR4.out, HC.out]; rfl)]; rfl)
        go_upto_region 14 with fail
        clear hw3 y1 y2 y3
        have fe0 := hR3.cell 0
        have ff0 := hR3.frozen 0
        have fe1 := hR3.cell 1
        have ff1 := hR3.frozen 1
        have fe2 := hR3.cell 2
        have ff2 := hR3.frozen 2
        go_wp2_with fail
        exact bodyPost_ret (fltA_ret rfl _ _ Bz _ _ _ rfl (flt_store hR3)) rfl ⟨by rw [HG.out]; rfl, flt_below b03 hBle⟩
      have z1 : ((R : Int) != 0) = true := by simp; omega
      have z2 : (R != 0) = true := by simp; omega
      have HC := Lib.hid c
      clear c hR4
      have HG := Lib.hid (show formA wide ⟨fl, kind, all, val⟩ = 5 by rw [HGO.out true (by rw [HB.out]; rw [if_neg HK7.out, if_pos HK8.out, HR4.out]; exact decide_eq_true (by have := HC.out; omega))]; rfl)
      go_wp2_with fail
      refine (attFault 5 A n c w3).mono ?_
      rintro _ w4 ⟨rfl, b4⟩
      have fe0 := (hR3.below b4 hR3.lt).cell 0
      have ff0 := (hR3.below b4 hR3.lt).frozen 0
      have fe1 := (hR3.below b4 hR3.lt).cell 1
      have ff1 := (hR3.below b4 hR3.lt).frozen 1
      have fe2 := (hR3.below b4 hR3.lt).cell 2
      have ff2 := (hR3.below b4 hR3.lt).frozen 2
      go_wp2_with fail
      exact bodyPost_ret (fltA_ret rfl _ _ Bz _ _ _ rfl (flt_store (hR3.below b4 hR3.lt))) rfl ⟨by rw [HG.out]; rfl, flt_below (btr b03 b4 b03.size) hBle⟩
    have v8 : (kind == 8) = false := by simpa using k8
    have HK8 := Lib.hid k8
    clear k8
    have HG := Lib.hid (show formA wide ⟨fl, kind, all, val⟩ = 5 by rw [HGO.out true (by rw [HB.out]; rw [if_neg HK7.out, if_neg HK8.out]; exact HS.out)]; rfl)
    go_wp2_with fail
    refine (attFault 5 A n c w3).mono ?_
    rintro _ w4 ⟨rfl, b4⟩
    have fe0 := (hR3.below b4 hR3.lt).cell 0
    have ff0 := (hR3.below b4 hR3.lt).frozen 0
    have fe1 := (hR3.below b4 hR3.lt).cell 1
    have ff1 := (hR3.below b4 hR3.lt).frozen 1
    have fe2 := (hR3.below b4 hR3.lt).cell 2
    have ff2 := (hR3.below b4 hR3.lt).frozen 2
    go_wp2_with fail
    exact bodyPost_ret (fltA_ret rfl _ _ Bz _ _ _ rfl (flt_store (hR3.below b4 hR3.lt))) rfl ⟨by rw [HG.out]; rfl, flt_below (btr b03 b4 b03.size) hBle⟩
  have u2 : decide (L2 < (n' : Int)) = false := decide_eq_false s2
  have HS := Lib.hid (show decide ((n' : Int) < L1 ∨ L2 < (n' : Int)) = false from decide_eq_false (fun h => h.elim HS1.out s2))
  clear s2
  go_upto_region 7 with fail
  clear u1 t1 t2 a1 a2 d1 d2 l0 l1 l2 y0 u2 t3
  by_cases k7 : kind = 7
  case pos =>
    have v7 : (kind == 7) = true := by simpa using k7
    have HK7 := Lib.hid k7
    clear k7
    cases wide
    case false =>
      by_cases c : (n' : Int) = 6
      case pos =>
        have z1 : ((n' : Int) != 6) = false := by simpa using c
        have z2 : (n' != 6) = false := by simp; omega
        have z3 : (n' == 6) = true := by simp; omega
        have HC := Lib.hid c
        clear c
        have HG := Lib.hid (show formA false ⟨fl, kind, all, val⟩ = 0 by rw [HGO.out false (by rw [HB.out]; rw [if_pos HK7.out]; exact decide_eq_false (fun h => h HC.out))]; rfl)
        go_upto_region 14 with fail
        clear hw3 y1 y2 y3
        have fe0 := hR3.cell 0
        have ff0 := hR3.frozen 0
        have fe1 := hR3.cell 1
        have ff1 := hR3.frozen 1
        have fe2 := hR3.cell 2
        have ff2 := hR3.frozen 2
        go_wp2_with fail
        exact bodyPost_ret (fltA_ret rfl _ _ Bz _ _ _ rfl (flt_store hR3)) rfl ⟨by rw [HG.out]; rfl, flt_below b03 hBle⟩
      have z1 : ((n' : Int) != 6) = true := by simpa using c
      have z2 : (n' != 6) = true := by simp; omega
      have z3 : (n' == 6) = false := by simp; omega
      have HC := Lib.hid c
      clear c
      have HG := Lib.hid (show formA false ⟨fl, kind, all, val⟩ = 5 by rw [HGO.out true (by rw [HB.out]; rw [if_pos HK7.out]; exact decide_eq_true HC.out)]; rfl)
      go_wp2_with fail
      refine (attFault 5 A n c w3).mono ?_
      rintro _ w4 ⟨rfl, b4⟩
      have fe0 := (hR3.below b4 hR3.lt).cell 0
      have ff0 := (hR3.below b4 hR3.lt).frozen 0
      have fe1 := (hR3.below b4 hR3.lt).cell 1
      have ff1 := (hR3.below b4 hR3.lt).frozen 1
      have fe2 := (hR3.below b4 hR3.lt).cell 2
      have ff2 := (hR3.below b4 hR3.lt).frozen 2
      go_wp2_with fail
      exact bodyPost_ret (fltA_ret rfl _ _ Bz _ _ _ rfl (flt_store (hR3.below b4 hR3.lt))) rfl ⟨by rw [HG.out]; rfl, flt_below (btr b03 b4 b03.size) hBle⟩
    case true =>
      by_cases c : (n' : Int) = 8
      case pos =>
        have z1 : ((n' : Int) != 8) = false := by simpa using c
        have z2 : (n' != 8) = false := by simp; omega
        have z3 : (n' == 8) = true := by simp; omega
        have HC := Lib.hid c
        clear c
        have HG := Lib.hid (show formA true ⟨fl, kind, all, val⟩ = 0 by rw [HGO.out false (by rw [HB.out]; rw [if_pos HK7.out]; exact decide_eq_false (fun h => h HC.out))]; rfl)
        go_upto_region 14 with fail
        clear hw3 y1 y2 y3
        have fe0 := hR3.cell 0
        have ff0 := hR3.frozen 0
        have fe1 := hR3.cell 1
        have ff1 := hR3.frozen 1
        have fe2 := hR3.cell 2
        have ff2 := hR3.frozen 2
        go_wp2_with fail
        exact bodyPost_ret (fltA_ret rfl _ _ Bz _ _ _ rfl (flt_store hR3)) rfl ⟨by rw [HG.out]; rfl, flt_below b03 hBle⟩
      have z1 : ((n' : Int) != 8) = true := by simpa using c
      have z2 : (n' != 8) = true := by simp; omega
      have z3 : (n' == 8) = false := by simp; omega
      have HC := Lib.hid c
      clear c
      have HG := Lib.hid (show formA true ⟨fl, kind, all, val⟩ = 5 by rw [HGO.out true (by rw [HB.out]; rw [if_pos HK7.out]; exact decide_eq_true HC.out)]; rfl)
      go_wp2_with fail
      refine (attFault 5 A n c w3).mono ?_
      rintro _ w4 ⟨rfl, b4⟩
      have fe0 := (hR3.below b4 hR3.lt).cell 0
      have ff0 := (hR3.below b4 hR3.lt).frozen 0
      have fe1 := (hR3.below b4 hR3.lt).cell 1
      have ff1 := (hR3.below b4 hR3.lt).frozen 1
      have fe2 := (hR3.below b4 hR3.lt).cell 2
      have ff2 := (hR3.below b4 hR3.lt).frozen 2
      go_wp2_with fail
      exact bodyPost_ret (fltA_ret rfl _ _ Bz _ _ _ rfl (flt_store (hR3.below b4 hR3.lt))) rfl ⟨by rw [HG.out]; rfl, flt_below (btr b03 b4 b03.size) hBle⟩
  have v7 : (kind == 7) = false := by simpa using k7
  have HK7 := Lib.hid k7
  clear k7
  by_cases k8 : kind = 8
  case pos =>
    have v8 : (kind == 8) = true := by simpa using k8
    have HK8 := Lib.hid k8
    clear k8
    obtain ⟨R, hR4⟩ : ∃ x, n' % 4 = x := ⟨_, rfl⟩
    have e4 : (n' : Int).tmod 4 = (R : Int) := by rw [Int.tmod_eq_emod_of_nonneg (by omega)]; omega
    have e5 : IntKind.i64.wrap (R : Int) = (R : Int) := IntWalk.i64_in _ ⟨by omega, by omega⟩
    have HR4 := Lib.hid (show (n' : Int) % 4 = (R : Int) by omega)
    by_cases c : R = 0
    case pos =>
      have z1 : ((R : Int) != 0) = false := by simp; omega
      have z2 : (R != 0) = false := by simp; omega
      have HC := Lib.hid c
      clear c hR4
      have HG := Lib.hid (show formA wide ⟨fl, kind, all, val⟩ = 0 by rw [HGO.out false (by rw [HB.out]; rw [if_neg HK7.out, if_pos HK8.out, HR4.out, HC.out]; rfl)]; rfl)
      go_upto_region 14 with fail
      clear hw3 y1 y2 y3
      have fe0 := hR3.cell 0
      have ff0 := hR3.frozen 0
      have fe1 := hR3.cell 1
      have ff1 := hR3.frozen 1
      have fe2 := hR3.cell 2
      have ff2 := hR3.frozen 2
      go_wp2_with fail
      exact bodyPost_ret (fltA_ret rfl _ _ Bz _ _ _ rfl (flt_store hR3)) rfl ⟨by rw [HG.out]; rfl, flt_below b03 hBle⟩
    have z1 : ((R : Int) != 0) = true := by simp; omega
    have z2 : (R != 0) = true := by simp; omega
    have HC := Lib.hid c
    clear c hR4
    have HG := Lib.hid (show formA wide ⟨fl, kind, all, val⟩ = 5 by rw [HGO.out true (by rw [HB.out]; rw [if_neg HK7.out, if_pos HK8.out, HR4.out]; exact decide_eq_true (by have := HC.out; omega))]; rfl)
    go_wp2_with fail
    refine (attFault 5 A n c w3).mono ?_
    rintro _ w4 ⟨rfl, b4⟩
    have fe0 := (hR3.below b4 hR3.lt).cell 0
    have ff0 := (hR3.below b4 hR3.lt).frozen 0
    have fe1 := (hR3.below b4 hR3.lt).cell 1
    have ff1 := (hR3.below b4 hR3.lt).frozen 1
    have fe2 := (hR3.below b4 hR3.lt).cell 2
    have ff2 := (hR3.below b4 hR3.lt).frozen 2
    go_wp2_with fail
    exact bodyPost_ret (fltA_ret rfl _ _ Bz _ _ _ rfl (flt_store (hR3.below b4 hR3.lt))) rfl ⟨by rw [HG.out]; rfl, flt_below (btr b03 b4 b03.size) hBle⟩
  have v8 : (kind == 8) = false := by simpa using k8
  have HK8 := Lib.hid k8
  clear k8
  have HG := Lib.hid (show formA wide ⟨fl, kind, all, val⟩ = 0 by rw [HGO.out false (by rw [HB.out]; rw [if_neg HK7.out, if_neg HK8.out]; exact HS.out)]; rfl)
  go_upto_region 14 with fail
  clear hw3 y1 y2 y3
  have fe0 := hR3.cell 0
  have ff0 := hR3.frozen 0
  have fe1 := hR3.cell 1
  have ff1 := hR3.frozen 1
  have fe2 := hR3.cell 2
  have ff2 := hR3.frozen 2
  go_wp2_with fail
  exact bodyPost_ret (fltA_ret rfl _ _ Bz _ _ _ rfl (flt_store hR3)) rfl ⟨by rw [HG.out]; rfl, flt_below b03 hBle⟩
end Go.Proofs.YtlpkngjeihoknaaDoor
