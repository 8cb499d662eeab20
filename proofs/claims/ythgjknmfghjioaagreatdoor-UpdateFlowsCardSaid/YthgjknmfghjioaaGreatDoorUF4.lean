/- Joined texts (AttO AttP AttQ AttR AttT). Conditions: those of the theorems. -/
import Derived.Test.YthgjknmfghjioaaGreatDoorProg
import Derived.WalkKit
import Derived.WalkSpells
import Derived.WalkLawsBesides
import Derived.Outline
import Derived.Deep.QuietTactic
import Derived.BigQuiet
import Derived.Handy
import Derived.Lib.Hide
import Derived.Test.YthgjknmfghjioaaGreatDoorUF2
import Derived.Test.YthgjknmfghjioaaGreatDoorUF3
import Derived.Deep.DeepCutAuto
import Derived.Deep.CutBlock
import Derived.Laws.Cover4
import Derived.OrdersHeld
import Derived.Deep.RegionHeld
import Derived.Deep.LoopGhost
import Derived.Test.YthgjknmfghjioaaGreatDoorTki
namespace Go.Proofs.YthgjknmfghjioaaGreatDoor
open Go.RowKit
set_option linter.unusedSimpArgs false
set_option linter.unusedVariables false
theorem ite_cg {α : Type} {c d : Prop} [hc : Decidable c] [hd : Decidable d] {x y u v : α} (h : c ↔ d) (hx : x = u) (hy : y = v) : (if c then x else y) = if d then u else v := by
 subst hx hy
 by_cases hc' : c
 ·rw [if_pos hc', if_pos (h.1 hc')]
 ·rw [if_neg hc', if_neg (fun h' => hc' (h.2 h'))]
/-- A fault, or none, is handed back. -/
def faultV (f : Int) (A : Option Addr) (n c : Nat) : Value := if f = 0 then .agg #[.int .i64 0, .int .i64 0, .slice none 0 0] else .agg #[.int .i64 3, .int .i64 f, .slice A n c]
set_option maxHeartbeats 4000000 in
set_option maxRecDepth 100000 in
theorem attForm (g : Nat) (fl : Int) (kind : Int) (A : Option Addr) (n c : Nat) (all : List UInt8) (A' : Option Addr) (n' c' : Nat) (val : List UInt8) (wide : Bool) (w : World) (hw : w.cell? ⟨g, 16, none⟩ = some (.bool wide)) (hg : g < w.heap.size) (hf : 0 ≤ fl ∧ fl ≤ 255) (hk : 0 ≤ kind ∧ kind ≤ 18) (hn : n' = val.length) (ht : LookTab w) :
  Calls Tryz.prog 151 #[.pointer (some ⟨g, 0, none⟩), .agg #[.int .i64 fl, .int .i64 kind, .slice A n c, .slice A' n' c']] w fun en w' => en = .returned (faultV (formA wide ⟨fl, kind, all, val⟩) A n c) ∧ Below w.heap.size w w' := by
 obtain ⟨W, hW, hX, hR, b0⟩ := boxes2 w #[.int .i64 fl, .int .i64 kind, .slice A n c, .slice A' n' c'] #[.int .i64 0, .int .i64 0, .slice none 0 0] 222 88
 have hWz := b0.size
 obtain ⟨N, hN0⟩ : ∃ N, kind.toNat = N := ⟨_, rfl⟩
 have hNk : kind = (N : Int) := by omega
 have hN : N < 19 := by omega
 have htW := ht.call b0
 obtain ⟨t0, t1, t2⟩ := htW N hN
 have HFL0 : flagsA kind = ((lookAt N).1 : Int) := by rw [hNk]; exact flags_look ⟨N, hN⟩
 have HFL := Lib.hid HFL0
 clear HFL0
 have HKN := Lib.hid hNk
 have HN0 := Lib.hid hN0
 obtain ⟨L0, h0⟩ : ∃ x, ((lookAt N).1 : Int) = x := ⟨_, rfl⟩
 obtain ⟨L1, h1⟩ : ∃ x, ((lookAt N).2.1 : Int) = x := ⟨_, rfl⟩
 obtain ⟨L2, h2⟩ : ∃ x, ((lookAt N).2.2 : Int) = x := ⟨_, rfl⟩
 rw [h0, ← hN0] at t0
 rw [h1, ← hN0] at t1
 rw [h2, ← hN0] at t2
 have hwW := (b0.cell (p := ⟨g, 16, none⟩) hg).trans hw
 have HH0 := Lib.hid h0
 have HH1 := Lib.hid h1
 have HH2 := Lib.hid h2
 have d1 : decide (0 ≤ kind) = true := decide_eq_true hk.1
 have d2 : decide (kind < 19) = true := decide_eq_true (by omega)
 clear hNk hN0
 have x0 := hX.cell 0
 have x1 := hX.cell 1
 have x2 := hX.cell 2
 have x3 := hX.cell 3
 obtain ⟨a1, a2, _, _⟩ := andK hf.1 hf.2
 have HNL := Lib.hid hn
 clear h0 h1 h2 hw ht htW hn
 go_enter Tryz.func151, Tryz.ntmps151
 go_upto_region 1 with fail
 try rw [hW]
 clear hW
 go_upto_region 3 with fail
 obtain ⟨w3, hw3, hL, b3⟩ := box1c W #[.int .i64 L0, .int .i64 L1, .int .i64 L2] 269
 try rw [hw3]
 clear hw3
 obtain ⟨q, hq⟩ : ∃ q, W.heap.size = q := ⟨_, rfl⟩
 try rw [hq]
 have b03 := btr b0 b3 b0.size
 have hX3 := hX.below b3 hX.lt
 have hR3 := hR.below b3 hR.lt
 have hgW : g < W.heap.size := Nat.lt_of_lt_of_le hg hWz
 have hw3 := (b3.cell (p := ⟨g, 16, none⟩) hgW).trans hwW
 rw [hq] at hL
 have y0 := hX3.cell 0
 have y1 := hX3.cell 1
 have y2 := hX3.cell 2
 have y3 := hX3.cell 3
 have l0 := hL.cell 0
 have l1 := hL.cell 1
 have l2 := hL.cell 2
 have r0 := hR3.cell 0
 have r1 := hR3.cell 1
 have r2 := hR3.cell 2
 have s0 := hR3.frozen 0
 have s1 := hR3.frozen 1
 have s2 := hR3.frozen 2
 clear x0 x1 x2 x3 t0 t1 t2 hwW
 obtain ⟨F, hF⟩ : ∃ x, fl / 64 % 4 * 64 = x := ⟨_, rfl⟩
 obtain ⟨P, hP⟩ : ∃ x, fl / 32 % 2 * 32 = x := ⟨_, rfl⟩
 rw [hF] at a1
 rw [hP] at a2
 have HFI := Lib.hid hF
 have HPI := Lib.hid hP
 clear hF hP hq
 obtain ⟨Bz, hBz⟩ : ∃ x, w.heap.size + 1 = x := ⟨_, rfl⟩
 rw [hBz] at hR3
 have hBle : w.heap.size ≤ Bz := by omega
 try rw [hBz]
 clear hBz
 clear r0 r1 r2 s0 s1 s2
 have HK := Lib.hid b03
 have HFO0 : formA wide ⟨fl, kind, all, val⟩ = if F ≠ L0 ∨ P ≠ 0 ∧ L0 ≠ 192 then 4 else if badLen wide kind val.length = true then 5 else 0 := by
  unfold formA
  simp only
  have e1 : flagsA kind = L0 := by rw [← HH0.out]; exact HFL.out
  have e2 : ptF fl = true ↔ P ≠ 0 := by rw [← HPI.out]; unfold ptF; rw [decide_eq_true_eq]; omega
  rw [e1, HFI.out]
  exact ite_cg (or_congr Iff.rfl (and_congr e2 Iff.rfl)) rfl rfl
 have HFO := Lib.hid HFO0
 clear HFO0
 by_cases cA : F = L0
 case neg =>
  have t1 : (F != L0) = true := by simpa using cA
  have HG := Lib.hid (show formA wide ⟨fl, kind, all, val⟩ = 4 by rw [HFO.out, if_pos (.inl cA)])
  clear cA
  go_wp2_with fail
  refine (attFault 4 A n c w3).mono ?_
  rintro _ w4 ⟨rfl, b4⟩
  have fe0 := (hR3.below b4 hR3.lt).cell 0
  have ff0 := (hR3.below b4 hR3.lt).frozen 0
  have fe1 := (hR3.below b4 hR3.lt).cell 1
  have ff1 := (hR3.below b4 hR3.lt).frozen 1
  have fe2 := (hR3.below b4 hR3.lt).cell 2
  have ff2 := (hR3.below b4 hR3.lt).frozen 2
  go_wp2_with fail
  exact bodyPost_ret (fltA_ret rfl _ _ Bz _ _ _ rfl (flt_store (hR3.below b4 hR3.lt))) rfl ⟨by rw [HG.out]; rfl, flt_below (btr b03 b4 b03.size) hBle⟩
 subst cA
 have t1 : (F != F) = false := by simp
 by_cases cB : P ≠ 0 ∧ F ≠ 192
 case pos =>
  have t2 : (P != 0) = true := by simpa using cB.1
  have t3 : (F != 192) = true := by simpa using cB.2
  have HG := Lib.hid (show formA wide ⟨fl, kind, all, val⟩ = 4 by rw [HFO.out, if_pos (.inr cB)])
  clear cB
  go_wp2_with fail
  refine (attFault 4 A n c w3).mono ?_
  rintro _ w4 ⟨rfl, b4⟩
  have fe0 := (hR3.below b4 hR3.lt).cell 0
  have ff0 := (hR3.below b4 hR3.lt).frozen 0
  have fe1 := (hR3.below b4 hR3.lt).cell 1
  have ff1 := (hR3.below b4 hR3.lt).frozen 1
  have fe2 := (hR3.below b4 hR3.lt).cell 2
  have ff2 := (hR3.below b4 hR3.lt).frozen 2
  go_wp2_with fail
  exact bodyPost_ret (fltA_ret rfl _ _ Bz _ _ _ rfl (flt_store (hR3.below b4 hR3.lt))) rfl ⟨by rw [HG.out]; rfl, flt_below (btr b03 b4 b03.size) hBle⟩
 have HFB := Lib.hid (show formA wide ⟨fl, kind, all, val⟩ = if badLen wide kind val.length = true then 5 else 0 by rw [HFO.out, if_neg (fun h => h.elim (fun h => h rfl) cB)])
 have HCB := Lib.hid cB
 clear cB
 have HGO := Lib.hid (show ∀ r : Bool, badLen wide kind val.length = r → formA wide ⟨fl, kind, all, val⟩ = if r = true then 5 else 0 from fun r h => by rw [HFB.out, h])
 have HB0 : badLen wide kind val.length = if kind = 7 then decide ((n' : Int) ≠ if wide then 8 else 6) else if kind = 8 then decide ((n' : Int) % 4 ≠ 0) else decide ((n' : Int) < L1 ∨ L2 < (n' : Int)) := by
  unfold badLen
  rw [← HNL.out, ← HH1.out, ← HH2.out, HN0.out]
  refine ite_cg Iff.rfl ?_ (ite_cg Iff.rfl ?_ ?_)
  ·cases wide <;> exact decide_eq_decide.2 (by simp; omega)
  ·exact decide_eq_decide.2 (by omega)
  ·exact decide_eq_decide.2 (by omega)
 have HB := Lib.hid HB0
 clear HB0
 -- TAIL (genatto.py)
 by_cases cP : P = 0
 case pos =>
  have t2 : (P != 0) = false := by simpa using cP
  clear cP
  by_cases s1 : (n' : Int) < L1
  case pos =>
   have u1 : decide ((n' : Int) < L1) = true := decide_eq_true s1
   have HS := Lib.hid (show decide ((n' : Int) < L1 ∨ L2 < (n' : Int)) = true from decide_eq_true (.inl s1))
   clear s1
   go_upto_region 7 with fail
   clear u1 t1 t2 a1 a2 d1 d2 l0 l1 l2 y0
   by_cases k7 : kind = 7
   case pos =>
    have v7 : (kind == 7) = true := by simpa using k7
    have HK7 := Lib.hid k7
    clear k7
    cases wide
    case false =>
     by_cases c : (n' : Int) = 6
     case pos =>
      have z1 : ((n' : Int) != 6) = false := by simpa using c
      have z2 : (n' != 6) = false := by simp; omega
      have z3 : (n' == 6) = true := by simp; omega
      have HC := Lib.hid c
      clear c
      have HG := Lib.hid (show formA false ⟨fl, kind, all, val⟩ = 0 by rw [HGO.out false (by rw [HB.out]; rw [if_pos HK7.out]; exact decide_eq_false (fun h => h HC.out))]; rfl)
      go_upto_region 14 with fail
      clear hw3 y1 y2 y3
      have fe0 := hR3.cell 0
      have ff0 := hR3.frozen 0
      have fe1 := hR3.cell 1
      have ff1 := hR3.frozen 1
      have fe2 := hR3.cell 2
      have ff2 := hR3.frozen 2
      go_wp2_with fail
      exact bodyPost_ret (fltA_ret rfl _ _ Bz _ _ _ rfl (flt_store hR3)) rfl ⟨by rw [HG.out]; rfl, flt_below b03 hBle⟩
     have z1 : ((n' : Int) != 6) = true := by simpa using c
     have z2 : (n' != 6) = true := by simp; omega
     have z3 : (n' == 6) = false := by simp; omega
     have HC := Lib.hid c
     clear c
     have HG := Lib.hid (show formA false ⟨fl, kind, all, val⟩ = 5 by rw [HGO.out true (by rw [HB.out]; rw [if_pos HK7.out]; exact decide_eq_true HC.out)]; rfl)
     go_wp2_with fail
     refine (attFault 5 A n c w3).mono ?_
     rintro _ w4 ⟨rfl, b4⟩
     have fe0 := (hR3.below b4 hR3.lt).cell 0
     have ff0 := (hR3.below b4 hR3.lt).frozen 0
     have fe1 := (hR3.below b4 hR3.lt).cell 1
     have ff1 := (hR3.below b4 hR3.lt).frozen 1
     have fe2 := (hR3.below b4 hR3.lt).cell 2
     have ff2 := (hR3.below b4 hR3.lt).frozen 2
     go_wp2_with fail
     exact bodyPost_ret (fltA_ret rfl _ _ Bz _ _ _ rfl (flt_store (hR3.below b4 hR3.lt))) rfl ⟨by rw [HG.out]; rfl, flt_below (btr b03 b4 b03.size) hBle⟩
    case true =>
     by_cases c : (n' : Int) = 8
     case pos =>
      have z1 : ((n' : Int) != 8) = false := by simpa using c
      have z2 : (n' != 8) = false := by simp; omega
      have z3 : (n' == 8) = true := by simp; omega
      have HC := Lib.hid c
      clear c
      have HG := Lib.hid (show formA true ⟨fl, kind, all, val⟩ = 0 by rw [HGO.out false (by rw [HB.out]; rw [if_pos HK7.out]; exact decide_eq_false (fun h => h HC.out))]; rfl)
      go_upto_region 14 with fail
      clear hw3 y1 y2 y3
      have fe0 := hR3.cell 0
      have ff0 := hR3.frozen 0
      have fe1 := hR3.cell 1
      have ff1 := hR3.frozen 1
      have fe2 := hR3.cell 2
      have ff2 := hR3.frozen 2
      go_wp2_with fail
      exact bodyPost_ret (fltA_ret rfl _ _ Bz _ _ _ rfl (flt_store hR3)) rfl ⟨by rw [HG.out]; rfl, flt_below b03 hBle⟩
     have z1 : ((n' : Int) != 8) = true := by simpa using c
     have z2 : (n' != 8) = true := by simp; omega
     have z3 : (n' == 8) = false := by simp; omega
     have HC := Lib.hid c
     clear c
     have HG := Lib.hid (show formA true ⟨fl, kind, all, val⟩ = 5 by rw [HGO.out true (by rw [HB.out]; rw [if_pos HK7.out]; exact decide_eq_true HC.out)]; rfl)
     go_wp2_with fail
     refine (attFault 5 A n c w3).mono ?_
     rintro _ w4 ⟨rfl, b4⟩
     have fe0 := (hR3.below b4 hR3.lt).cell 0
     have ff0 := (hR3.below b4 hR3.lt).frozen 0
     have fe1 := (hR3.below b4 hR3.lt).cell 1
     have ff1 := (hR3.below b4 hR3.lt).frozen 1
     have fe2 := (hR3.below b4 hR3.lt).cell 2
     have ff2 := (hR3.below b4 hR3.lt).frozen 2
     go_wp2_with fail
     exact bodyPost_ret (fltA_ret rfl _ _ Bz _ _ _ rfl (flt_store (hR3.below b4 hR3.lt))) rfl ⟨by rw [HG.out]; rfl, flt_below (btr b03 b4 b03.size) hBle⟩
   have v7 : (kind == 7) = false := by simpa using k7
   have HK7 := Lib.hid k7
   clear k7
   by_cases k8 : kind = 8
   case pos =>
    have v8 : (kind == 8) = true := by simpa using k8
    have HK8 := Lib.hid k8
    clear k8
    obtain ⟨R, hR4⟩ : ∃ x, n' % 4 = x := ⟨_, rfl⟩
    have e4 : (n' : Int).tmod 4 = (R : Int) := by rw [Int.tmod_eq_emod_of_nonneg (by omega)]; omega
    have e5 : IntKind.i64.wrap (R : Int) = (R : Int) := IntWalk.i64_in _ ⟨by omega, by omega⟩
    have HR4 := Lib.hid (show (n' : Int) % 4 = (R : Int) by omega)
    by_cases c : R = 0
    case pos =>
     have z1 : ((R : Int) != 0) = false := by simp; omega
     have z2 : (R != 0) = false := by simp; omega
     have HC := Lib.hid c
     clear c hR4
     have HG := Lib.hid (show formA wide ⟨fl, kind, all, val⟩ = 0 by rw [HGO.out false (by rw [HB.out]; rw [if_neg HK7.out, if_pos HK8.out, HR4.out, HC.out]; rfl)]; rfl)
     go_upto_region 14 with fail
     clear hw3 y1 y2 y3
     have fe0 := hR3.cell 0
     have ff0 := hR3.frozen 0
     have fe1 := hR3.cell 1
     have ff1 := hR3.frozen 1
     have fe2 := hR3.cell 2
     have ff2 := hR3.frozen 2
     go_wp2_with fail
     exact bodyPost_ret (fltA_ret rfl _ _ Bz _ _ _ rfl (flt_store hR3)) rfl ⟨by rw [HG.out]; rfl, flt_below b03 hBle⟩
    have z1 : ((R : Int) != 0) = true := by simp; omega
    have z2 : (R != 0) = true := by simp; omega
    have HC := Lib.hid c
    clear c hR4
    have HG := Lib.hid (show formA wide ⟨fl, kind, all, val⟩ = 5 by rw [HGO.out true (by rw [HB.out]; rw [if_neg HK7.out, if_pos HK8.out, HR4.out]; exact decide_eq_true (by have := HC.out; omega))]; rfl)
    go_wp2_with fail
    refine (attFault 5 A n c w3).mono ?_
    rintro _ w4 ⟨rfl, b4⟩
    have fe0 := (hR3.below b4 hR3.lt).cell 0
    have ff0 := (hR3.below b4 hR3.lt).frozen 0
    have fe1 := (hR3.below b4 hR3.lt).cell 1
    have ff1 := (hR3.below b4 hR3.lt).frozen 1
    have fe2 := (hR3.below b4 hR3.lt).cell 2
    have ff2 := (hR3.below b4 hR3.lt).frozen 2
    go_wp2_with fail
    exact bodyPost_ret (fltA_ret rfl _ _ Bz _ _ _ rfl (flt_store (hR3.below b4 hR3.lt))) rfl ⟨by rw [HG.out]; rfl, flt_below (btr b03 b4 b03.size) hBle⟩
   have v8 : (kind == 8) = false := by simpa using k8
   have HK8 := Lib.hid k8
   clear k8
   have HG := Lib.hid (show formA wide ⟨fl, kind, all, val⟩ = 5 by rw [HGO.out true (by rw [HB.out]; rw [if_neg HK7.out, if_neg HK8.out]; exact HS.out)]; rfl)
   go_wp2_with fail
   refine (attFault 5 A n c w3).mono ?_
   rintro _ w4 ⟨rfl, b4⟩
   have fe0 := (hR3.below b4 hR3.lt).cell 0
   have ff0 := (hR3.below b4 hR3.lt).frozen 0
   have fe1 := (hR3.below b4 hR3.lt).cell 1
   have ff1 := (hR3.below b4 hR3.lt).frozen 1
   have fe2 := (hR3.below b4 hR3.lt).cell 2
   have ff2 := (hR3.below b4 hR3.lt).frozen 2
   go_wp2_with fail
   exact bodyPost_ret (fltA_ret rfl _ _ Bz _ _ _ rfl (flt_store (hR3.below b4 hR3.lt))) rfl ⟨by rw [HG.out]; rfl, flt_below (btr b03 b4 b03.size) hBle⟩
  have u1 : decide ((n' : Int) < L1) = false := decide_eq_false s1
  have HS1 := Lib.hid s1
  clear s1
  by_cases s2 : L2 < (n' : Int)
  case pos =>
   have u2 : decide (L2 < (n' : Int)) = true := decide_eq_true s2
   have HS := Lib.hid (show decide ((n' : Int) < L1 ∨ L2 < (n' : Int)) = true from decide_eq_true (.inr s2))
   clear s2
   go_upto_region 7 with fail
   clear u1 t1 t2 a1 a2 d1 d2 l0 l1 l2 y0 u2
   by_cases k7 : kind = 7
   case pos =>
    have v7 : (kind == 7) = true := by simpa using k7
    have HK7 := Lib.hid k7
    clear k7
    cases wide
    case false =>
     by_cases c : (n' : Int) = 6
     case pos =>
      have z1 : ((n' : Int) != 6) = false := by simpa using c
      have z2 : (n' != 6) = false := by simp; omega
      have z3 : (n' == 6) = true := by simp; omega
      have HC := Lib.hid c
      clear c
      have HG := Lib.hid (show formA false ⟨fl, kind, all, val⟩ = 0 by rw [HGO.out false (by rw [HB.out]; rw [if_pos HK7.out]; exact decide_eq_false (fun h => h HC.out))]; rfl)
      go_upto_region 14 with fail
      clear hw3 y1 y2 y3
      have fe0 := hR3.cell 0
      have ff0 := hR3.frozen 0
      have fe1 := hR3.cell 1
      have ff1 := hR3.frozen 1
      have fe2 := hR3.cell 2
      have ff2 := hR3.frozen 2
      go_wp2_with fail
      exact bodyPost_ret (fltA_ret rfl _ _ Bz _ _ _ rfl (flt_store hR3)) rfl ⟨by rw [HG.out]; rfl, flt_below b03 hBle⟩
     have z1 : ((n' : Int) != 6) = true := by simpa using c
     have z2 : (n' != 6) = true := by simp; omega
     have z3 : (n' == 6) = false := by simp; omega
     have HC := Lib.hid c
     clear c
     have HG := Lib.hid (show formA false ⟨fl, kind, all, val⟩ = 5 by rw [HGO.out true (by rw [HB.out]; rw [if_pos HK7.out]; exact decide_eq_true HC.out)]; rfl)
     go_wp2_with fail
     refine (attFault 5 A n c w3).mono ?_
     rintro _ w4 ⟨rfl, b4⟩
     have fe0 := (hR3.below b4 hR3.lt).cell 0
     have ff0 := (hR3.below b4 hR3.lt).frozen 0
     have fe1 := (hR3.below b4 hR3.lt).cell 1
     have ff1 := (hR3.below b4 hR3.lt).frozen 1
     have fe2 := (hR3.below b4 hR3.lt).cell 2
     have ff2 := (hR3.below b4 hR3.lt).frozen 2
     go_wp2_with fail
     exact bodyPost_ret (fltA_ret rfl _ _ Bz _ _ _ rfl (flt_store (hR3.below b4 hR3.lt))) rfl ⟨by rw [HG.out]; rfl, flt_below (btr b03 b4 b03.size) hBle⟩
    case true =>
     by_cases c : (n' : Int) = 8
     case pos =>
      have z1 : ((n' : Int) != 8) = false := by simpa using c
      have z2 : (n' != 8) = false := by simp; omega
      have z3 : (n' == 8) = true := by simp; omega
      have HC := Lib.hid c
      clear c
      have HG := Lib.hid (show formA true ⟨fl, kind, all, val⟩ = 0 by rw [HGO.out false (by rw [HB.out]; rw [if_pos HK7.out]; exact decide_eq_false (fun h => h HC.out))]; rfl)
      go_upto_region 14 with fail
      clear hw3 y1 y2 y3
      have fe0 := hR3.cell 0
      have ff0 := hR3.frozen 0
      have fe1 := hR3.cell 1
      have ff1 := hR3.frozen 1
      have fe2 := hR3.cell 2
      have ff2 := hR3.frozen 2
      go_wp2_with fail
      exact bodyPost_ret (fltA_ret rfl _ _ Bz _ _ _ rfl (flt_store hR3)) rfl ⟨by rw [HG.out]; rfl, flt_below b03 hBle⟩
     have z1 : ((n' : Int) != 8) = true := by simpa using c
     have z2 : (n' != 8) = true := by simp; omega
     have z3 : (n' == 8) = false := by simp; omega
     have HC := Lib.hid c
     clear c
     have HG := Lib.hid (show formA true ⟨fl, kind, all, val⟩ = 5 by rw [HGO.out true (by rw [HB.out]; rw [if_pos HK7.out]; exact decide_eq_true HC.out)]; rfl)
     go_wp2_with fail
     refine (attFault 5 A n c w3).mono ?_
     rintro _ w4 ⟨rfl, b4⟩
     have fe0 := (hR3.below b4 hR3.lt).cell 0
     have ff0 := (hR3.below b4 hR3.lt).frozen 0
     have fe1 := (hR3.below b4 hR3.lt).cell 1
     have ff1 := (hR3.below b4 hR3.lt).frozen 1
     have fe2 := (hR3.below b4 hR3.lt).cell 2
     have ff2 := (hR3.below b4 hR3.lt).frozen 2
     go_wp2_with fail
     exact bodyPost_ret (fltA_ret rfl _ _ Bz _ _ _ rfl (flt_store (hR3.below b4 hR3.lt))) rfl ⟨by rw [HG.out]; rfl, flt_below (btr b03 b4 b03.size) hBle⟩
   have v7 : (kind == 7) = false := by simpa using k7
   have HK7 := Lib.hid k7
   clear k7
   by_cases k8 : kind = 8
   case pos =>
    have v8 : (kind == 8) = true := by simpa using k8
    have HK8 := Lib.hid k8
    clear k8
    obtain ⟨R, hR4⟩ : ∃ x, n' % 4 = x := ⟨_, rfl⟩
    have e4 : (n' : Int).tmod 4 = (R : Int) := by rw [Int.tmod_eq_emod_of_nonneg (by omega)]; omega
    have e5 : IntKind.i64.wrap (R : Int) = (R : Int) := IntWalk.i64_in _ ⟨by omega, by omega⟩
    have HR4 := Lib.hid (show (n' : Int) % 4 = (R : Int) by omega)
    by_cases c : R = 0
    case pos =>
     have z1 : ((R : Int) != 0) = false := by simp; omega
     have z2 : (R != 0) = false := by simp; omega
     have HC := Lib.hid c
     clear c hR4
     have HG := Lib.hid (show formA wide ⟨fl, kind, all, val⟩ = 0 by rw [HGO.out false (by rw [HB.out]; rw [if_neg HK7.out, if_pos HK8.out, HR4.out, HC.out]; rfl)]; rfl)
     go_upto_region 14 with fail
     clear hw3 y1 y2 y3
     have fe0 := hR3.cell 0
     have ff0 := hR3.frozen 0
     have fe1 := hR3.cell 1
     have ff1 := hR3.frozen 1
     have fe2 := hR3.cell 2
     have ff2 := hR3.frozen 2
     go_wp2_with fail
     exact bodyPost_ret (fltA_ret rfl _ _ Bz _ _ _ rfl (flt_store hR3)) rfl ⟨by rw [HG.out]; rfl, flt_below b03 hBle⟩
    have z1 : ((R : Int) != 0) = true := by simp; omega
    have z2 : (R != 0) = true := by simp; omega
    have HC := Lib.hid c
    clear c hR4
    have HG := Lib.hid (show formA wide ⟨fl, kind, all, val⟩ = 5 by rw [HGO.out true (by rw [HB.out]; rw [if_neg HK7.out, if_pos HK8.out, HR4.out]; exact decide_eq_true (by have := HC.out; omega))]; rfl)
    go_wp2_with fail
    refine (attFault 5 A n c w3).mono ?_
    rintro _ w4 ⟨rfl, b4⟩
    have fe0 := (hR3.below b4 hR3.lt).cell 0
    have ff0 := (hR3.below b4 hR3.lt).frozen 0
    have fe1 := (hR3.below b4 hR3.lt).cell 1
    have ff1 := (hR3.below b4 hR3.lt).frozen 1
    have fe2 := (hR3.below b4 hR3.lt).cell 2
    have ff2 := (hR3.below b4 hR3.lt).frozen 2
    go_wp2_with fail
    exact bodyPost_ret (fltA_ret rfl _ _ Bz _ _ _ rfl (flt_store (hR3.below b4 hR3.lt))) rfl ⟨by rw [HG.out]; rfl, flt_below (btr b03 b4 b03.size) hBle⟩
   have v8 : (kind == 8) = false := by simpa using k8
   have HK8 := Lib.hid k8
   clear k8
   have HG := Lib.hid (show formA wide ⟨fl, kind, all, val⟩ = 5 by rw [HGO.out true (by rw [HB.out]; rw [if_neg HK7.out, if_neg HK8.out]; exact HS.out)]; rfl)
   go_wp2_with fail
   refine (attFault 5 A n c w3).mono ?_
   rintro _ w4 ⟨rfl, b4⟩
   have fe0 := (hR3.below b4 hR3.lt).cell 0
   have ff0 := (hR3.below b4 hR3.lt).frozen 0
   have fe1 := (hR3.below b4 hR3.lt).cell 1
   have ff1 := (hR3.below b4 hR3.lt).frozen 1
   have fe2 := (hR3.below b4 hR3.lt).cell 2
   have ff2 := (hR3.below b4 hR3.lt).frozen 2
   go_wp2_with fail
   exact bodyPost_ret (fltA_ret rfl _ _ Bz _ _ _ rfl (flt_store (hR3.below b4 hR3.lt))) rfl ⟨by rw [HG.out]; rfl, flt_below (btr b03 b4 b03.size) hBle⟩
  have u2 : decide (L2 < (n' : Int)) = false := decide_eq_false s2
  have HS := Lib.hid (show decide ((n' : Int) < L1 ∨ L2 < (n' : Int)) = false from decide_eq_false (fun h => h.elim HS1.out s2))
  clear s2
  go_upto_region 7 with fail
  clear u1 t1 t2 a1 a2 d1 d2 l0 l1 l2 y0 u2
  by_cases k7 : kind = 7
  case pos =>
   have v7 : (kind == 7) = true := by simpa using k7
   have HK7 := Lib.hid k7
   clear k7
   cases wide
   case false =>
    by_cases c : (n' : Int) = 6
    case pos =>
     have z1 : ((n' : Int) != 6) = false := by simpa using c
     have z2 : (n' != 6) = false := by simp; omega
     have z3 : (n' == 6) = true := by simp; omega
     have HC := Lib.hid c
     clear c
     have HG := Lib.hid (show formA false ⟨fl, kind, all, val⟩ = 0 by rw [HGO.out false (by rw [HB.out]; rw [if_pos HK7.out]; exact decide_eq_false (fun h => h HC.out))]; rfl)
     go_upto_region 14 with fail
     clear hw3 y1 y2 y3
     have fe0 := hR3.cell 0
     have ff0 := hR3.frozen 0
     have fe1 := hR3.cell 1
     have ff1 := hR3.frozen 1
     have fe2 := hR3.cell 2
     have ff2 := hR3.frozen 2
     go_wp2_with fail
     exact bodyPost_ret (fltA_ret rfl _ _ Bz _ _ _ rfl (flt_store hR3)) rfl ⟨by rw [HG.out]; rfl, flt_below b03 hBle⟩
    have z1 : ((n' : Int) != 6) = true := by simpa using c
    have z2 : (n' != 6) = true := by simp; omega
    have z3 : (n' == 6) = false := by simp; omega
    have HC := Lib.hid c
    clear c
    have HG := Lib.hid (show formA false ⟨fl, kind, all, val⟩ = 5 by rw [HGO.out true (by rw [HB.out]; rw [if_pos HK7.out]; exact decide_eq_true HC.out)]; rfl)
    go_wp2_with fail
    refine (attFault 5 A n c w3).mono ?_
    rintro _ w4 ⟨rfl, b4⟩
    have fe0 := (hR3.below b4 hR3.lt).cell 0
    have ff0 := (hR3.below b4 hR3.lt).frozen 0
    have fe1 := (hR3.below b4 hR3.lt).cell 1
    have ff1 := (hR3.below b4 hR3.lt).frozen 1
    have fe2 := (hR3.below b4 hR3.lt).cell 2
    have ff2 := (hR3.below b4 hR3.lt).frozen 2
    go_wp2_with fail
    exact bodyPost_ret (fltA_ret rfl _ _ Bz _ _ _ rfl (flt_store (hR3.below b4 hR3.lt))) rfl ⟨by rw [HG.out]; rfl, flt_below (btr b03 b4 b03.size) hBle⟩
   case true =>
    by_cases c : (n' : Int) = 8
    case pos =>
     have z1 : ((n' : Int) != 8) = false := by simpa using c
     have z2 : (n' != 8) = false := by simp; omega
     have z3 : (n' == 8) = true := by simp; omega
     have HC := Lib.hid c
     clear c
     have HG := Lib.hid (show formA true ⟨fl, kind, all, val⟩ = 0 by rw [HGO.out false (by rw [HB.out]; rw [if_pos HK7.out]; exact decide_eq_false (fun h => h HC.out))]; rfl)
     go_upto_region 14 with fail
     clear hw3 y1 y2 y3
     have fe0 := hR3.cell 0
     have ff0 := hR3.frozen 0
     have fe1 := hR3.cell 1
     have ff1 := hR3.frozen 1
     have fe2 := hR3.cell 2
     have ff2 := hR3.frozen 2
     go_wp2_with fail
     exact bodyPost_ret (fltA_ret rfl _ _ Bz _ _ _ rfl (flt_store hR3)) rfl ⟨by rw [HG.out]; rfl, flt_below b03 hBle⟩
    have z1 : ((n' : Int) != 8) = true := by simpa using c
    have z2 : (n' != 8) = true := by simp; omega
    have z3 : (n' == 8) = false := by simp; omega
    have HC := Lib.hid c
    clear c
    have HG := Lib.hid (show formA true ⟨fl, kind, all, val⟩ = 5 by rw [HGO.out true (by rw [HB.out]; rw [if_pos HK7.out]; exact decide_eq_true HC.out)]; rfl)
    go_wp2_with fail
    refine (attFault 5 A n c w3).mono ?_
    rintro _ w4 ⟨rfl, b4⟩
    have fe0 := (hR3.below b4 hR3.lt).cell 0
    have ff0 := (hR3.below b4 hR3.lt).frozen 0
    have fe1 := (hR3.below b4 hR3.lt).cell 1
    have ff1 := (hR3.below b4 hR3.lt).frozen 1
    have fe2 := (hR3.below b4 hR3.lt).cell 2
    have ff2 := (hR3.below b4 hR3.lt).frozen 2
    go_wp2_with fail
    exact bodyPost_ret (fltA_ret rfl _ _ Bz _ _ _ rfl (flt_store (hR3.below b4 hR3.lt))) rfl ⟨by rw [HG.out]; rfl, flt_below (btr b03 b4 b03.size) hBle⟩
  have v7 : (kind == 7) = false := by simpa using k7
  have HK7 := Lib.hid k7
  clear k7
  by_cases k8 : kind = 8
  case pos =>
   have v8 : (kind == 8) = true := by simpa using k8
   have HK8 := Lib.hid k8
   clear k8
   obtain ⟨R, hR4⟩ : ∃ x, n' % 4 = x := ⟨_, rfl⟩
   have e4 : (n' : Int).tmod 4 = (R : Int) := by rw [Int.tmod_eq_emod_of_nonneg (by omega)]; omega
   have e5 : IntKind.i64.wrap (R : Int) = (R : Int) := IntWalk.i64_in _ ⟨by omega, by omega⟩
   have HR4 := Lib.hid (show (n' : Int) % 4 = (R : Int) by omega)
   by_cases c : R = 0
   case pos =>
    have z1 : ((R : Int) != 0) = false := by simp; omega
    have z2 : (R != 0) = false := by simp; omega
    have HC := Lib.hid c
    clear c hR4
    have HG := Lib.hid (show formA wide ⟨fl, kind, all, val⟩ = 0 by rw [HGO.out false (by rw [HB.out]; rw [if_neg HK7.out, if_pos HK8.out, HR4.out, HC.out]; rfl)]; rfl)
    go_upto_region 14 with fail
    clear hw3 y1 y2 y3
    have fe0 := hR3.cell 0
    have ff0 := hR3.frozen 0
    have fe1 := hR3.cell 1
    have ff1 := hR3.frozen 1
    have fe2 := hR3.cell 2
    have ff2 := hR3.frozen 2
    go_wp2_with fail
    exact bodyPost_ret (fltA_ret rfl _ _ Bz _ _ _ rfl (flt_store hR3)) rfl ⟨by rw [HG.out]; rfl, flt_below b03 hBle⟩
   have z1 : ((R : Int) != 0) = true := by simp; omega
   have z2 : (R != 0) = true := by simp; omega
   have HC := Lib.hid c
   clear c hR4
   have HG := Lib.hid (show formA wide ⟨fl, kind, all, val⟩ = 5 by rw [HGO.out true (by rw [HB.out]; rw [if_neg HK7.out, if_pos HK8.out, HR4.out]; exact decide_eq_true (by have := HC.out; omega))]; rfl)
   go_wp2_with fail
   refine (attFault 5 A n c w3).mono ?_
   rintro _ w4 ⟨rfl, b4⟩
   have fe0 := (hR3.below b4 hR3.lt).cell 0
   have ff0 := (hR3.below b4 hR3.lt).frozen 0
   have fe1 := (hR3.below b4 hR3.lt).cell 1
   have ff1 := (hR3.below b4 hR3.lt).frozen 1
   have fe2 := (hR3.below b4 hR3.lt).cell 2
   have ff2 := (hR3.below b4 hR3.lt).frozen 2
   go_wp2_with fail
   exact bodyPost_ret (fltA_ret rfl _ _ Bz _ _ _ rfl (flt_store (hR3.below b4 hR3.lt))) rfl ⟨by rw [HG.out]; rfl, flt_below (btr b03 b4 b03.size) hBle⟩
  have v8 : (kind == 8) = false := by simpa using k8
  have HK8 := Lib.hid k8
  clear k8
  have HG := Lib.hid (show formA wide ⟨fl, kind, all, val⟩ = 0 by rw [HGO.out false (by rw [HB.out]; rw [if_neg HK7.out, if_neg HK8.out]; exact HS.out)]; rfl)
  go_upto_region 14 with fail
  clear hw3 y1 y2 y3
  have fe0 := hR3.cell 0
  have ff0 := hR3.frozen 0
  have fe1 := hR3.cell 1
  have ff1 := hR3.frozen 1
  have fe2 := hR3.cell 2
  have ff2 := hR3.frozen 2
  go_wp2_with fail
  exact bodyPost_ret (fltA_ret rfl _ _ Bz _ _ _ rfl (flt_store hR3)) rfl ⟨by rw [HG.out]; rfl, flt_below b03 hBle⟩
 have t2 : (P != 0) = true := by simpa using cP
 have cF : F = 192 := Classical.byContradiction fun h => HCB.out ⟨cP, h⟩
 have t3 : (F != 192) = false := by simpa using cF
 clear cP cF
 by_cases s1 : (n' : Int) < L1
 case pos =>
  have u1 : decide ((n' : Int) < L1) = true := decide_eq_true s1
  have HS := Lib.hid (show decide ((n' : Int) < L1 ∨ L2 < (n' : Int)) = true from decide_eq_true (.inl s1))
  clear s1
  go_upto_region 7 with fail
  clear u1 t1 t2 a1 a2 d1 d2 l0 l1 l2 y0 t3
  by_cases k7 : kind = 7
  case pos =>
   have v7 : (kind == 7) = true := by simpa using k7
   have HK7 := Lib.hid k7
   clear k7
   cases wide
   case false =>
    by_cases c : (n' : Int) = 6
    case pos =>
     have z1 : ((n' : Int) != 6) = false := by simpa using c
     have z2 : (n' != 6) = false := by simp; omega
     have z3 : (n' == 6) = true := by simp; omega
     have HC := Lib.hid c
     clear c
     have HG := Lib.hid (show formA false ⟨fl, kind, all, val⟩ = 0 by rw [HGO.out false (by rw [HB.out]; rw [if_pos HK7.out]; exact decide_eq_false (fun h => h HC.out))]; rfl)
     go_upto_region 14 with fail
     clear hw3 y1 y2 y3
     have fe0 := hR3.cell 0
     have ff0 := hR3.frozen 0
     have fe1 := hR3.cell 1
     have ff1 := hR3.frozen 1
     have fe2 := hR3.cell 2
     have ff2 := hR3.frozen 2
     go_wp2_with fail
     exact bodyPost_ret (fltA_ret rfl _ _ Bz _ _ _ rfl (flt_store hR3)) rfl ⟨by rw [HG.out]; rfl, flt_below b03 hBle⟩
    have z1 : ((n' : Int) != 6) = true := by simpa using c
    have z2 : (n' != 6) = true := by simp; omega
    have z3 : (n' == 6) = false := by simp; omega
    have HC := Lib.hid c
    clear c
    have HG := Lib.hid (show formA false ⟨fl, kind, all, val⟩ = 5 by rw [HGO.out true (by rw [HB.out]; rw [if_pos HK7.out]; exact decide_eq_true HC.out)]; rfl)
    go_wp2_with fail
    refine (attFault 5 A n c w3).mono ?_
    rintro _ w4 ⟨rfl, b4⟩
    have fe0 := (hR3.below b4 hR3.lt).cell 0
    have ff0 := (hR3.below b4 hR3.lt).frozen 0
    have fe1 := (hR3.below b4 hR3.lt).cell 1
    have ff1 := (hR3.below b4 hR3.lt).frozen 1
    have fe2 := (hR3.below b4 hR3.lt).cell 2
    have ff2 := (hR3.below b4 hR3.lt).frozen 2
    go_wp2_with fail
    exact bodyPost_ret (fltA_ret rfl _ _ Bz _ _ _ rfl (flt_store (hR3.below b4 hR3.lt))) rfl ⟨by rw [HG.out]; rfl, flt_below (btr b03 b4 b03.size) hBle⟩
   case true =>
    by_cases c : (n' : Int) = 8
    case pos =>
     have z1 : ((n' : Int) != 8) = false := by simpa using c
     have z2 : (n' != 8) = false := by simp; omega
     have z3 : (n' == 8) = true := by simp; omega
     have HC := Lib.hid c
     clear c
     have HG := Lib.hid (show formA true ⟨fl, kind, all, val⟩ = 0 by rw [HGO.out false (by rw [HB.out]; rw [if_pos HK7.out]; exact decide_eq_false (fun h => h HC.out))]; rfl)
     go_upto_region 14 with fail
     clear hw3 y1 y2 y3
     have fe0 := hR3.cell 0
     have ff0 := hR3.frozen 0
     have fe1 := hR3.cell 1
     have ff1 := hR3.frozen 1
     have fe2 := hR3.cell 2
     have ff2 := hR3.frozen 2
     go_wp2_with fail
     exact bodyPost_ret (fltA_ret rfl _ _ Bz _ _ _ rfl (flt_store hR3)) rfl ⟨by rw [HG.out]; rfl, flt_below b03 hBle⟩
    have z1 : ((n' : Int) != 8) = true := by simpa using c
    have z2 : (n' != 8) = true := by simp; omega
    have z3 : (n' == 8) = false := by simp; omega
    have HC := Lib.hid c
    clear c
    have HG := Lib.hid (show formA true ⟨fl, kind, all, val⟩ = 5 by rw [HGO.out true (by rw [HB.out]; rw [if_pos HK7.out]; exact decide_eq_true HC.out)]; rfl)
    go_wp2_with fail
    refine (attFault 5 A n c w3).mono ?_
    rintro _ w4 ⟨rfl, b4⟩
    have fe0 := (hR3.below b4 hR3.lt).cell 0
    have ff0 := (hR3.below b4 hR3.lt).frozen 0
    have fe1 := (hR3.below b4 hR3.lt).cell 1
    have ff1 := (hR3.below b4 hR3.lt).frozen 1
    have fe2 := (hR3.below b4 hR3.lt).cell 2
    have ff2 := (hR3.below b4 hR3.lt).frozen 2
    go_wp2_with fail
    exact bodyPost_ret (fltA_ret rfl _ _ Bz _ _ _ rfl (flt_store (hR3.below b4 hR3.lt))) rfl ⟨by rw [HG.out]; rfl, flt_below (btr b03 b4 b03.size) hBle⟩
  have v7 : (kind == 7) = false := by simpa using k7
  have HK7 := Lib.hid k7
  clear k7
  by_cases k8 : kind = 8
  case pos =>
   have v8 : (kind == 8) = true := by simpa using k8
   have HK8 := Lib.hid k8
   clear k8
   obtain ⟨R, hR4⟩ : ∃ x, n' % 4 = x := ⟨_, rfl⟩
   have e4 : (n' : Int).tmod 4 = (R : Int) := by rw [Int.tmod_eq_emod_of_nonneg (by omega)]; omega
   have e5 : IntKind.i64.wrap (R : Int) = (R : Int) := IntWalk.i64_in _ ⟨by omega, by omega⟩
   have HR4 := Lib.hid (show (n' : Int) % 4 = (R : Int) by omega)
   by_cases c : R = 0
   case pos =>
    have z1 : ((R : Int) != 0) = false := by simp; omega
    have z2 : (R != 0) = false := by simp; omega
    have HC := Lib.hid c
    clear c hR4
    have HG := Lib.hid (show formA wide ⟨fl, kind, all, val⟩ = 0 by rw [HGO.out false (by rw [HB.out]; rw [if_neg HK7.out, if_pos HK8.out, HR4.out, HC.out]; rfl)]; rfl)
    go_upto_region 14 with fail
    clear hw3 y1 y2 y3
    have fe0 := hR3.cell 0
    have ff0 := hR3.frozen 0
    have fe1 := hR3.cell 1
    have ff1 := hR3.frozen 1
    have fe2 := hR3.cell 2
    have ff2 := hR3.frozen 2
    go_wp2_with fail
    exact bodyPost_ret (fltA_ret rfl _ _ Bz _ _ _ rfl (flt_store hR3)) rfl ⟨by rw [HG.out]; rfl, flt_below b03 hBle⟩
   have z1 : ((R : Int) != 0) = true := by simp; omega
   have z2 : (R != 0) = true := by simp; omega
   have HC := Lib.hid c
   clear c hR4
   have HG := Lib.hid (show formA wide ⟨fl, kind, all, val⟩ = 5 by rw [HGO.out true (by rw [HB.out]; rw [if_neg HK7.out, if_pos HK8.out, HR4.out]; exact decide_eq_true (by have := HC.out; omega))]; rfl)
   go_wp2_with fail
   refine (attFault 5 A n c w3).mono ?_
   rintro _ w4 ⟨rfl, b4⟩
   have fe0 := (hR3.below b4 hR3.lt).cell 0
   have ff0 := (hR3.below b4 hR3.lt).frozen 0
   have fe1 := (hR3.below b4 hR3.lt).cell 1
   have ff1 := (hR3.below b4 hR3.lt).frozen 1
   have fe2 := (hR3.below b4 hR3.lt).cell 2
   have ff2 := (hR3.below b4 hR3.lt).frozen 2
   go_wp2_with fail
   exact bodyPost_ret (fltA_ret rfl _ _ Bz _ _ _ rfl (flt_store (hR3.below b4 hR3.lt))) rfl ⟨by rw [HG.out]; rfl, flt_below (btr b03 b4 b03.size) hBle⟩
  have v8 : (kind == 8) = false := by simpa using k8
  have HK8 := Lib.hid k8
  clear k8
  have HG := Lib.hid (show formA wide ⟨fl, kind, all, val⟩ = 5 by rw [HGO.out true (by rw [HB.out]; rw [if_neg HK7.out, if_neg HK8.out]; exact HS.out)]; rfl)
  go_wp2_with fail
  refine (attFault 5 A n c w3).mono ?_
  rintro _ w4 ⟨rfl, b4⟩
  have fe0 := (hR3.below b4 hR3.lt).cell 0
  have ff0 := (hR3.below b4 hR3.lt).frozen 0
  have fe1 := (hR3.below b4 hR3.lt).cell 1
  have ff1 := (hR3.below b4 hR3.lt).frozen 1
  have fe2 := (hR3.below b4 hR3.lt).cell 2
  have ff2 := (hR3.below b4 hR3.lt).frozen 2
  go_wp2_with fail
  exact bodyPost_ret (fltA_ret rfl _ _ Bz _ _ _ rfl (flt_store (hR3.below b4 hR3.lt))) rfl ⟨by rw [HG.out]; rfl, flt_below (btr b03 b4 b03.size) hBle⟩
 have u1 : decide ((n' : Int) < L1) = false := decide_eq_false s1
 have HS1 := Lib.hid s1
 clear s1
 by_cases s2 : L2 < (n' : Int)
 case pos =>
  have u2 : decide (L2 < (n' : Int)) = true := decide_eq_true s2
  have HS := Lib.hid (show decide ((n' : Int) < L1 ∨ L2 < (n' : Int)) = true from decide_eq_true (.inr s2))
  clear s2
  go_upto_region 7 with fail
  clear u1 t1 t2 a1 a2 d1 d2 l0 l1 l2 y0 u2 t3
  by_cases k7 : kind = 7
  case pos =>
   have v7 : (kind == 7) = true := by simpa using k7
   have HK7 := Lib.hid k7
   clear k7
   cases wide
   case false =>
    by_cases c : (n' : Int) = 6
    case pos =>
     have z1 : ((n' : Int) != 6) = false := by simpa using c
     have z2 : (n' != 6) = false := by simp; omega
     have z3 : (n' == 6) = true := by simp; omega
     have HC := Lib.hid c
     clear c
     have HG := Lib.hid (show formA false ⟨fl, kind, all, val⟩ = 0 by rw [HGO.out false (by rw [HB.out]; rw [if_pos HK7.out]; exact decide_eq_false (fun h => h HC.out))]; rfl)
     go_upto_region 14 with fail
     clear hw3 y1 y2 y3
     have fe0 := hR3.cell 0
     have ff0 := hR3.frozen 0
     have fe1 := hR3.cell 1
     have ff1 := hR3.frozen 1
     have fe2 := hR3.cell 2
     have ff2 := hR3.frozen 2
     go_wp2_with fail
     exact bodyPost_ret (fltA_ret rfl _ _ Bz _ _ _ rfl (flt_store hR3)) rfl ⟨by rw [HG.out]; rfl, flt_below b03 hBle⟩
    have z1 : ((n' : Int) != 6) = true := by simpa using c
    have z2 : (n' != 6) = true := by simp; omega
    have z3 : (n' == 6) = false := by simp; omega
    have HC := Lib.hid c
    clear c
    have HG := Lib.hid (show formA false ⟨fl, kind, all, val⟩ = 5 by rw [HGO.out true (by rw [HB.out]; rw [if_pos HK7.out]; exact decide_eq_true HC.out)]; rfl)
    go_wp2_with fail
    refine (attFault 5 A n c w3).mono ?_
    rintro _ w4 ⟨rfl, b4⟩
    have fe0 := (hR3.below b4 hR3.lt).cell 0
    have ff0 := (hR3.below b4 hR3.lt).frozen 0
    have fe1 := (hR3.below b4 hR3.lt).cell 1
    have ff1 := (hR3.below b4 hR3.lt).frozen 1
    have fe2 := (hR3.below b4 hR3.lt).cell 2
    have ff2 := (hR3.below b4 hR3.lt).frozen 2
    go_wp2_with fail
    exact bodyPost_ret (fltA_ret rfl _ _ Bz _ _ _ rfl (flt_store (hR3.below b4 hR3.lt))) rfl ⟨by rw [HG.out]; rfl, flt_below (btr b03 b4 b03.size) hBle⟩
   case true =>
    by_cases c : (n' : Int) = 8
    case pos =>
     have z1 : ((n' : Int) != 8) = false := by simpa using c
     have z2 : (n' != 8) = false := by simp; omega
     have z3 : (n' == 8) = true := by simp; omega
     have HC := Lib.hid c
     clear c
     have HG := Lib.hid (show formA true ⟨fl, kind, all, val⟩ = 0 by rw [HGO.out false (by rw [HB.out]; rw [if_pos HK7.out]; exact decide_eq_false (fun h => h HC.out))]; rfl)
     go_upto_region 14 with fail
     clear hw3 y1 y2 y3
     have fe0 := hR3.cell 0
     have ff0 := hR3.frozen 0
     have fe1 := hR3.cell 1
     have ff1 := hR3.frozen 1
     have fe2 := hR3.cell 2
     have ff2 := hR3.frozen 2
     go_wp2_with fail
     exact bodyPost_ret (fltA_ret rfl _ _ Bz _ _ _ rfl (flt_store hR3)) rfl ⟨by rw [HG.out]; rfl, flt_below b03 hBle⟩
    have z1 : ((n' : Int) != 8) = true := by simpa using c
    have z2 : (n' != 8) = true := by simp; omega
    have z3 : (n' == 8) = false := by simp; omega
    have HC := Lib.hid c
    clear c
    have HG := Lib.hid (show formA true ⟨fl, kind, all, val⟩ = 5 by rw [HGO.out true (by rw [HB.out]; rw [if_pos HK7.out]; exact decide_eq_true HC.out)]; rfl)
    go_wp2_with fail
    refine (attFault 5 A n c w3).mono ?_
    rintro _ w4 ⟨rfl, b4⟩
    have fe0 := (hR3.below b4 hR3.lt).cell 0
    have ff0 := (hR3.below b4 hR3.lt).frozen 0
    have fe1 := (hR3.below b4 hR3.lt).cell 1
    have ff1 := (hR3.below b4 hR3.lt).frozen 1
    have fe2 := (hR3.below b4 hR3.lt).cell 2
    have ff2 := (hR3.below b4 hR3.lt).frozen 2
    go_wp2_with fail
    exact bodyPost_ret (fltA_ret rfl _ _ Bz _ _ _ rfl (flt_store (hR3.below b4 hR3.lt))) rfl ⟨by rw [HG.out]; rfl, flt_below (btr b03 b4 b03.size) hBle⟩
  have v7 : (kind == 7) = false := by simpa using k7
  have HK7 := Lib.hid k7
  clear k7
  by_cases k8 : kind = 8
  case pos =>
   have v8 : (kind == 8) = true := by simpa using k8
   have HK8 := Lib.hid k8
   clear k8
   obtain ⟨R, hR4⟩ : ∃ x, n' % 4 = x := ⟨_, rfl⟩
   have e4 : (n' : Int).tmod 4 = (R : Int) := by rw [Int.tmod_eq_emod_of_nonneg (by omega)]; omega
   have e5 : IntKind.i64.wrap (R : Int) = (R : Int) := IntWalk.i64_in _ ⟨by omega, by omega⟩
   have HR4 := Lib.hid (show (n' : Int) % 4 = (R : Int) by omega)
   by_cases c : R = 0
   case pos =>
    have z1 : ((R : Int) != 0) = false := by simp; omega
    have z2 : (R != 0) = false := by simp; omega
    have HC := Lib.hid c
    clear c hR4
    have HG := Lib.hid (show formA wide ⟨fl, kind, all, val⟩ = 0 by rw [HGO.out false (by rw [HB.out]; rw [if_neg HK7.out, if_pos HK8.out, HR4.out, HC.out]; rfl)]; rfl)
    go_upto_region 14 with fail
    clear hw3 y1 y2 y3
    have fe0 := hR3.cell 0
    have ff0 := hR3.frozen 0
    have fe1 := hR3.cell 1
    have ff1 := hR3.frozen 1
    have fe2 := hR3.cell 2
    have ff2 := hR3.frozen 2
    go_wp2_with fail
    exact bodyPost_ret (fltA_ret rfl _ _ Bz _ _ _ rfl (flt_store hR3)) rfl ⟨by rw [HG.out]; rfl, flt_below b03 hBle⟩
   have z1 : ((R : Int) != 0) = true := by simp; omega
   have z2 : (R != 0) = true := by simp; omega
   have HC := Lib.hid c
   clear c hR4
   have HG := Lib.hid (show formA wide ⟨fl, kind, all, val⟩ = 5 by rw [HGO.out true (by rw [HB.out]; rw [if_neg HK7.out, if_pos HK8.out, HR4.out]; exact decide_eq_true (by have := HC.out; omega))]; rfl)
   go_wp2_with fail
   refine (attFault 5 A n c w3).mono ?_
   rintro _ w4 ⟨rfl, b4⟩
   have fe0 := (hR3.below b4 hR3.lt).cell 0
   have ff0 := (hR3.below b4 hR3.lt).frozen 0
   have fe1 := (hR3.below b4 hR3.lt).cell 1
   have ff1 := (hR3.below b4 hR3.lt).frozen 1
   have fe2 := (hR3.below b4 hR3.lt).cell 2
   have ff2 := (hR3.below b4 hR3.lt).frozen 2
   go_wp2_with fail
   exact bodyPost_ret (fltA_ret rfl _ _ Bz _ _ _ rfl (flt_store (hR3.below b4 hR3.lt))) rfl ⟨by rw [HG.out]; rfl, flt_below (btr b03 b4 b03.size) hBle⟩
  have v8 : (kind == 8) = false := by simpa using k8
  have HK8 := Lib.hid k8
  clear k8
  have HG := Lib.hid (show formA wide ⟨fl, kind, all, val⟩ = 5 by rw [HGO.out true (by rw [HB.out]; rw [if_neg HK7.out, if_neg HK8.out]; exact HS.out)]; rfl)
  go_wp2_with fail
  refine (attFault 5 A n c w3).mono ?_
  rintro _ w4 ⟨rfl, b4⟩
  have fe0 := (hR3.below b4 hR3.lt).cell 0
  have ff0 := (hR3.below b4 hR3.lt).frozen 0
  have fe1 := (hR3.below b4 hR3.lt).cell 1
  have ff1 := (hR3.below b4 hR3.lt).frozen 1
  have fe2 := (hR3.below b4 hR3.lt).cell 2
  have ff2 := (hR3.below b4 hR3.lt).frozen 2
  go_wp2_with fail
  exact bodyPost_ret (fltA_ret rfl _ _ Bz _ _ _ rfl (flt_store (hR3.below b4 hR3.lt))) rfl ⟨by rw [HG.out]; rfl, flt_below (btr b03 b4 b03.size) hBle⟩
 have u2 : decide (L2 < (n' : Int)) = false := decide_eq_false s2
 have HS := Lib.hid (show decide ((n' : Int) < L1 ∨ L2 < (n' : Int)) = false from decide_eq_false (fun h => h.elim HS1.out s2))
 clear s2
 go_upto_region 7 with fail
 clear u1 t1 t2 a1 a2 d1 d2 l0 l1 l2 y0 u2 t3
 by_cases k7 : kind = 7
 case pos =>
  have v7 : (kind == 7) = true := by simpa using k7
  have HK7 := Lib.hid k7
  clear k7
  cases wide
  case false =>
   by_cases c : (n' : Int) = 6
   case pos =>
    have z1 : ((n' : Int) != 6) = false := by simpa using c
    have z2 : (n' != 6) = false := by simp; omega
    have z3 : (n' == 6) = true := by simp; omega
    have HC := Lib.hid c
    clear c
    have HG := Lib.hid (show formA false ⟨fl, kind, all, val⟩ = 0 by rw [HGO.out false (by rw [HB.out]; rw [if_pos HK7.out]; exact decide_eq_false (fun h => h HC.out))]; rfl)
    go_upto_region 14 with fail
    clear hw3 y1 y2 y3
    have fe0 := hR3.cell 0
    have ff0 := hR3.frozen 0
    have fe1 := hR3.cell 1
    have ff1 := hR3.frozen 1
    have fe2 := hR3.cell 2
    have ff2 := hR3.frozen 2
    go_wp2_with fail
    exact bodyPost_ret (fltA_ret rfl _ _ Bz _ _ _ rfl (flt_store hR3)) rfl ⟨by rw [HG.out]; rfl, flt_below b03 hBle⟩
   have z1 : ((n' : Int) != 6) = true := by simpa using c
   have z2 : (n' != 6) = true := by simp; omega
   have z3 : (n' == 6) = false := by simp; omega
   have HC := Lib.hid c
   clear c
   have HG := Lib.hid (show formA false ⟨fl, kind, all, val⟩ = 5 by rw [HGO.out true (by rw [HB.out]; rw [if_pos HK7.out]; exact decide_eq_true HC.out)]; rfl)
   go_wp2_with fail
   refine (attFault 5 A n c w3).mono ?_
   rintro _ w4 ⟨rfl, b4⟩
   have fe0 := (hR3.below b4 hR3.lt).cell 0
   have ff0 := (hR3.below b4 hR3.lt).frozen 0
   have fe1 := (hR3.below b4 hR3.lt).cell 1
   have ff1 := (hR3.below b4 hR3.lt).frozen 1
   have fe2 := (hR3.below b4 hR3.lt).cell 2
   have ff2 := (hR3.below b4 hR3.lt).frozen 2
   go_wp2_with fail
   exact bodyPost_ret (fltA_ret rfl _ _ Bz _ _ _ rfl (flt_store (hR3.below b4 hR3.lt))) rfl ⟨by rw [HG.out]; rfl, flt_below (btr b03 b4 b03.size) hBle⟩
  case true =>
   by_cases c : (n' : Int) = 8
   case pos =>
    have z1 : ((n' : Int) != 8) = false := by simpa using c
    have z2 : (n' != 8) = false := by simp; omega
    have z3 : (n' == 8) = true := by simp; omega
    have HC := Lib.hid c
    clear c
    have HG := Lib.hid (show formA true ⟨fl, kind, all, val⟩ = 0 by rw [HGO.out false (by rw [HB.out]; rw [if_pos HK7.out]; exact decide_eq_false (fun h => h HC.out))]; rfl)
    go_upto_region 14 with fail
    clear hw3 y1 y2 y3
    have fe0 := hR3.cell 0
    have ff0 := hR3.frozen 0
    have fe1 := hR3.cell 1
    have ff1 := hR3.frozen 1
    have fe2 := hR3.cell 2
    have ff2 := hR3.frozen 2
    go_wp2_with fail
    exact bodyPost_ret (fltA_ret rfl _ _ Bz _ _ _ rfl (flt_store hR3)) rfl ⟨by rw [HG.out]; rfl, flt_below b03 hBle⟩
   have z1 : ((n' : Int) != 8) = true := by simpa using c
   have z2 : (n' != 8) = true := by simp; omega
   have z3 : (n' == 8) = false := by simp; omega
   have HC := Lib.hid c
   clear c
   have HG := Lib.hid (show formA true ⟨fl, kind, all, val⟩ = 5 by rw [HGO.out true (by rw [HB.out]; rw [if_pos HK7.out]; exact decide_eq_true HC.out)]; rfl)
   go_wp2_with fail
   refine (attFault 5 A n c w3).mono ?_
   rintro _ w4 ⟨rfl, b4⟩
   have fe0 := (hR3.below b4 hR3.lt).cell 0
   have ff0 := (hR3.below b4 hR3.lt).frozen 0
   have fe1 := (hR3.below b4 hR3.lt).cell 1
   have ff1 := (hR3.below b4 hR3.lt).frozen 1
   have fe2 := (hR3.below b4 hR3.lt).cell 2
   have ff2 := (hR3.below b4 hR3.lt).frozen 2
   go_wp2_with fail
   exact bodyPost_ret (fltA_ret rfl _ _ Bz _ _ _ rfl (flt_store (hR3.below b4 hR3.lt))) rfl ⟨by rw [HG.out]; rfl, flt_below (btr b03 b4 b03.size) hBle⟩
 have v7 : (kind == 7) = false := by simpa using k7
 have HK7 := Lib.hid k7
 clear k7
 by_cases k8 : kind = 8
 case pos =>
  have v8 : (kind == 8) = true := by simpa using k8
  have HK8 := Lib.hid k8
  clear k8
  obtain ⟨R, hR4⟩ : ∃ x, n' % 4 = x := ⟨_, rfl⟩
  have e4 : (n' : Int).tmod 4 = (R : Int) := by rw [Int.tmod_eq_emod_of_nonneg (by omega)]; omega
  have e5 : IntKind.i64.wrap (R : Int) = (R : Int) := IntWalk.i64_in _ ⟨by omega, by omega⟩
  have HR4 := Lib.hid (show (n' : Int) % 4 = (R : Int) by omega)
  by_cases c : R = 0
  case pos =>
   have z1 : ((R : Int) != 0) = false := by simp; omega
   have z2 : (R != 0) = false := by simp; omega
   have HC := Lib.hid c
   clear c hR4
   have HG := Lib.hid (show formA wide ⟨fl, kind, all, val⟩ = 0 by rw [HGO.out false (by rw [HB.out]; rw [if_neg HK7.out, if_pos HK8.out, HR4.out, HC.out]; rfl)]; rfl)
   go_upto_region 14 with fail
   clear hw3 y1 y2 y3
   have fe0 := hR3.cell 0
   have ff0 := hR3.frozen 0
   have fe1 := hR3.cell 1
   have ff1 := hR3.frozen 1
   have fe2 := hR3.cell 2
   have ff2 := hR3.frozen 2
   go_wp2_with fail
   exact bodyPost_ret (fltA_ret rfl _ _ Bz _ _ _ rfl (flt_store hR3)) rfl ⟨by rw [HG.out]; rfl, flt_below b03 hBle⟩
  have z1 : ((R : Int) != 0) = true := by simp; omega
  have z2 : (R != 0) = true := by simp; omega
  have HC := Lib.hid c
  clear c hR4
  have HG := Lib.hid (show formA wide ⟨fl, kind, all, val⟩ = 5 by rw [HGO.out true (by rw [HB.out]; rw [if_neg HK7.out, if_pos HK8.out, HR4.out]; exact decide_eq_true (by have := HC.out; omega))]; rfl)
  go_wp2_with fail
  refine (attFault 5 A n c w3).mono ?_
  rintro _ w4 ⟨rfl, b4⟩
  have fe0 := (hR3.below b4 hR3.lt).cell 0
  have ff0 := (hR3.below b4 hR3.lt).frozen 0
  have fe1 := (hR3.below b4 hR3.lt).cell 1
  have ff1 := (hR3.below b4 hR3.lt).frozen 1
  have fe2 := (hR3.below b4 hR3.lt).cell 2
  have ff2 := (hR3.below b4 hR3.lt).frozen 2
  go_wp2_with fail
  exact bodyPost_ret (fltA_ret rfl _ _ Bz _ _ _ rfl (flt_store (hR3.below b4 hR3.lt))) rfl ⟨by rw [HG.out]; rfl, flt_below (btr b03 b4 b03.size) hBle⟩
 have v8 : (kind == 8) = false := by simpa using k8
 have HK8 := Lib.hid k8
 clear k8
 have HG := Lib.hid (show formA wide ⟨fl, kind, all, val⟩ = 0 by rw [HGO.out false (by rw [HB.out]; rw [if_neg HK7.out, if_neg HK8.out]; exact HS.out)]; rfl)
 go_upto_region 14 with fail
 clear hw3 y1 y2 y3
 have fe0 := hR3.cell 0
 have ff0 := hR3.frozen 0
 have fe1 := hR3.cell 1
 have ff1 := hR3.frozen 1
 have fe2 := hR3.cell 2
 have ff2 := hR3.frozen 2
 go_wp2_with fail
 exact bodyPost_ret (fltA_ret rfl _ _ Bz _ _ _ rfl (flt_store hR3)) rfl ⟨by rw [HG.out]; rfl, flt_below b03 hBle⟩
/-- A reading's cells. -/
abbrev GC (h : GH) (v : Gr) (wide : Bool) : Array Value := #[.int .i64 v.a.origin, .slice h.pa h.pn h.pc, .int .u32 v.a.next, .int .i64 v.a.med, .int .i64 v.a.pref, .bool v.a.atomic, .bool v.a.hasAggr, .int .u32 v.a.aggrAS, .int .u32 v.a.aggrAddr, .slice h.ca h.cn h.cc, .slice h.ra h.rn h.rc, .slice h.ka h.kn h.kc, .slice h.ma h.mn h.mc, .bool v.hasOld, .int .u32 v.oldAS, .slice h.na h.nn h.nc, .bool wide]
/-- A reading on its way. -/
structure GP (w : World) (B g : Nat) (gs : List Nat) (wide : Bool) (h : GH) (v : Gr) : Prop where
 blk : Blk w g 219 (GC h v wide)
 q : GQ w B g gs h v.a.path v.more v.a.comms v.kinds v.a.raws v.newAS
/-- Sizes of a reading. -/
structure BdG (v : Gr) : Prop where
 path : rightA v.a.path = true ∨ v.a.path = []
 more : rightA v.more = true ∨ v.more = []
 raws : v.a.raws.length ≤ 8
 comms : v.a.comms.length ≤ 32 * v.kinds.length
 data : ∀ x ∈ v.a.raws, x.2.2.length ≤ 64
/-- The blocks but some. -/
def Ex (w : World) (gs : List Nat) : Nat → Prop := fun b => b < w.heap.size ∧ b ∉ gs
/-- What a step of a reading hands back: a fault, or the reading goes on. -/
def RetG (w : World) (B g : Nat) (gs : List Nat) (wide : Bool) (h : GH) (r : Except FtA Gr) (e : Ending) (w' : World) : Prop := Below B w w' ∧ (∀ b, h.qt w [g] b → w'.heap[b]? = w.heap[b]?) ∧ match r with
 | .error f => ∃ (A : Option Addr) (n c : Nat), e = .returned (.agg #[.int .i64 3, .int .i64 f.1, .slice A n c]) ∧ BF w' (Ex w' gs) A n f.2 ∧ n ≤ c
 | .ok v' => e = .returned (.agg #[.int .i64 0, .int .i64 0, .slice none 0 0]) ∧ ∃ h', GP w' B g gs wide h' v' ∧ Kp w w' (h.qt w [g]) (h'.qt w' [g]) ∧ (h'.cb = h.cb ∨ v'.a.comms ≠ [])
section
variable {w w' : World} {B g : Nat} {gs : List Nat} {wide : Bool} {h h' : GH} {v v' : Gr}
theorem GP.call (P : GP w B g gs wide h v) (hb : Below w.heap.size w w') : GP w' B g gs wide h v := ⟨P.blk.below hb P.blk.lt, P.q.call hb⟩
theorem GP.add {q : Nat} (P : GP w B g gs wide h v) (hb : Below w.heap.size w w') (hq : w.heap.size ≤ q) (hq' : q < w'.heap.size) : GP w' B g (q :: gs) wide h v := ⟨P.blk.below hb P.blk.lt, P.q.add hb hq hq'⟩
theorem GP.drop {q : Nat} (P : GP w B g (q :: gs) wide h v) (hm : g ∈ gs) : GP w B g gs wide h v := ⟨P.blk, P.q.drop hm⟩
theorem GP.lo (P : GP w B g gs wide h v) : B ≤ w.heap.size := Nat.le_of_lt (Nat.lt_of_le_of_lt P.q.lo P.q.hi)
theorem GP.cells (P : GP w B g gs wide h v) : w.cell? ⟨g, 0, none⟩ = some (.int .i64 v.a.origin) ∧ w.cell? ⟨g, 1, none⟩ = some (.slice h.pa h.pn h.pc) ∧ w.cell? ⟨g, 2, none⟩ = some (.int .u32 v.a.next) ∧ w.cell? ⟨g, 7, none⟩ = some (.int .u32 v.a.aggrAS) ∧ w.cell? ⟨g, 9, none⟩ = some (.slice h.ca h.cn h.cc) ∧ w.cell? ⟨g, 10, none⟩ = some (.slice h.ra h.rn h.rc) ∧ w.cell? ⟨g, 11, none⟩ = some (.slice h.ka h.kn h.kc) ∧ w.cell? ⟨g, 12, none⟩ = some (.slice h.ma h.mn h.mc) ∧ w.cell? ⟨g, 13, none⟩ = some (.bool v.hasOld) ∧ w.cell? ⟨g, 14, none⟩ = some (.int .u32 v.oldAS) ∧ w.cell? ⟨g, 15, none⟩ = some (.slice h.na h.nn h.nc) ∧ w.cell? ⟨g, 16, none⟩ = some (.bool wide) :=
 ⟨P.blk.cell 0, P.blk.cell 1, P.blk.cell 2, P.blk.cell 7, P.blk.cell 9, P.blk.cell 10, P.blk.cell 11, P.blk.cell 12, P.blk.cell 13, P.blk.cell 14, P.blk.cell 15, P.blk.cell 16⟩
/-- A store of a slice's head into the reading. -/
theorem GP.head {i : Nat} {u : Value} (hb : Blk w g 219 (GC h v wide)) (Q : GQ w B g gs h' v'.a.path v'.more v'.a.comms v'.kinds v'.a.raws v'.newAS) (hc : (GC h v wide).setIfInBounds i u = GC h' v' wide) :
  GP (w.setCell ⟨g, i, none⟩ u) B g gs wide h' v' ∧ (∀ ks, g ∈ ks → Kp w (w.setCell ⟨g, i, none⟩ u) (h'.qt w ks) (h'.qt (w.setCell ⟨g, i, none⟩ u) ks)) ∧ Below B w (w.setCell ⟨g, i, none⟩ u) := by
 have hg := only_setCell (World.grownBy.refl w (some g)) (p := ⟨g, i, none⟩) (.inl rfl) u
 have hb2 := hb.set_ i u
 rw [hc] at hb2
 exact ⟨⟨hb2, Q.at_ hb Q.mem (by decide) (by decide) (by decide) hg⟩, fun ks hks => GQ.kat h' hks hg, (Below.refl B w).setCell (p := ⟨g, i, none⟩) Q.lo u⟩
/-- A store into the reading: the slices are as they were. -/
theorem GP.store {i : Nat} {u : Value} (P : GP w B g gs wide h v) (hc : (GC h v wide).setIfInBounds i u = GC h v' wide) (e1 : v'.a.path = v.a.path) (e2 : v'.more = v.more) (e3 : v'.a.comms = v.a.comms) (e4 : v'.kinds = v.kinds) (e5 : v'.a.raws = v.a.raws) (e6 : v'.newAS = v.newAS) :
  GP (w.setCell ⟨g, i, none⟩ u) B g gs wide h v' ∧ (∀ ks, g ∈ ks → Kp w (w.setCell ⟨g, i, none⟩ u) (h.qt w ks) (h.qt (w.setCell ⟨g, i, none⟩ u) ks)) ∧ Below B w (w.setCell ⟨g, i, none⟩ u) :=
 GP.head P.blk (by rw [e1, e2, e3, e4, e5, e6]; exact P.q) hc
/-- A step that writes a block beside it. -/
theorem GP.at_ {p : Nat} {T : TypeId} {cs : Array Value} (P : GP w B g gs wide h v) (hb : Blk w p T cs) (hp : p ∈ gs) (hne : g ≠ p) (t1 : 22 ≠ T) (t2 : 168 ≠ T) (t3 : 3 ≠ T) (hg : w.grownBy w' (some p)) : GP w' B g gs wide h v :=
 ⟨P.blk.grown hg (by intro e; injection e with e; exact hne e), P.q.at_ hb hp t1 t2 t3 hg⟩
theorem BF.bsq {n : Nat} {A : Option Addr} {l : List UInt8} (hb : BF w (h.qt w gs) A n l) : BS w w.heap.size A n l := hb.bs fun b hb => hb.1
theorem flt_grown {q : Nat} {x y z : Value} (w : World) : w.grownBy (((w.setCell ⟨q, 0, none⟩ x).setCell ⟨q, 1, none⟩ y).setCell ⟨q, 2, none⟩ z) (some q) :=
 only_setCell (only_setCell (only_setCell (World.grownBy.refl w (some q)) (p := ⟨q, 0, none⟩) (.inl rfl) x) (p := ⟨q, 1, none⟩) (.inl rfl) y) (p := ⟨q, 2, none⟩) (.inl rfl) z
/-- The end with a fault. -/
theorem RetG.err {w0 w1 : World} {q : Nat} {A : Option Addr} {n c : Nat} {l : List UInt8} {r : Except FtA Gr} {k : Int} {a b d : Value} (hB : Below B w0 w1) (hq : B ≤ q) (hq0 : w0.heap.size ≤ q) (hs : ∀ b, h.qt w0 [g] b → w1.heap[b]? = w0.heap[b]?) (hR : Blk w1 q 88 #[a, b, d]) (hl : BF w1 (h'.qt w1 (q :: gs)) A n l) (hnc : n ≤ c) (hr : r = .error (k, l)) :
  RetG w0 B g gs wide h r (.returned (.agg #[.int .i64 3, .int .i64 k, .slice A n c])) (((w1.setCell ⟨q, 0, none⟩ (.int .i64 3)).setCell ⟨q, 1, none⟩ (.int .i64 k)).setCell ⟨q, 2, none⟩ (.slice A n c)) := by
 refine ⟨flt_below hB hq, fun b hb => ((flt_grown w1).block b (Nat.lt_of_lt_of_le hb.1 hB.size) (fun e => by injection e with e; have := hb.1; omega)).trans (hs b hb), ?_⟩
 rw [hr]
 exact ⟨A, n, c, rfl, (hl.keep (GQ.kat h' (List.mem_cons_self ..) (flt_grown w1))).keep (Kp.sub fun b hb => ⟨hb.1, fun hm => hb.2.1 (List.mem_cons_of_mem _ hm)⟩), hnc⟩
/-- The end without one. -/
theorem RetG.fin {w0 w1 : World} {q : Nat} {r : Except FtA Gr} {a b d : Value} (hB : Below B w0 w1) (hq : B ≤ q) (hR : Blk w1 q 88 #[a, b, d]) (P : GP w1 B g (q :: gs) wide h' v') (hm : g ∈ gs) (hne : g ≠ q) (hK : Kp w0 w1 (h.qt w0 [g]) (h'.qt w1 [q, g])) (hcb : h'.cb = h.cb ∨ v'.a.comms ≠ []) (hr : r = .ok v') :
  RetG w0 B g gs wide h r (.returned (.agg #[.int .i64 0, .int .i64 0, .slice none 0 0])) (((w1.setCell ⟨q, 0, none⟩ (.int .i64 0)).setCell ⟨q, 1, none⟩ (.int .i64 0)).setCell ⟨q, 2, none⟩ (.slice none 0 0)) := by
 have hK2 := (hK.trans (GQ.kat h' (p := q) (List.mem_cons_self ..) (flt_grown (q := q) (x := .int .i64 0) (y := .int .i64 0) (z := .slice none 0 0) w1))).trans (GQ.kdrop (q := q) (gs := [g]) _ h')
 refine ⟨flt_below hB hq, fun b hb => (hK2 b hb).2, ?_⟩
 rw [hr]
 exact ⟨rfl, h', (P.at_ hR (List.mem_cons_self ..) hne (by decide) (by decide) (by decide) (flt_grown w1)).drop hm, hK2, hcb⟩
end
set_option maxHeartbeats 8000000 in
set_option maxRecDepth 100000 in
theorem attUnk (B g : Nat) (gs : List Nat) (h : GH) (v : Gr) (wide : Bool) (fl kind : Int) (A : Option Addr) (n c : Nat) (all : List UInt8) (A' : Option Addr) (n' c' : Nat) (val : List UInt8) (w : World) (P : GP w B g gs wide h v) (D : BdG v) (hall : BF w (h.qt w gs) A n all) (hnc : n ≤ c) (hval : BF w (h.qt w gs) A' n' val) (hnc' : n' ≤ c') (hf : 0 ≤ fl ∧ fl ≤ 255) (hk : 0 ≤ kind ∧ kind ≤ 255) :
  Calls Tryz.prog 150 #[.pointer (some ⟨g, 0, none⟩), .agg #[.int .i64 fl, .int .i64 kind, .slice A n c, .slice A' n' c']] w (RetG w B g gs wide h (unkA v ⟨fl, kind, all, val⟩)) := by
 obtain ⟨W, hW, hX, hR, b0⟩ := boxes2 w #[.int .i64 fl, .int .i64 kind, .slice A n c, .slice A' n' c'] #[.int .i64 0, .int .i64 0, .slice none 0 0] 222 88
 obtain ⟨q, hq⟩ : ∃ q, w.heap.size = q := ⟨_, rfl⟩
 obtain ⟨Bz, hBz⟩ : ∃ x, q + 1 = x := ⟨_, rfl⟩
 rw [hq] at hX hR
 rw [hBz] at hR
 have hXl := hX.lt
 have hRl := hR.lt
 have hgq : g < q := by rw [← hq]; exact P.q.hi
 have hgm := P.q.mem
 have hqz : q < Bz := by omega
 have PW := P.add b0 (q := Bz) (by omega) hRl
 have KW : Kp w W (h.qt w gs) (h.qt W (Bz :: gs)) := GQ.kadd h b0 (by omega)
 have KG : Kp w W (h.qt w [g]) (h.qt W [Bz, g]) := GQ.kadd h b0 (by omega)
 have hwz : w.heap.size ≤ Bz := by omega
 have hallW := hall.keep KW
 have hvalW := hval.keep KW
 have bB := b0.mono P.lo
 have hBq : B ≤ Bz := by have := P.lo; omega
 have g10 : W.cell? ⟨g, 10, none⟩ = some (.slice h.ra h.rn h.rc) := PW.blk.cell 10
 have a3 := (andK hf.1 hf.2).2.2.1
 have a4 := (andK hf.1 hf.2).2.2.2
 obtain ⟨F, hF⟩ : ∃ x, fl / 128 % 2 * 128 = x := ⟨_, rfl⟩
 obtain ⟨G, hG⟩ : ∃ x, fl / 64 % 2 * 64 = x := ⟨_, rfl⟩
 rw [hF] at a3
 rw [hG] at a4
 have HOP := Lib.hid (show optF fl = true ↔ F ≠ 0 by rw [← hF]; unfold optF; rw [decide_eq_true_eq]; omega)
 have HTR := Lib.hid (show trF fl = true ↔ G ≠ 0 by rw [← hG]; unfold trF; rw [decide_eq_true_eq]; omega)
 have HNV := Lib.hid hval.1
 have HRN := Lib.hid P.q.raws.len
 have HK := Lib.hid KG
 have x0 := hX.cell 0
 have x1 := hX.cell 1
 have x2 := hX.cell 2
 have x3 := hX.cell 3
 clear hF hG hall hval KW KG
 go_enter Tryz.func150, Tryz.ntmps150
 go_upto_region 1 with fail
 try rw [hW]
 try rw [hq]
 try rw [hBz]
 clear hW hBz hq
 by_cases c1 : F = 0
 case pos =>
  have t1 : (F == 0) = true := by simpa using c1
  have HE := Lib.hid (show unkA v ⟨fl, kind, all, val⟩ = .error (2, all) by
   have : optF fl = false := Bool.eq_false_iff.2 fun ho => HOP.out.1 ho c1
   unfold unkA; simp only; rw [if_pos this])
  clear c1
  go_wp2_with fail
  refine (attFault 2 A n c W).mono ?_
  rintro _ w4 ⟨rfl, b4⟩
  have hR4 := hR.below b4 hRl
  have fe0 := hR4.cell 0
  have ff0 := hR4.frozen 0
  have fe1 := hR4.cell 1
  have ff1 := hR4.frozen 1
  have fe2 := hR4.cell 2
  have ff2 := hR4.frozen 2
  go_wp2_with fail
  exact bodyPost_ret (fltA_ret rfl _ _ Bz _ _ _ rfl (flt_store hR4)) rfl (RetG.err (btr bB b4 (by omega)) hBq hwz (fun b hb => (btr b0 b4 b0.size).block b hb.1) hR4 (hallW.keep (GQ.kcall h b4)) hnc HE.out)
 have t1 : (F == 0) = false := by simpa using c1
 have HO1 := Lib.hid (show ¬ optF fl = false from fun ho => by rw [HOP.out.2 c1] at ho; cases ho)
 clear c1
 by_cases c2 : G = 0
 case pos =>
  have t2 : (G == 0) = true := by simpa using c2
  have HE := Lib.hid (show unkA v ⟨fl, kind, all, val⟩ = .ok v by
   have : trF fl = false := Bool.eq_false_iff.2 fun ho => HTR.out.1 ho c2
   unfold unkA; simp only; rw [if_neg HO1.out, if_pos this])
  clear c2
  have fe0 := hR.cell 0
  have ff0 := hR.frozen 0
  have fe1 := hR.cell 1
  have ff1 := hR.frozen 1
  have fe2 := hR.cell 2
  have ff2 := hR.frozen 2
  go_wp2_with fail
  exact bodyPost_ret (fltA_ret rfl _ _ Bz _ _ _ rfl (flt_store hR)) rfl (RetG.fin bB hBq hR PW hgm (by omega) HK.out (.inl rfl) HE.out)
 have t2 : (G == 0) = false := by simpa using c2
 have HT1 := Lib.hid (show ¬ trF fl = false from fun ho => by rw [HTR.out.2 c2] at ho; cases ho)
 clear c2
 -- UNK
 by_cases c3 : 64 < n' ∨ 8 ≤ h.rn
 case pos =>
  have HE := Lib.hid (show unkA v ⟨fl, kind, all, val⟩ = .error (9, all) by
   unfold unkA; simp only; rw [if_neg HO1.out, if_neg HT1.out, if_pos (by rw [← HNV.out, ← HRN.out]; exact c3)])
  by_cases c4 : 64 < n'
  case pos =>
   have t3 : decide ((64 : Int) < (n' : Int)) = true := decide_eq_true (by omega)
   have t3' : decide (64 < n') = true := decide_eq_true c4
   clear c3 c4
   go_wp2_with fail
   refine (attFault 9 A n c W).mono ?_
   rintro _ w4 ⟨rfl, b4⟩
   have hR4 := hR.below b4 hRl
   have fe0 := hR4.cell 0
   have ff0 := hR4.frozen 0
   have fe1 := hR4.cell 1
   have ff1 := hR4.frozen 1
   have fe2 := hR4.cell 2
   have ff2 := hR4.frozen 2
   go_wp2_with fail
   exact bodyPost_ret (fltA_ret rfl _ _ Bz _ _ _ rfl (flt_store hR4)) rfl (RetG.err (btr bB b4 (by omega)) hBq hwz (fun b hb => (btr b0 b4 b0.size).block b hb.1) hR4 (hallW.keep (GQ.kcall h b4)) hnc HE.out)
  have c5 : 8 ≤ h.rn := by omega
  have t3 : decide ((64 : Int) < (n' : Int)) = false := decide_eq_false (by omega)
  have t3' : decide (64 < n') = false := decide_eq_false c4
  have t4 : decide ((8 : Int) ≤ (h.rn : Int)) = true := decide_eq_true (by omega)
  have t4' : decide (8 ≤ h.rn) = true := decide_eq_true c5
  clear c3 c4 c5
  go_wp2_with fail
  refine (attFault 9 A n c W).mono ?_
  rintro _ w4 ⟨rfl, b4⟩
  have hR4 := hR.below b4 hRl
  have fe0 := hR4.cell 0
  have ff0 := hR4.frozen 0
  have fe1 := hR4.cell 1
  have ff1 := hR4.frozen 1
  have fe2 := hR4.cell 2
  have ff2 := hR4.frozen 2
  go_wp2_with fail
  exact bodyPost_ret (fltA_ret rfl _ _ Bz _ _ _ rfl (flt_store hR4)) rfl (RetG.err (btr bB b4 (by omega)) hBq hwz (fun b hb => (btr b0 b4 b0.size).block b hb.1) hR4 (hallW.keep (GQ.kcall h b4)) hnc HE.out)
 have t3 : decide ((64 : Int) < (n' : Int)) = false := decide_eq_false (by omega)
 have t3' : decide (64 < n') = false := decide_eq_false (by omega)
 have t4 : decide ((8 : Int) ≤ (h.rn : Int)) = false := decide_eq_false (by omega)
 have t4' : decide (8 ≤ h.rn) = false := decide_eq_false (by omega)
 have HE0 := Lib.hid (show unkA v ⟨fl, kind, all, val⟩ = .ok { v with a := { v.a with raws := insR v.a.raws ⟨fl, kind, all, val⟩ } } by
  unfold unkA; simp only; rw [if_neg HO1.out, if_neg HT1.out, if_neg (by rw [← HNV.out, ← HRN.out]; exact c3)])
 clear c3
 have HIDX := Lib.hid (idxRaw h.ra h.rn h.rc q v.a.raws kind W (PW.q.raws.dl Qt.lt) (by have := HRN.out; have := D.raws; omega) hXl x1)
 go_wp2_with fail
 refine HIDX.out.mono ?_
 rintro _ w5 ⟨⟨v5, rfl, hv⟩, b5⟩
 have P5 := PW.call b5
 have X5 := hX.below b5 hXl
 have hR5 := hR.below b5 hRl
 have K5 := HK.out.trans (GQ.kcall h b5)
 have b05 := btr bB b5 (by have := PW.lo; omega)
 have b05B : B ≤ w5.heap.size := P5.lo
 obtain ⟨i, hii⟩ : ∃ i, rawPos v.a.raws kind = i := ⟨_, rfl⟩
 rw [hii] at hv
 have HE := Lib.hid (show unkA v ⟨fl, kind, all, val⟩ = .ok { v with a := { v.a with raws := v.a.raws.take i ++ [(224, kind, val)] ++ v.a.raws.drop i } } by
  rw [HE0.out]; unfold insR; simp only; rw [hii])
 have hi : i ≤ h.rn := by
  have := rawPos_le v.a.raws kind
  have := HRN.out
  omega
 have g10' : w5.cell? ⟨g, 10, none⟩ = some (.slice h.ra h.rn h.rc) := P5.blk.cell 10
 clear hii a3 a4 t1 t2 x0 x1 x2 x3 g10
 rcases hv with ⟨h0, rfl, hlt⟩ | ⟨rfl, hlen⟩
 ·have u1 : decide ((i : Int) < 0) = false := decide_eq_false (by omega)
  clear h0 hlt
  have hvd := (hvalW.keep (GQ.kcall h b5)).keep (GQ.kcall h ((Below.refl w5.heap.size w5).drew))
  have Pd := P5.call ((Below.refl w5.heap.size w5).drew)
  have Xd := X5.below ((Below.refl w5.heap.size w5).drew) X5.lt
  have Rd := hR5.below ((Below.refl w5.heap.size w5).drew) hR5.lt
  have Kd := K5.trans (GQ.kcall h ((Below.refl w5.heap.size w5).drew))
  have bd : Below B w w5.drew := btr b05 ((Below.refl w5.heap.size w5).drew) b05B
  clear b5 P5 X5 hR5 K5 b05
  go_upto_region 10 with fail
  rename_i hkk
  have HKK := Lib.hid hkk
  clear hkk
  obtain ⟨wd, hwd⟩ : ∃ x, w5.drew = x := ⟨_, rfl⟩
  rw [hwd] at hvd Pd Xd Rd Kd bd
  have HWD := Lib.hid hwd
  clear hwd
  have hzd : B ≤ wd.heap.size := Pd.lo
  obtain ⟨css, cl, crn, co, cr, c3⟩ := Pd.q.raws
  clear crn
  have y1 : wd.cell? ⟨q, 1, none⟩ = some (.int .i64 kind) := Xd.cell 1
  have y3 : wd.cell? ⟨q, 3, none⟩ = some (.slice A' n' c') := Xd.cell 3
  have g10d : wd.cell? ⟨g, 10, none⟩ = some (.slice h.ra h.rn h.rc) := Pd.blk.cell 10
  have hV := Blk.new wd 168 #[.int .i64 224, .int .i64 kind, .slice A' n' c']
  have bV := (Below.refl wd.heap.size wd).alloc (Nat.le_refl _) (.cells #[.int .i64 224, .int .i64 kind, .slice A' n' c'] 168)
  have PV := Pd.call bV
  have XV := Xd.below bV Xd.lt
  have RV := Rd.below bV Rd.lt
  have KV := Kd.trans (GQ.kcall h bV)
  have bdV := btr bd bV hzd
  have yV1 : (wd.alloc (.cells #[.int .i64 224, .int .i64 kind, .slice A' n' c'] 168)).cell? ⟨q, 1, none⟩ = some (.int .i64 kind) := XV.cell 1
  have yV3 : (wd.alloc (.cells #[.int .i64 224, .int .i64 kind, .slice A' n' c'] 168)).cell? ⟨q, 3, none⟩ = some (.slice A' n' c') := XV.cell 3
  have g10V : (wd.alloc (.cells #[.int .i64 224, .int .i64 kind, .slice A' n' c'] 168)).cell? ⟨g, 10, none⟩ = some (.slice h.ra h.rn h.rc) := PV.blk.cell 10
  have coV := own_alloc2 co (.cells #[.int .i64 224, .int .i64 kind, .slice A' n' c'] 168)
  have hnV : Value.ownBlock (.slice h.ra h.rn h.rc) ≠ some wd.heap.size := fun e => by have := (co.lt _ e).2; omega
  have HINS := Lib.hid (insertR B h.ra h.rn h.rc i wd.heap.size 168 css.flatten [.int .i64 224, .int .i64 kind, .slice A' n' c'] _ coV hi hV rfl hnV (by intro u hu; simp at hu; rcases hu with rfl | rfl | rfl <;> rfl) (fun u hu => by
    obtain ⟨cs, hcs, hu⟩ := List.mem_flatten.1 hu
    obtain ⟨m, hm⟩ := List.getElem?_of_mem hcs
    have hml := (List.getElem?_eq_some_iff.1 hm).1
    exact rRaw_ok.one (cr m cs _ hm (List.getElem?_eq_getElem (by omega))) u hu) (by have := HRN.out; have := D.raws; omega) (by have := bV.size; omega))
  have HRAW : ∀ (S' : Nat → Prop), Kp wd (wd.alloc (.cells #[.int .i64 224, .int .i64 kind, .slice A' n' c'] 168)) (h.qt wd (Bz :: gs)) S' → rRaw (wd.alloc (.cells #[.int .i64 224, .int .i64 kind, .slice A' n' c'] 168)) S' [.int .i64 224, .int .i64 kind, .slice A' n' c'] (224, kind, val) := fun S' hk' => rRaw_cells (hvd.keep hk') hnc' hk
  have HFIN := Lib.hid (show ∀ (A2 : Option Addr) (c2 : Nat) (w6 : World), w6.ownsRow B 168 3 (.slice A2 (h.rn + 1) c2) (h.rn + 1) (css.flatten.take (i * 3) ++ [.int .i64 224, .int .i64 kind, .slice A' n' c'] ++ css.flatten.drop (i * 3)) → (wd.alloc (.cells #[.int .i64 224, .int .i64 kind, .slice A' n' c'] 168)).grownBy w6 (Value.ownBlock (.slice h.ra h.rn h.rc)) → (Value.ownBlock (.slice A2 (h.rn + 1) c2) = Value.ownBlock (.slice h.ra h.rn h.rc) ∨ Value.ownBlock (.slice A2 (h.rn + 1) c2) = some (wd.alloc (.cells #[.int .i64 224, .int .i64 kind, .slice A' n' c'] 168)).heap.size) →
    ∃ w7, w6.setCell ⟨g, 10, none⟩ (.slice A2 (h.rn + 1) c2) = w7 ∧ Blk w7 Bz 88 #[.int .i64 0, .int .i64 0, .slice none 0 0] ∧ RetG w B g gs wide h (unkA v ⟨fl, kind, all, val⟩) (.returned (.agg #[.int .i64 0, .int .i64 0, .slice none 0 0])) (((w7.setCell ⟨Bz, 0, none⟩ (.int .i64 0)).setCell ⟨Bz, 1, none⟩ (.int .i64 0)).setCell ⟨Bz, 2, none⟩ (.slice none 0 0)) from by
   intro A2 c2 w6 o6 g6 hat
   obtain ⟨Q6, K6⟩ := PV.q.raws_ins cl (fun m cs a hm ha => rRaw_ok.keep (cr m cs a hm ha) (GQ.kcall h bV)) c3 coV (HRAW _ (GQ.kcall h bV)) (by have := HRN.out; omega) o6 g6 hat
   have nq : ∀ {b : Nat} {T : TypeId} {cs : Array Value}, Blk wd b T cs → 168 ≠ T → some b ≠ Value.ownBlock (.slice h.ra h.rn h.rc) := fun hb hne e => own_blk_ne co hb hne e.symm
   have hb6 := (PV.blk).grown g6 (nq Pd.blk (by decide))
   have hR6 := RV.grown g6 (nq Rd (by decide))
   have b6 : Below B w w6 := bdV.grown g6 (Nat.le_trans hzd bV.size) (fun k hk => (co.lt k hk).1)
   obtain ⟨P7, K7, b7⟩ := GP.head (i := 10) (u := .slice A2 (h.rn + 1) c2) (v' := { v with a := { v.a with raws := v.a.raws.take (i) ++ [(224, kind, val)] ++ v.a.raws.drop (i) } }) hb6 Q6 rfl
   refine ⟨_, rfl, hR6.far (p := ⟨g, 10, none⟩) (by show Bz ≠ g; omega) _, ?_⟩
   refine RetG.fin (b6.trans b7) hBq (hR6.far (p := ⟨g, 10, none⟩) (by show Bz ≠ g; omega) _) P7 hgm (by omega) ((KV.trans (K6 _)).trans (K7 _ (by simp))) (.inl rfl) ?_
   rw [HE.out])
  have nqd : ∀ {b : Nat} {T : TypeId} {cs : Array Value}, Blk wd b T cs → 168 ≠ T → some b ≠ Value.ownBlock (.slice h.ra h.rn h.rc) := fun hb hne e => own_blk_ne co hb hne e.symm
  have HZ1 := Lib.hid (show ∀ w6, (wd.alloc (.cells #[.int .i64 224, .int .i64 kind, .slice A' n' c'] 168)).grownBy w6 (Value.ownBlock (.slice h.ra h.rn h.rc)) → w6.cell? ⟨q, 1, none⟩ = some (.int .i64 kind) ∧ w6.cell? ⟨q, 3, none⟩ = some (.slice A' n' c') ∧ w6.frozen? ⟨g, 10, none⟩ = false ∧ w6.cell? ⟨g, 10, none⟩ = some (.slice h.ra h.rn h.rc) from fun w6 g6 => ⟨(XV.grown g6 (nqd Xd (by decide))).cell 1, (XV.grown g6 (nqd Xd (by decide))).cell 3, (PV.blk.grown g6 (nqd Pd.blk (by decide))).frozen 10, (PV.blk.grown g6 (nqd Pd.blk (by decide))).cell 10⟩)
  have HV1 := Lib.hid (show ∀ (w6 w7 : World) (u : Value), w6.setCell ⟨g, 10, none⟩ u = w7 → w6.cell? ⟨q, 1, none⟩ = some (.int .i64 kind) → w6.cell? ⟨q, 3, none⟩ = some (.slice A' n' c') → w7.cell? ⟨q, 1, none⟩ = some (.int .i64 kind) ∧ w7.cell? ⟨q, 3, none⟩ = some (.slice A' n' c') from by
   rintro w6 w7 u rfl z1 z3
   exact ⟨(World.cell?_setCell_far _ _ _ _ (by show g ≠ q; omega)).trans z1, (World.cell?_setCell_far _ _ _ _ (by show g ≠ q; omega)).trans z3⟩)
  have bdZ := bV.size
  clear co coV cr PV XV RV KV bdV Pd Xd Rd Kd bd hV bV hvd HRAW cl c3 hnV nqd
  refine wp_region_held_drew (S := (fun w' => w'.cell? ⟨q, 1, none⟩ = some (.int .i64 kind) ∧ w'.cell? ⟨q, 3, none⟩ = some (.slice A' n' c'))) (by kernel_rfl) ?_ (fun hHeld => ?_)
  ·rw [HWD.out]; exact ⟨y1, y3⟩
  rw [HWD.out]
  rw [HWD.out] at hHeld
  refine tkh 0 (h := ?_)
  try simp only [Act.put, q1, q2, q3, q4, q5, q6]
  refine tkh 1 (h := ?_)
  try simp only [Act.put, q1, q2, q3, q4, q5, q6]
  refine tkh 2 (h := ?_)
  try simp only [Act.put, q1, q2, q3, q4, q5, q6]
  refine tkh 3 (h := ?_)
  try simp only [Act.put, q1, q2, q3, q4, q5, q6]
  refine tkh 4 (h := ?_)
  try simp only [Act.put, q1, q2, q3, q4, q5, q6]
  refine tkh 6 (h := ?_)
  try simp only [Act.put, q1, q2, q3, q4, q5, q6]
  refine tkh 7 (h := ?_)
  try simp only [Act.put, q1, q2, q3, q4, q5, q6]
  refine tkh 8 (h := ?_)
  try simp only [Act.put, q1, q2, q3, q4, q5, q6]
  refine tkh 9 (h := ?_)
  try simp only [Act.put, q1, q2, q3, q4, q5, q6]
  refine tkh 10 (h := ?_)
  try simp only [Act.put, q1, q2, q3, q4, q5, q6]
  refine tkh 11 (h := ?_)
  try simp only [Act.put, q1, q2, q3, q4, q5, q6]
  refine wpAnyH_ready (rs := [5, 12]) (by kernel_rfl) (by simp) ?_
  refine AllReadyH.cons rfl (fun K hK => ?_) (AllReadyH.cons rfl (fun K hK => ?_) AllReadyH.nil)
  ·skip
   go_simp
   go_wp2_with (fail)
   refine hK.out _ _ ?_ (fun hHeld => ?_)
   ·try dsimp only
    first | exact ⟨yV1, yV3⟩ | exact ⟨y1, y3⟩
   clear hK K
   refine tkr 12 fun K hK => ?_
   go_simp
   go_wp2_with (fail)
   refine hK.out _ _ ?_ (fun hHeld => ?_)
   ·try dsimp only
    first | exact ⟨yV1, yV3⟩ | exact ⟨y1, y3⟩
   clear hK K
   refine tkr 13 fun K hK => ?_
   go_simp
   go_wp2_with ((go_at_call 202; refine HINS.out.mono ?_; rintro _ w6 ⟨A2, c2, rfl, o6, g6, hat⟩; obtain ⟨w7, hw7, hR7, HE7⟩ := HFIN.out A2 c2 w6 o6 g6 hat; obtain ⟨z1, z3, gf, gc⟩ := HZ1.out w6 g6; clear o6 g6 hat; have HW7 := Lib.hid hw7; have HR7 := Lib.hid hR7; clear hw7 hR7))
   refine hK.out _ _ ?_ (fun hHeld => ?_)
   ·try dsimp only
    exact ⟨z1, z3⟩
   clear hK K
   refine tkh 14 (h := ?_)
   try simp only [Act.put, q1, q2, q3, q4, q5, q6]
   refine tkh 15 (h := ?_)
   try simp only [Act.put, q1, q2, q3, q4, q5, q6]
   refine tkh 16 (h := ?_)
   try simp only [Act.put, q1, q2, q3, q4, q5, q6]
   refine tkr 17 fun K hK => ?_
   go_simp
   go_wp2_with (fail)
   rw [HW7.out]
   refine hK.out _ _ ?_ (fun hHeld => ?_)
   ·try dsimp only
    exact HV1.out w6 w7 _ HW7.out z1 z3
   clear hK K
   refine wpAnyH_done (by kernel_rfl) ?_ _
   refine HKK.out _ _ ?_
   clear hHeld z1 z3 gf gc HZ1 HFIN HINS HV1 y1 y3 yV1 yV3 g10d g10V
   have fe0 := HR7.out.cell 0
   have ff0 := HR7.out.frozen 0
   have fe1 := HR7.out.cell 1
   have ff1 := HR7.out.frozen 1
   have fe2 := HR7.out.cell 2
   have ff2 := HR7.out.frozen 2
   go_wp2_with fail
   exact bodyPost_ret (fltA_ret rfl _ _ Bz _ _ _ rfl (flt_store HR7.out)) rfl HE7
  ·skip
   go_simp
   go_wp2_with (fail)
   refine hK.out _ _ ?_ (fun hHeld => ?_)
   ·try dsimp only
    first | exact ⟨yV1, yV3⟩ | exact ⟨y1, y3⟩
   clear hK K
   refine tkr 5 fun K hK => ?_
   go_simp
   go_wp2_with (fail)
   refine hK.out _ _ ?_ (fun hHeld => ?_)
   ·try dsimp only
    first | exact ⟨yV1, yV3⟩ | exact ⟨y1, y3⟩
   clear hK K
   refine tkr 13 fun K hK => ?_
   go_simp
   go_wp2_with ((go_at_call 202; refine HINS.out.mono ?_; rintro _ w6 ⟨A2, c2, rfl, o6, g6, hat⟩; obtain ⟨w7, hw7, hR7, HE7⟩ := HFIN.out A2 c2 w6 o6 g6 hat; obtain ⟨z1, z3, gf, gc⟩ := HZ1.out w6 g6; clear o6 g6 hat; have HW7 := Lib.hid hw7; have HR7 := Lib.hid hR7; clear hw7 hR7))
   refine hK.out _ _ ?_ (fun hHeld => ?_)
   ·try dsimp only
    exact ⟨z1, z3⟩
   clear hK K
   refine tkh 14 (h := ?_)
   try simp only [Act.put, q1, q2, q3, q4, q5, q6]
   refine tkh 15 (h := ?_)
   try simp only [Act.put, q1, q2, q3, q4, q5, q6]
   refine tkh 16 (h := ?_)
   try simp only [Act.put, q1, q2, q3, q4, q5, q6]
   refine tkr 17 fun K hK => ?_
   go_simp
   go_wp2_with (fail)
   rw [HW7.out]
   refine hK.out _ _ ?_ (fun hHeld => ?_)
   ·try dsimp only
    exact HV1.out w6 w7 _ HW7.out z1 z3
   clear hK K
   refine wpAnyH_done (by kernel_rfl) ?_ _
   refine HKK.out _ _ ?_
   clear hHeld z1 z3 gf gc HZ1 HFIN HINS HV1 y1 y3 yV1 yV3 g10d g10V
   have fe0 := HR7.out.cell 0
   have ff0 := HR7.out.frozen 0
   have fe1 := HR7.out.cell 1
   have ff1 := HR7.out.frozen 1
   have fe2 := HR7.out.cell 2
   have ff2 := HR7.out.frozen 2
   go_wp2_with fail
   exact bodyPost_ret (fltA_ret rfl _ _ Bz _ _ _ rfl (flt_store HR7.out)) rfl HE7
 ·have hir : i = h.rn := by have := HRN.out; omega
  subst hir
  clear hlen
  have hvd := (hvalW.keep (GQ.kcall h b5)).keep (GQ.kcall h ((Below.refl w5.heap.size w5).drew))
  have Pd := P5.call ((Below.refl w5.heap.size w5).drew)
  have Xd := X5.below ((Below.refl w5.heap.size w5).drew) X5.lt
  have Rd := hR5.below ((Below.refl w5.heap.size w5).drew) hR5.lt
  have Kd := K5.trans (GQ.kcall h ((Below.refl w5.heap.size w5).drew))
  have bd : Below B w w5.drew := btr b05 ((Below.refl w5.heap.size w5).drew) b05B
  clear b5 P5 X5 hR5 K5 b05
  go_upto_region 10 with fail
  rename_i hkk
  have HKK := Lib.hid hkk
  clear hkk
  obtain ⟨wd, hwd⟩ : ∃ x, w5.drew = x := ⟨_, rfl⟩
  rw [hwd] at hvd Pd Xd Rd Kd bd
  have HWD := Lib.hid hwd
  clear hwd
  have hzd : B ≤ wd.heap.size := Pd.lo
  obtain ⟨css, cl, crn, co, cr, c3⟩ := Pd.q.raws
  clear crn
  have y1 : wd.cell? ⟨q, 1, none⟩ = some (.int .i64 kind) := Xd.cell 1
  have y3 : wd.cell? ⟨q, 3, none⟩ = some (.slice A' n' c') := Xd.cell 3
  have g10d : wd.cell? ⟨g, 10, none⟩ = some (.slice h.ra h.rn h.rc) := Pd.blk.cell 10
  have hV := Blk.new wd 168 #[.int .i64 224, .int .i64 kind, .slice A' n' c']
  have bV := (Below.refl wd.heap.size wd).alloc (Nat.le_refl _) (.cells #[.int .i64 224, .int .i64 kind, .slice A' n' c'] 168)
  have PV := Pd.call bV
  have XV := Xd.below bV Xd.lt
  have RV := Rd.below bV Rd.lt
  have KV := Kd.trans (GQ.kcall h bV)
  have bdV := btr bd bV hzd
  have yV1 : (wd.alloc (.cells #[.int .i64 224, .int .i64 kind, .slice A' n' c'] 168)).cell? ⟨q, 1, none⟩ = some (.int .i64 kind) := XV.cell 1
  have yV3 : (wd.alloc (.cells #[.int .i64 224, .int .i64 kind, .slice A' n' c'] 168)).cell? ⟨q, 3, none⟩ = some (.slice A' n' c') := XV.cell 3
  have g10V : (wd.alloc (.cells #[.int .i64 224, .int .i64 kind, .slice A' n' c'] 168)).cell? ⟨g, 10, none⟩ = some (.slice h.ra h.rn h.rc) := PV.blk.cell 10
  have coV := own_alloc2 co (.cells #[.int .i64 224, .int .i64 kind, .slice A' n' c'] 168)
  have hnV : Value.ownBlock (.slice h.ra h.rn h.rc) ≠ some wd.heap.size := fun e => by have := (co.lt _ e).2; omega
  have HINS := Lib.hid (insertR B h.ra h.rn h.rc h.rn wd.heap.size 168 css.flatten [.int .i64 224, .int .i64 kind, .slice A' n' c'] _ coV hi hV rfl hnV (by intro u hu; simp at hu; rcases hu with rfl | rfl | rfl <;> rfl) (fun u hu => by
    obtain ⟨cs, hcs, hu⟩ := List.mem_flatten.1 hu
    obtain ⟨m, hm⟩ := List.getElem?_of_mem hcs
    have hml := (List.getElem?_eq_some_iff.1 hm).1
    exact rRaw_ok.one (cr m cs _ hm (List.getElem?_eq_getElem (by omega))) u hu) (by have := HRN.out; have := D.raws; omega) (by have := bV.size; omega))
  have HRAW : ∀ (S' : Nat → Prop), Kp wd (wd.alloc (.cells #[.int .i64 224, .int .i64 kind, .slice A' n' c'] 168)) (h.qt wd (Bz :: gs)) S' → rRaw (wd.alloc (.cells #[.int .i64 224, .int .i64 kind, .slice A' n' c'] 168)) S' [.int .i64 224, .int .i64 kind, .slice A' n' c'] (224, kind, val) := fun S' hk' => rRaw_cells (hvd.keep hk') hnc' hk
  have HFIN := Lib.hid (show ∀ (A2 : Option Addr) (c2 : Nat) (w6 : World), w6.ownsRow B 168 3 (.slice A2 (h.rn + 1) c2) (h.rn + 1) (css.flatten.take (h.rn * 3) ++ [.int .i64 224, .int .i64 kind, .slice A' n' c'] ++ css.flatten.drop (h.rn * 3)) → (wd.alloc (.cells #[.int .i64 224, .int .i64 kind, .slice A' n' c'] 168)).grownBy w6 (Value.ownBlock (.slice h.ra h.rn h.rc)) → (Value.ownBlock (.slice A2 (h.rn + 1) c2) = Value.ownBlock (.slice h.ra h.rn h.rc) ∨ Value.ownBlock (.slice A2 (h.rn + 1) c2) = some (wd.alloc (.cells #[.int .i64 224, .int .i64 kind, .slice A' n' c'] 168)).heap.size) →
    ∃ w7, w6.setCell ⟨g, 10, none⟩ (.slice A2 (h.rn + 1) c2) = w7 ∧ Blk w7 Bz 88 #[.int .i64 0, .int .i64 0, .slice none 0 0] ∧ RetG w B g gs wide h (unkA v ⟨fl, kind, all, val⟩) (.returned (.agg #[.int .i64 0, .int .i64 0, .slice none 0 0])) (((w7.setCell ⟨Bz, 0, none⟩ (.int .i64 0)).setCell ⟨Bz, 1, none⟩ (.int .i64 0)).setCell ⟨Bz, 2, none⟩ (.slice none 0 0)) from by
   intro A2 c2 w6 o6 g6 hat
   obtain ⟨Q6, K6⟩ := PV.q.raws_ins cl (fun m cs a hm ha => rRaw_ok.keep (cr m cs a hm ha) (GQ.kcall h bV)) c3 coV (HRAW _ (GQ.kcall h bV)) (by have := HRN.out; omega) o6 g6 hat
   have nq : ∀ {b : Nat} {T : TypeId} {cs : Array Value}, Blk wd b T cs → 168 ≠ T → some b ≠ Value.ownBlock (.slice h.ra h.rn h.rc) := fun hb hne e => own_blk_ne co hb hne e.symm
   have hb6 := (PV.blk).grown g6 (nq Pd.blk (by decide))
   have hR6 := RV.grown g6 (nq Rd (by decide))
   have b6 : Below B w w6 := bdV.grown g6 (Nat.le_trans hzd bV.size) (fun k hk => (co.lt k hk).1)
   obtain ⟨P7, K7, b7⟩ := GP.head (i := 10) (u := .slice A2 (h.rn + 1) c2) (v' := { v with a := { v.a with raws := v.a.raws.take (h.rn) ++ [(224, kind, val)] ++ v.a.raws.drop (h.rn) } }) hb6 Q6 rfl
   refine ⟨_, rfl, hR6.far (p := ⟨g, 10, none⟩) (by show Bz ≠ g; omega) _, ?_⟩
   refine RetG.fin (b6.trans b7) hBq (hR6.far (p := ⟨g, 10, none⟩) (by show Bz ≠ g; omega) _) P7 hgm (by omega) ((KV.trans (K6 _)).trans (K7 _ (by simp))) (.inl rfl) ?_
   rw [HE.out])
  have nqd : ∀ {b : Nat} {T : TypeId} {cs : Array Value}, Blk wd b T cs → 168 ≠ T → some b ≠ Value.ownBlock (.slice h.ra h.rn h.rc) := fun hb hne e => own_blk_ne co hb hne e.symm
  have HZ1 := Lib.hid (show ∀ w6, (wd.alloc (.cells #[.int .i64 224, .int .i64 kind, .slice A' n' c'] 168)).grownBy w6 (Value.ownBlock (.slice h.ra h.rn h.rc)) → w6.cell? ⟨q, 1, none⟩ = some (.int .i64 kind) ∧ w6.cell? ⟨q, 3, none⟩ = some (.slice A' n' c') ∧ w6.frozen? ⟨g, 10, none⟩ = false ∧ w6.cell? ⟨g, 10, none⟩ = some (.slice h.ra h.rn h.rc) from fun w6 g6 => ⟨(XV.grown g6 (nqd Xd (by decide))).cell 1, (XV.grown g6 (nqd Xd (by decide))).cell 3, (PV.blk.grown g6 (nqd Pd.blk (by decide))).frozen 10, (PV.blk.grown g6 (nqd Pd.blk (by decide))).cell 10⟩)
  have HV1 := Lib.hid (show ∀ (w6 w7 : World) (u : Value), w6.setCell ⟨g, 10, none⟩ u = w7 → w6.cell? ⟨q, 1, none⟩ = some (.int .i64 kind) → w6.cell? ⟨q, 3, none⟩ = some (.slice A' n' c') → w7.cell? ⟨q, 1, none⟩ = some (.int .i64 kind) ∧ w7.cell? ⟨q, 3, none⟩ = some (.slice A' n' c') from by
   rintro w6 w7 u rfl z1 z3
   exact ⟨(World.cell?_setCell_far _ _ _ _ (by show g ≠ q; omega)).trans z1, (World.cell?_setCell_far _ _ _ _ (by show g ≠ q; omega)).trans z3⟩)
  have bdZ := bV.size
  clear co coV cr PV XV RV KV bdV Pd Xd Rd Kd bd hV bV hvd HRAW cl c3 hnV nqd
  refine wp_region_held_drew (S := (fun w' => w'.cell? ⟨q, 1, none⟩ = some (.int .i64 kind) ∧ w'.cell? ⟨q, 3, none⟩ = some (.slice A' n' c'))) (by kernel_rfl) ?_ (fun hHeld => ?_)
  ·rw [HWD.out]; exact ⟨y1, y3⟩
  rw [HWD.out]
  rw [HWD.out] at hHeld
  refine tkh 0 (h := ?_)
  try simp only [Act.put, q1, q2, q3, q4, q5, q6]
  refine tkh 1 (h := ?_)
  try simp only [Act.put, q1, q2, q3, q4, q5, q6]
  refine tkh 2 (h := ?_)
  try simp only [Act.put, q1, q2, q3, q4, q5, q6]
  refine tkh 3 (h := ?_)
  try simp only [Act.put, q1, q2, q3, q4, q5, q6]
  refine tkh 4 (h := ?_)
  try simp only [Act.put, q1, q2, q3, q4, q5, q6]
  refine tkh 6 (h := ?_)
  try simp only [Act.put, q1, q2, q3, q4, q5, q6]
  refine tkh 7 (h := ?_)
  try simp only [Act.put, q1, q2, q3, q4, q5, q6]
  refine tkh 8 (h := ?_)
  try simp only [Act.put, q1, q2, q3, q4, q5, q6]
  refine tkh 9 (h := ?_)
  try simp only [Act.put, q1, q2, q3, q4, q5, q6]
  refine tkh 10 (h := ?_)
  try simp only [Act.put, q1, q2, q3, q4, q5, q6]
  refine tkh 11 (h := ?_)
  try simp only [Act.put, q1, q2, q3, q4, q5, q6]
  refine wpAnyH_ready (rs := [5, 12]) (by kernel_rfl) (by simp) ?_
  refine AllReadyH.cons rfl (fun K hK => ?_) (AllReadyH.cons rfl (fun K hK => ?_) AllReadyH.nil)
  ·skip
   go_simp
   go_wp2_with (fail)
   refine hK.out _ _ ?_ (fun hHeld => ?_)
   ·try dsimp only
    first | exact ⟨yV1, yV3⟩ | exact ⟨y1, y3⟩
   clear hK K
   refine tkr 12 fun K hK => ?_
   go_simp
   go_wp2_with (fail)
   refine hK.out _ _ ?_ (fun hHeld => ?_)
   ·try dsimp only
    first | exact ⟨yV1, yV3⟩ | exact ⟨y1, y3⟩
   clear hK K
   refine tkr 13 fun K hK => ?_
   go_simp
   go_wp2_with ((go_at_call 202; refine HINS.out.mono ?_; rintro _ w6 ⟨A2, c2, rfl, o6, g6, hat⟩; obtain ⟨w7, hw7, hR7, HE7⟩ := HFIN.out A2 c2 w6 o6 g6 hat; obtain ⟨z1, z3, gf, gc⟩ := HZ1.out w6 g6; clear o6 g6 hat; have HW7 := Lib.hid hw7; have HR7 := Lib.hid hR7; clear hw7 hR7))
   refine hK.out _ _ ?_ (fun hHeld => ?_)
   ·try dsimp only
    exact ⟨z1, z3⟩
   clear hK K
   refine tkh 14 (h := ?_)
   try simp only [Act.put, q1, q2, q3, q4, q5, q6]
   refine tkh 15 (h := ?_)
   try simp only [Act.put, q1, q2, q3, q4, q5, q6]
   refine tkh 16 (h := ?_)
   try simp only [Act.put, q1, q2, q3, q4, q5, q6]
   refine tkr 17 fun K hK => ?_
   go_simp
   go_wp2_with (fail)
   rw [HW7.out]
   refine hK.out _ _ ?_ (fun hHeld => ?_)
   ·try dsimp only
    exact HV1.out w6 w7 _ HW7.out z1 z3
   clear hK K
   refine wpAnyH_done (by kernel_rfl) ?_ _
   refine HKK.out _ _ ?_
   clear hHeld z1 z3 gf gc HZ1 HFIN HINS HV1 y1 y3 yV1 yV3 g10d g10V
   have fe0 := HR7.out.cell 0
   have ff0 := HR7.out.frozen 0
   have fe1 := HR7.out.cell 1
   have ff1 := HR7.out.frozen 1
   have fe2 := HR7.out.cell 2
   have ff2 := HR7.out.frozen 2
   go_wp2_with fail
   exact bodyPost_ret (fltA_ret rfl _ _ Bz _ _ _ rfl (flt_store HR7.out)) rfl HE7
  ·skip
   go_simp
   go_wp2_with (fail)
   refine hK.out _ _ ?_ (fun hHeld => ?_)
   ·try dsimp only
    first | exact ⟨yV1, yV3⟩ | exact ⟨y1, y3⟩
   clear hK K
   refine tkr 5 fun K hK => ?_
   go_simp
   go_wp2_with (fail)
   refine hK.out _ _ ?_ (fun hHeld => ?_)
   ·try dsimp only
    first | exact ⟨yV1, yV3⟩ | exact ⟨y1, y3⟩
   clear hK K
   refine tkr 13 fun K hK => ?_
   go_simp
   go_wp2_with ((go_at_call 202; refine HINS.out.mono ?_; rintro _ w6 ⟨A2, c2, rfl, o6, g6, hat⟩; obtain ⟨w7, hw7, hR7, HE7⟩ := HFIN.out A2 c2 w6 o6 g6 hat; obtain ⟨z1, z3, gf, gc⟩ := HZ1.out w6 g6; clear o6 g6 hat; have HW7 := Lib.hid hw7; have HR7 := Lib.hid hR7; clear hw7 hR7))
   refine hK.out _ _ ?_ (fun hHeld => ?_)
   ·try dsimp only
    exact ⟨z1, z3⟩
   clear hK K
   refine tkh 14 (h := ?_)
   try simp only [Act.put, q1, q2, q3, q4, q5, q6]
   refine tkh 15 (h := ?_)
   try simp only [Act.put, q1, q2, q3, q4, q5, q6]
   refine tkh 16 (h := ?_)
   try simp only [Act.put, q1, q2, q3, q4, q5, q6]
   refine tkr 17 fun K hK => ?_
   go_simp
   go_wp2_with (fail)
   rw [HW7.out]
   refine hK.out _ _ ?_ (fun hHeld => ?_)
   ·try dsimp only
    exact HV1.out w6 w7 _ HW7.out z1 z3
   clear hK K
   refine wpAnyH_done (by kernel_rfl) ?_ _
   refine HKK.out _ _ ?_
   clear hHeld z1 z3 gf gc HZ1 HFIN HINS HV1 y1 y3 yV1 yV3 g10d g10V
   have fe0 := HR7.out.cell 0
   have ff0 := HR7.out.frozen 0
   have fe1 := HR7.out.cell 1
   have ff1 := HR7.out.frozen 1
   have fe2 := HR7.out.cell 2
   have ff2 := HR7.out.frozen 2
   go_wp2_with fail
   exact bodyPost_ret (fltA_ret rfl _ _ Bz _ _ _ rfl (flt_store HR7.out)) rfl HE7
-- UNKEND
theorem gc_no {h : GH} {v : Gr} {wide : Bool} : ∀ (i : Nat) (x : Int), (GC h v wide)[i]? ≠ some (Value.int .u8 x) := by
 intro i x
 rcases i with _ | _ | _ | _ | _ | _ | _ | _ | _ | _ | _ | _ | _ | _ | _ | _ | _ | i <;> simp
/-- A reader stays where a row that holds no byte is written. -/
theorem RB.at_ {Bd g p : Nat} {w w' : World} {l : List UInt8} {s : Bool} {T : TypeId} {cs : Array Value} (h : RB Bd w g l s) (hp : Blk w p T cs) (hno : ∀ (i : Nat) (x : Int), cs[i]? ≠ some (Value.int .u8 x)) (hT : 212 ≠ T) (hg : w.grownBy w' (some p)) : RB Bd w' g l s := by
 obtain ⟨A, n, c, hb, ⟨hnc, hBd⟩, hbs⟩ := h
 exact ⟨A, n, c, hb.grown hg (by intro e; injection e with e; exact Blk.ne_ hb hp hT e), ⟨hnc, Nat.le_trans hBd hg.size⟩, hbs.grownAtB hBd hg (hbs.apart hp hno)⟩
theorem set_g {g i : Nat} {u : Value} (w : World) : w.grownBy (w.setCell ⟨g, i, none⟩ u) (some g) := only_setCell (World.grownBy.refl w (some g)) (p := ⟨g, i, none⟩) (.inl rfl) u
/-- What goes on without a word: the reading goes on. -/
def RetV (w : World) (B g : Nat) (gs : List Nat) (wide : Bool) (h : GH) (v' : Gr) (e : Ending) (w' : World) : Prop := e = .returned (.tuple #[]) ∧ Below B w w' ∧ GP w' B g gs wide h v' ∧ Kp w w' (h.qt w [g]) (h.qt w' [g])
set_option maxHeartbeats 8000000 in
set_option maxRecDepth 100000 in
theorem attAggr (B g : Nat) (gs : List Nat) (h : GH) (v : Gr) (wide : Bool) (fl kind : Int) (A : Option Addr) (n c : Nat) (A' : Option Addr) (n' c' : Nat) (val : List UInt8) (w : World) (P : GP w B g gs wide h v) (hval : BF w (h.qt w gs) A' n' val) (hn' : n' ≤ 100000) :
  Calls Tryz.prog 205 #[.pointer (some ⟨g, 0, none⟩), .agg #[.int .i64 fl, .int .i64 kind, .slice A n c, .slice A' n' c']] w (RetV w B g gs wide h { v with a := { v.a with aggrAS := numF (szA wide) val, hasAggr := true, aggrAddr := numSec (szA wide) val }, hasOld := true, oldAS := numF (szA wide) val }) := by
 obtain ⟨W, hW, hX, b0⟩ := box1c w #[.int .i64 fl, .int .i64 kind, .slice A n c, .slice A' n' c'] 222
 have hBw : B ≤ w.heap.size := P.lo
 have bB0 := b0.mono hBw
 have PW := P.call b0
 have KW : Kp w W (h.qt w gs) (h.qt W gs) := GQ.kcall h b0
 have KG : Kp w W (h.qt w [g]) (h.qt W [g]) := GQ.kcall h b0
 have hvW := (hval.keep KW).bsq
 have hvl : val.length ≤ 140737488355320 := by rw [← hval.1]; omega
 have x3 := hX.cell 3
 obtain ⟨q, hq⟩ : ∃ q, w.heap.size = q := ⟨_, rfl⟩
 rw [hq] at hX x3
 clear hval
 go_enter Tryz.func205, Tryz.ntmps205
 go_upto_region 1 with fail
 try rw [hW]
 try rw [hq]
 clear hW hq
 go_wp2_with fail
 refine (rbNew A' n' c' val W hvW (by omega)).mono ?_
 rintro _ w1 ⟨g1, rfl, hg, r1, b1⟩
 have P1 := PW.add b1 (q := g1) hg r1.lt
 have K1 : Kp w w1 (h.qt w [g]) (h.qt w1 [g1, g]) := KG.trans (GQ.kadd h b1 hg)
 have b01 := btr bB0 b1 (PW.lo)
 have hgg : g ≠ g1 := by have := PW.q.hi; omega
 have hgm := P.q.mem
 have hm1 : g1 ∈ g1 :: gs := List.mem_cons_self ..
 obtain ⟨Bd, hBd⟩ : ∃ x, w1.heap.size = x := ⟨_, rfl⟩
 rw [hBd] at r1
 obtain ⟨V1, t1, s1, E1⟩ : ∃ v1 l1 s1, numL (tkOut val false (szA wide)) = v1 ∧ tkLeft val false (szA wide) = l1 ∧ tkShort val false (szA wide) = s1 := ⟨_, _, _, rfl, rfl, rfl⟩
 obtain ⟨V2, t2, s2, E2⟩ : ∃ v1 l1 s1', numL (tkOut t1 s1 (4 : Nat)) = v1 ∧ tkLeft t1 s1 (4 : Nat) = l1 ∧ tkShort t1 s1 (4 : Nat) = s1' := ⟨_, _, _, rfl, rfl, rfl⟩
 have HF1 := Lib.hid (show numF (szA wide) val = (V1 : Int) by unfold numF; rw [E1.1])
 have HF2 := Lib.hid (show numSec (szA wide) val = (V2 : Int) by unfold numSec; rw [E1.2.1, E1.2.2, E2.1])
 have hl1 : t1.length ≤ 140737488355320 := by rw [← E1.2.1]; exact Nat.le_trans (tkLeft_len _ _ _) hvl
 have HU2 := Lib.hid (show ∀ w', RB Bd w' g1 t1 s1 → Calls Tryz.prog 176 #[.pointer (some ⟨g1, 0, none⟩)] w' fun en w'' => en = .returned (.int .u32 (V2 : Nat)) ∧ RB Bd w'' g1 t2 s2 ∧ w'.grownBy w'' (some g1) from fun w' h => by have := rbU32 g1 t1 s1 w' h hl1; rw [E2.1, E2.2.1, E2.2.2] at this; exact this)
 have hV1 : V1 < 256 ^ (szA wide) := by rw [← E1.1]; exact tkOut_num val false (szA wide)
 have g16 : w1.cell? ⟨g, 16, none⟩ = some (.bool wide) := P1.blk.cell 16
 have HBd := Lib.hid hBd
 clear hBd
 cases wide
 case true =>
  have HU1 := Lib.hid (show ∀ w', RB Bd w' g1 val false → Calls Tryz.prog 176 #[.pointer (some ⟨g1, 0, none⟩)] w' fun en w'' => en = .returned (.int .u32 (V1 : Nat)) ∧ RB Bd w'' g1 t1 s1 ∧ w'.grownBy w'' (some g1) from fun w' h => by have := rbU32 g1 val false w' h hvl; rw [show (4 : Nat) = szA true from rfl, E1.1, E1.2.1, E1.2.2] at this; exact this)
  clear E1 E2 hV1
  go_wp2_with fail
  refine (HU1.out _ r1).mono ?_
  rintro _ w2 ⟨rfl, r2, g2⟩
  obtain ⟨cs1, hrb1⟩ := r1.blk
  obtain ⟨cs2, hrb2⟩ := r2.blk
  have P2 := P1.at_ hrb1 hm1 hgg (by decide) (by decide) (by decide) g2
  have K2 := K1.trans (GQ.kat h (List.mem_cons_self ..) g2)
  have b02 := b01.grown g2 P1.lo (fun k hk => by injection hk with hk; subst hk; have := P1.lo; have := PW.lo; omega)
  have f7 := P2.blk.frozen 7
  have k7 := P2.blk.cell 7
  clear g16 x3 hX
  go_upto_region 5 with fail
  obtain ⟨P3, K3, b3⟩ := GP.store (i := 7) (u := .int .u32 (V1 : Int)) (v' := { v with a := { v.a with aggrAS := (V1 : Int) } }) P2 rfl rfl rfl rfl rfl rfl rfl
  have r3 := r2.at_ P2.blk gc_no (by decide) (set_g (g := g) (i := 7) (u := .int .u32 (V1 : Int)) w2)
  have K03 := K2.trans (K3 _ (by simp))
  have b03 := b02.trans b3
  obtain ⟨w3, hw3⟩ : ∃ x, w2.setCell ⟨g, 7, none⟩ (.int .u32 (V1 : Int)) = x := ⟨_, rfl⟩
  rw [hw3] at P3 r3 K03 b03
  rw [hw3]
  clear hw3 f7 k7 K3 b3
  have Pd := P3.call ((Below.refl w3.heap.size w3).drew)
  have rd : RB Bd w3.drew g1 t1 s1 := r3
  have Kd := K03.trans (GQ.kcall h ((Below.refl w3.heap.size w3).drew))
  have bd : Below B w w3.drew := btr b03 ((Below.refl w3.heap.size w3).drew) P3.lo
  obtain ⟨wd, hwd⟩ : ∃ x, w3.drew = x := ⟨_, rfl⟩
  rw [hwd] at Pd rd Kd bd
  have HWD := Lib.hid hwd
  clear hwd P3 r3 K03 b03 P1 P2 K1 K2 b01 b02 r1 r2 g2
  have d7 : wd.cell? ⟨g, 7, none⟩ = some (.int .u32 (V1 : Int)) := Pd.blk.cell 7
  obtain ⟨cs3, hrb3⟩ := rd.blk
  have HEND := Lib.hid (show ∀ w4, RB Bd w4 g1 t2 s2 → wd.grownBy w4 (some g1) → ∃ w8, ((((w4.setCell ⟨g, 6, none⟩ (.bool true)).setCell ⟨g, 13, none⟩ (.bool true)).setCell ⟨g, 14, none⟩ (.int .u32 (V1 : Int))).setCell ⟨g, 8, none⟩ (.int .u32 (V2 : Int))) = w8 ∧ RetV w B g gs true h { v with a := { v.a with aggrAS := (V1 : Int), hasAggr := true, aggrAddr := (V2 : Int) }, hasOld := true, oldAS := (V1 : Int) } (.returned (.tuple #[])) w8 ∧ (w4.cell? ⟨g, 7, none⟩ = some (.int .u32 (V1 : Int)) ∧ (w4.setCell ⟨g, 6, none⟩ (.bool true)).cell? ⟨g, 7, none⟩ = some (.int .u32 (V1 : Int)) ∧ ((w4.setCell ⟨g, 6, none⟩ (.bool true)).setCell ⟨g, 13, none⟩ (.bool true)).cell? ⟨g, 7, none⟩ = some (.int .u32 (V1 : Int)) ∧ (((w4.setCell ⟨g, 6, none⟩ (.bool true)).setCell ⟨g, 13, none⟩ (.bool true)).setCell ⟨g, 14, none⟩ (.int .u32 (V1 : Int))).cell? ⟨g, 7, none⟩ = some (.int .u32 (V1 : Int)) ∧ w8.cell? ⟨g, 7, none⟩ = some (.int .u32 (V1 : Int))) ∧ Blk w4 g 219 (GC h { v with a := { v.a with aggrAS := (V1 : Int) } } true) from by
   intro w4 r4 g4
   have P4 := Pd.at_ hrb3 hm1 hgg (by decide) (by decide) (by decide) g4
   have K4 := Kd.trans (GQ.kat h (List.mem_cons_self ..) g4)
   have b4 := bd.grown g4 Pd.lo (fun k hk => by injection hk with hk; subst hk; have := PW.lo; omega)
   obtain ⟨P5, K5, b5⟩ := GP.store (i := 6) (u := .bool true) (v' := { v with a := { v.a with aggrAS := (V1 : Int), hasAggr := true } }) P4 rfl rfl rfl rfl rfl rfl rfl
   obtain ⟨P6, K6, b6⟩ := GP.store (i := 13) (u := .bool true) (v' := { v with a := { v.a with aggrAS := (V1 : Int), hasAggr := true }, hasOld := true }) P5 rfl rfl rfl rfl rfl rfl rfl
   obtain ⟨P7, K7, b7⟩ := GP.store (i := 14) (u := .int .u32 (V1 : Int)) (v' := { v with a := { v.a with aggrAS := (V1 : Int), hasAggr := true }, hasOld := true, oldAS := (V1 : Int) }) P6 rfl rfl rfl rfl rfl rfl rfl
   obtain ⟨P8, K8, b8⟩ := GP.store (i := 8) (u := .int .u32 (V2 : Int)) (v' := { v with a := { v.a with aggrAS := (V1 : Int), hasAggr := true, aggrAddr := (V2 : Int) }, hasOld := true, oldAS := (V1 : Int) }) P7 rfl rfl rfl rfl rfl rfl rfl
   exact ⟨_, rfl, ⟨rfl, (((b4.trans b5).trans b6).trans b7).trans b8, P8.drop hgm, ((((K4.trans (K5 _ (by simp))).trans (K6 _ (by simp))).trans (K7 _ (by simp))).trans (K8 _ (by simp))).trans (GQ.kdrop _ h)⟩, ⟨P4.blk.cell 7, P5.blk.cell 7, P6.blk.cell 7, P7.blk.cell 7, P8.blk.cell 7⟩, P4.blk⟩)
  clear Pd Kd bd hrb3
  refine wp_region_held_drew (S := (fun w' => w'.cell? ⟨g, 7, none⟩ = some (.int .u32 (V1 : Int)))) (by kernel_rfl) ?_ (fun hHeld => ?_)
  ·rw [HWD.out]; exact d7
  rw [HWD.out]
  rw [HWD.out] at hHeld
  refine tkh 0 (h := ?_)
  try simp only [Act.put, q1, q2, q3, q4, q5, q6]
  refine tkh 1 (h := ?_)
  try simp only [Act.put, q1, q2, q3, q4, q5, q6]
  refine tkh 2 (h := ?_)
  try simp only [Act.put, q1, q2, q3, q4, q5, q6]
  refine tkh 3 (h := ?_)
  try simp only [Act.put, q1, q2, q3, q4, q5, q6]
  refine tkh 4 (h := ?_)
  try simp only [Act.put, q1, q2, q3, q4, q5, q6]
  refine tkh 5 (h := ?_)
  try simp only [Act.put, q1, q2, q3, q4, q5, q6]
  refine tkh 6 (h := ?_)
  try simp only [Act.put, q1, q2, q3, q4, q5, q6]
  refine tkh 7 (h := ?_)
  try simp only [Act.put, q1, q2, q3, q4, q5, q6]
  refine tkh 8 (h := ?_)
  try simp only [Act.put, q1, q2, q3, q4, q5, q6]
  refine tkh 9 (h := ?_)
  try simp only [Act.put, q1, q2, q3, q4, q5, q6]
  refine tkr 10 fun K hK => ?_
  go_simp
  go_wp2_with ((go_at_call 176; refine (HU2.out _ rd).mono ?_; rintro _ w4 ⟨rfl, r4, g4⟩; obtain ⟨w8, hw8, hret, ⟨s0, s1_, s2_, s3, s4⟩, hb4⟩ := HEND.out w4 r4 g4; have k6 := hb4.cell 6; have k13 := hb4.cell 13; have k14 := hb4.cell 14; have k8 := hb4.cell 8; have f6 := hb4.frozen 6; have f13 := hb4.frozen 13; have f14 := hb4.frozen 14; have f8 := hb4.frozen 8; have HW8 := Lib.hid hw8; have HRET := Lib.hid hret; clear hw8 hret hb4 r4 g4))
  refine hK.out _ _ ?_ (fun hHeld => ?_)
  ·try dsimp only
   exact s0
  clear hK K
  refine tkh 11 (h := ?_)
  try simp only [Act.put, q1, q2, q3, q4, q5, q6]
  refine tkh 12 (h := ?_)
  try simp only [Act.put, q1, q2, q3, q4, q5, q6]
  refine tkh 13 (h := ?_)
  try simp only [Act.put, q1, q2, q3, q4, q5, q6]
  refine tkr 14 fun K hK => ?_
  go_simp
  go_wp2_with (fail)
  refine hK.out _ _ ?_ (fun hHeld => ?_)
  ·try dsimp only
   exact s1_
  clear hK K
  refine tkh 15 (h := ?_)
  try simp only [Act.put, q1, q2, q3, q4, q5, q6]
  refine tkh 16 (h := ?_)
  try simp only [Act.put, q1, q2, q3, q4, q5, q6]
  refine tkr 17 fun K hK => ?_
  go_simp
  go_wp2_with (fail)
  refine hK.out _ _ ?_ (fun hHeld => ?_)
  ·try dsimp only
   exact s2_
  clear hK K
  refine tkh 18 (h := ?_)
  try simp only [Act.put, q1, q2, q3, q4, q5, q6]
  refine tkh 19 (h := ?_)
  try simp only [Act.put, q1, q2, q3, q4, q5, q6]
  refine tkr 20 fun K hK => ?_
  go_simp
  go_wp2_with (fail)
  refine hK.out _ _ ?_ (fun hHeld => ?_)
  ·try dsimp only
   exact s3
  clear hK K
  refine tkh 21 (h := ?_)
  try simp only [Act.put, q1, q2, q3, q4, q5, q6]
  refine tkh 22 (h := ?_)
  try simp only [Act.put, q1, q2, q3, q4, q5, q6]
  refine tkh 23 (h := ?_)
  try simp only [Act.put, q1, q2, q3, q4, q5, q6]
  refine tkr 24 fun K hK => ?_
  go_simp
  go_wp2_with (fail)
  refine hK.out _ _ ?_ (fun hHeld => ?_)
  ·try dsimp only
   rw [HW8.out]; exact s4
  clear hK K
  refine wpAnyH_done (by kernel_rfl) ?_ _
  rw [HW8.out]
  go_wp2_with fail
  go_returns
  rw [HF1.out, HF2.out]
  exact HRET.out
 case false =>
  have HU1 := Lib.hid (show ∀ w', RB Bd w' g1 val false → Calls Tryz.prog 88 #[.pointer (some ⟨g1, 0, none⟩)] w' fun en w'' => en = .returned (.int .i64 (V1 : Nat)) ∧ RB Bd w'' g1 t1 s1 ∧ w'.grownBy w'' (some g1) from fun w' h => by have := rbU16 g1 val false w' h hvl; rw [show (2 : Nat) = szA false from rfl, E1.1, E1.2.1, E1.2.2] at this; exact this)
  have wV : IntKind.u32.wrap (V1 : Int) = (V1 : Int) := by rw [IntKind.wrap_u32]; have : V1 < 65536 := hV1; omega
  clear E1 E2 hV1
  go_wp2_with fail
  refine (HU1.out _ r1).mono ?_
  rintro _ w2 ⟨rfl, r2, g2⟩
  obtain ⟨cs1, hrb1⟩ := r1.blk
  obtain ⟨cs2, hrb2⟩ := r2.blk
  have P2 := P1.at_ hrb1 hm1 hgg (by decide) (by decide) (by decide) g2
  have K2 := K1.trans (GQ.kat h (List.mem_cons_self ..) g2)
  have b02 := b01.grown g2 P1.lo (fun k hk => by injection hk with hk; subst hk; have := P1.lo; have := PW.lo; omega)
  have f7 := P2.blk.frozen 7
  have k7 := P2.blk.cell 7
  clear g16 x3 hX
  go_upto_region 5 with fail
  obtain ⟨P3, K3, b3⟩ := GP.store (i := 7) (u := .int .u32 (V1 : Int)) (v' := { v with a := { v.a with aggrAS := (V1 : Int) } }) P2 rfl rfl rfl rfl rfl rfl rfl
  have r3 := r2.at_ P2.blk gc_no (by decide) (set_g (g := g) (i := 7) (u := .int .u32 (V1 : Int)) w2)
  have K03 := K2.trans (K3 _ (by simp))
  have b03 := b02.trans b3
  obtain ⟨w3, hw3⟩ : ∃ x, w2.setCell ⟨g, 7, none⟩ (.int .u32 (V1 : Int)) = x := ⟨_, rfl⟩
  rw [hw3] at P3 r3 K03 b03
  rw [hw3]
  clear hw3 f7 k7 K3 b3
  have Pd := P3.call ((Below.refl w3.heap.size w3).drew)
  have rd : RB Bd w3.drew g1 t1 s1 := r3
  have Kd := K03.trans (GQ.kcall h ((Below.refl w3.heap.size w3).drew))
  have bd : Below B w w3.drew := btr b03 ((Below.refl w3.heap.size w3).drew) P3.lo
  obtain ⟨wd, hwd⟩ : ∃ x, w3.drew = x := ⟨_, rfl⟩
  rw [hwd] at Pd rd Kd bd
  have HWD := Lib.hid hwd
  clear hwd P3 r3 K03 b03 P1 P2 K1 K2 b01 b02 r1 r2 g2
  have d7 : wd.cell? ⟨g, 7, none⟩ = some (.int .u32 (V1 : Int)) := Pd.blk.cell 7
  obtain ⟨cs3, hrb3⟩ := rd.blk
  have HEND := Lib.hid (show ∀ w4, RB Bd w4 g1 t2 s2 → wd.grownBy w4 (some g1) → ∃ w8, ((((w4.setCell ⟨g, 6, none⟩ (.bool true)).setCell ⟨g, 13, none⟩ (.bool true)).setCell ⟨g, 14, none⟩ (.int .u32 (V1 : Int))).setCell ⟨g, 8, none⟩ (.int .u32 (V2 : Int))) = w8 ∧ RetV w B g gs false h { v with a := { v.a with aggrAS := (V1 : Int), hasAggr := true, aggrAddr := (V2 : Int) }, hasOld := true, oldAS := (V1 : Int) } (.returned (.tuple #[])) w8 ∧ (w4.cell? ⟨g, 7, none⟩ = some (.int .u32 (V1 : Int)) ∧ (w4.setCell ⟨g, 6, none⟩ (.bool true)).cell? ⟨g, 7, none⟩ = some (.int .u32 (V1 : Int)) ∧ ((w4.setCell ⟨g, 6, none⟩ (.bool true)).setCell ⟨g, 13, none⟩ (.bool true)).cell? ⟨g, 7, none⟩ = some (.int .u32 (V1 : Int)) ∧ (((w4.setCell ⟨g, 6, none⟩ (.bool true)).setCell ⟨g, 13, none⟩ (.bool true)).setCell ⟨g, 14, none⟩ (.int .u32 (V1 : Int))).cell? ⟨g, 7, none⟩ = some (.int .u32 (V1 : Int)) ∧ w8.cell? ⟨g, 7, none⟩ = some (.int .u32 (V1 : Int))) ∧ Blk w4 g 219 (GC h { v with a := { v.a with aggrAS := (V1 : Int) } } false) from by
   intro w4 r4 g4
   have P4 := Pd.at_ hrb3 hm1 hgg (by decide) (by decide) (by decide) g4
   have K4 := Kd.trans (GQ.kat h (List.mem_cons_self ..) g4)
   have b4 := bd.grown g4 Pd.lo (fun k hk => by injection hk with hk; subst hk; have := PW.lo; omega)
   obtain ⟨P5, K5, b5⟩ := GP.store (i := 6) (u := .bool true) (v' := { v with a := { v.a with aggrAS := (V1 : Int), hasAggr := true } }) P4 rfl rfl rfl rfl rfl rfl rfl
   obtain ⟨P6, K6, b6⟩ := GP.store (i := 13) (u := .bool true) (v' := { v with a := { v.a with aggrAS := (V1 : Int), hasAggr := true }, hasOld := true }) P5 rfl rfl rfl rfl rfl rfl rfl
   obtain ⟨P7, K7, b7⟩ := GP.store (i := 14) (u := .int .u32 (V1 : Int)) (v' := { v with a := { v.a with aggrAS := (V1 : Int), hasAggr := true }, hasOld := true, oldAS := (V1 : Int) }) P6 rfl rfl rfl rfl rfl rfl rfl
   obtain ⟨P8, K8, b8⟩ := GP.store (i := 8) (u := .int .u32 (V2 : Int)) (v' := { v with a := { v.a with aggrAS := (V1 : Int), hasAggr := true, aggrAddr := (V2 : Int) }, hasOld := true, oldAS := (V1 : Int) }) P7 rfl rfl rfl rfl rfl rfl rfl
   exact ⟨_, rfl, ⟨rfl, (((b4.trans b5).trans b6).trans b7).trans b8, P8.drop hgm, ((((K4.trans (K5 _ (by simp))).trans (K6 _ (by simp))).trans (K7 _ (by simp))).trans (K8 _ (by simp))).trans (GQ.kdrop _ h)⟩, ⟨P4.blk.cell 7, P5.blk.cell 7, P6.blk.cell 7, P7.blk.cell 7, P8.blk.cell 7⟩, P4.blk⟩)
  clear Pd Kd bd hrb3
  refine wp_region_held_drew (S := (fun w' => w'.cell? ⟨g, 7, none⟩ = some (.int .u32 (V1 : Int)))) (by kernel_rfl) ?_ (fun hHeld => ?_)
  ·rw [HWD.out]; exact d7
  rw [HWD.out]
  rw [HWD.out] at hHeld
  refine tkh 0 (h := ?_)
  try simp only [Act.put, q1, q2, q3, q4, q5, q6]
  refine tkh 1 (h := ?_)
  try simp only [Act.put, q1, q2, q3, q4, q5, q6]
  refine tkh 2 (h := ?_)
  try simp only [Act.put, q1, q2, q3, q4, q5, q6]
  refine tkh 3 (h := ?_)
  try simp only [Act.put, q1, q2, q3, q4, q5, q6]
  refine tkh 4 (h := ?_)
  try simp only [Act.put, q1, q2, q3, q4, q5, q6]
  refine tkh 5 (h := ?_)
  try simp only [Act.put, q1, q2, q3, q4, q5, q6]
  refine tkh 6 (h := ?_)
  try simp only [Act.put, q1, q2, q3, q4, q5, q6]
  refine tkh 7 (h := ?_)
  try simp only [Act.put, q1, q2, q3, q4, q5, q6]
  refine tkh 8 (h := ?_)
  try simp only [Act.put, q1, q2, q3, q4, q5, q6]
  refine tkh 9 (h := ?_)
  try simp only [Act.put, q1, q2, q3, q4, q5, q6]
  refine tkr 10 fun K hK => ?_
  go_simp
  go_wp2_with ((go_at_call 176; refine (HU2.out _ rd).mono ?_; rintro _ w4 ⟨rfl, r4, g4⟩; obtain ⟨w8, hw8, hret, ⟨s0, s1_, s2_, s3, s4⟩, hb4⟩ := HEND.out w4 r4 g4; have k6 := hb4.cell 6; have k13 := hb4.cell 13; have k14 := hb4.cell 14; have k8 := hb4.cell 8; have f6 := hb4.frozen 6; have f13 := hb4.frozen 13; have f14 := hb4.frozen 14; have f8 := hb4.frozen 8; have HW8 := Lib.hid hw8; have HRET := Lib.hid hret; clear hw8 hret hb4 r4 g4))
  refine hK.out _ _ ?_ (fun hHeld => ?_)
  ·try dsimp only
   exact s0
  clear hK K
  refine tkh 11 (h := ?_)
  try simp only [Act.put, q1, q2, q3, q4, q5, q6]
  refine tkh 12 (h := ?_)
  try simp only [Act.put, q1, q2, q3, q4, q5, q6]
  refine tkh 13 (h := ?_)
  try simp only [Act.put, q1, q2, q3, q4, q5, q6]
  refine tkr 14 fun K hK => ?_
  go_simp
  go_wp2_with (fail)
  refine hK.out _ _ ?_ (fun hHeld => ?_)
  ·try dsimp only
   exact s1_
  clear hK K
  refine tkh 15 (h := ?_)
  try simp only [Act.put, q1, q2, q3, q4, q5, q6]
  refine tkh 16 (h := ?_)
  try simp only [Act.put, q1, q2, q3, q4, q5, q6]
  refine tkr 17 fun K hK => ?_
  go_simp
  go_wp2_with (fail)
  refine hK.out _ _ ?_ (fun hHeld => ?_)
  ·try dsimp only
   exact s2_
  clear hK K
  refine tkh 18 (h := ?_)
  try simp only [Act.put, q1, q2, q3, q4, q5, q6]
  refine tkh 19 (h := ?_)
  try simp only [Act.put, q1, q2, q3, q4, q5, q6]
  refine tkr 20 fun K hK => ?_
  go_simp
  go_wp2_with (fail)
  refine hK.out _ _ ?_ (fun hHeld => ?_)
  ·try dsimp only
   exact s3
  clear hK K
  refine tkh 21 (h := ?_)
  try simp only [Act.put, q1, q2, q3, q4, q5, q6]
  refine tkh 22 (h := ?_)
  try simp only [Act.put, q1, q2, q3, q4, q5, q6]
  refine tkh 23 (h := ?_)
  try simp only [Act.put, q1, q2, q3, q4, q5, q6]
  refine tkr 24 fun K hK => ?_
  go_simp
  go_wp2_with (fail)
  refine hK.out _ _ ?_ (fun hHeld => ?_)
  ·try dsimp only
   rw [HW8.out]; exact s4
  clear hK K
  refine wpAnyH_done (by kernel_rfl) ?_ _
  rw [HW8.out]
  go_wp2_with fail
  go_returns
  rw [HF1.out, HF2.out]
  exact HRET.out
set_option maxHeartbeats 8000000 in
set_option maxRecDepth 100000 in
theorem attList (B g : Nat) (gs : List Nat) (h : GH) (v : Gr) (wide : Bool) (fl kind : Int) (A : Option Addr) (n c : Nat) (all : List UInt8) (A' : Option Addr) (n' c' : Nat) (val : List UInt8) (w : World) (P : GP w B g gs wide h v) (hall : BF w (h.qt w gs) A n all) (hnc : n ≤ c) (hval : BF w (h.qt w gs) A' n' val) (hn' : n' ≤ 100000) (hmod : n' % 4 = 0) (hc0 : h.cb = none) (hcm : v.a.comms = []) :
  Calls Tryz.prog 206 #[.pointer (some ⟨g, 0, none⟩), .agg #[.int .i64 fl, .int .i64 kind, .slice A n c, .slice A' n' c']] w (RetG w B g gs wide h (if 32 < val.length / 4 then .error (9, all) else .ok { v with a := { v.a with comms := v.a.comms ++ commsA val } })) := by
 obtain ⟨W, hW, hX, hR, b0⟩ := boxes2 w #[.int .i64 fl, .int .i64 kind, .slice A n c, .slice A' n' c'] #[.int .i64 0, .int .i64 0, .slice none 0 0] 222 88
 obtain ⟨q, hq⟩ : ∃ q, w.heap.size = q := ⟨_, rfl⟩
 obtain ⟨Bz, hBz⟩ : ∃ x, q + 1 = x := ⟨_, rfl⟩
 rw [hq] at hX hR
 rw [hBz] at hR
 obtain ⟨res, hres⟩ : ∃ r, (if 32 < val.length / 4 then Except.error (9, all) else .ok { v with a := { v.a with comms := v.a.comms ++ commsA val } } : Except FtA Gr) = r := ⟨_, rfl⟩
 rw [hres]
 have hXl := hX.lt
 have hRl := hR.lt
 have hgq : g < q := by rw [← hq]; exact P.q.hi
 have hgm := P.q.mem
 have hqz : q < Bz := by omega
 have PW := P.add b0 (q := Bz) (by omega) hRl
 have KW : Kp w W (h.qt w gs) (h.qt W (Bz :: gs)) := GQ.kadd h b0 (by omega)
 have KG : Kp w W (h.qt w [g]) (h.qt W [Bz, g]) := GQ.kadd h b0 (by omega)
 have hwz : w.heap.size ≤ Bz := by omega
 have hallW := hall.keep KW
 have hvW := (hval.keep KW).bsq
 have bB := b0.mono P.lo
 have hBq : B ≤ Bz := by have := P.lo; omega
 have hvl : val.length ≤ 140737488355320 := by rw [← hval.1]; omega
 obtain ⟨M, hM⟩ : ∃ x, n' / 4 = x := ⟨_, rfl⟩
 have HMV := Lib.hid (show M = val.length / 4 by rw [← hM, hval.1])
 have HLV := Lib.hid (show val.length = 4 * M by rw [← hval.1]; omega)
 have e4 : (n' : Int).tdiv 4 = (M : Int) := by rw [Int.tdiv_eq_ediv_of_nonneg (by omega)]; omega
 have e5 : IntKind.i64.wrap (M : Int) = (M : Int) := IntWalk.i64_in _ ⟨by omega, by omega⟩
 have hMb : M ≤ 100000 := by omega
 have HK := Lib.hid KG
 have HC0 := Lib.hid hc0
 have HCM := Lib.hid hcm
 have x2 := hX.cell 2
 have x3 := hX.cell 3
 have HRES := Lib.hid hres
 clear hall hval KW KG hc0 hcm hmod hM hres
 go_enter Tryz.func206, Tryz.ntmps206
 go_upto_region 1 with fail
 try rw [hW]
 try rw [hq]
 try rw [hBz]
 clear hW hBz hq
 by_cases c1 : 32 < M
 case pos =>
  have t1 : decide ((32 : Int) < (M : Int)) = true := decide_eq_true (by omega)
  have t1' : decide (32 < M) = true := decide_eq_true c1
  have HE := Lib.hid (show res = .error (9, all) by rw [← HRES.out, if_pos (by rw [← HMV.out]; exact c1)])
  clear c1
  go_wp2_with fail
  refine (attFault 9 A n c W).mono ?_
  rintro _ w4 ⟨rfl, b4⟩
  have hR4 := hR.below b4 hRl
  have fe0 := hR4.cell 0
  have ff0 := hR4.frozen 0
  have fe1 := hR4.cell 1
  have ff1 := hR4.frozen 1
  have fe2 := hR4.cell 2
  have ff2 := hR4.frozen 2
  go_wp2_with fail
  exact bodyPost_ret (fltA_ret rfl _ _ Bz _ _ _ rfl (flt_store hR4)) rfl (RetG.err (btr bB b4 (by omega)) hBq hwz (fun b hb => (btr b0 b4 b0.size).block b hb.1) hR4 (hallW.keep (GQ.kcall h b4)) hnc HE.out)
 have t1 : decide ((32 : Int) < (M : Int)) = false := decide_eq_false (by omega)
 have t1' : decide (32 < M) = false := decide_eq_false c1
 have HE := Lib.hid (show res = .ok { v with a := { v.a with comms := commsA val } } by rw [← HRES.out, if_neg (by rw [← HMV.out]; exact c1), HCM.out, List.nil_append])
 have HMb := Lib.hid hMb
 clear c1
 go_upto_region 3 with fail
 clear t1 t1' e4 e5 x2 hMb
 go_wp2_with fail
 refine (rbNew A' n' c' val W hvW (by omega)).mono ?_
 rintro _ w1 ⟨g1, rfl, hg, r1, b1⟩
 have P1 := PW.add b1 (q := g1) hg r1.lt
 have K1 : Kp w w1 (h.qt w [g]) (h.qt w1 [g1, Bz, g]) := HK.out.trans (GQ.kadd h b1 hg)
 have b01 := btr bB b1 (PW.lo)
 have hgg : g ≠ g1 := by omega
 have hzg : Bz ≠ g1 := by omega
 have hgm1 : g ∈ Bz :: gs := List.mem_cons_of_mem _ hgm
 have hm1 : g1 ∈ g1 :: Bz :: gs := List.mem_cons_self ..
 have hR1 := hR.below b1 hRl
 obtain ⟨Bd, hBd⟩ : ∃ x, w1.heap.size = x := ⟨_, rfl⟩
 rw [hBd] at r1
 have HBd := Lib.hid hBd
 have hwBd : w.heap.size ≤ Bd := by have := b1.size; have := b0.size; omega
 clear hBd x3 hX hR
 go_wp2_with fail
 go_loopg [] M (fun gg wr => ∃ (h' : GH) (acc : List Int) (t : List UInt8), GP wr B g (g1 :: Bz :: gs) wide h' { v with a := { v.a with comms := acc } } ∧ RB Bd wr g1 t false ∧ Kp w wr (h.qt w [g]) (h'.qt wr [g1, Bz, g]) ∧ Below B w wr ∧ (∀ k, h'.cb = some k → Bd ≤ k) ∧ Blk wr Bz 88 #[.int .i64 0, .int .i64 0, .slice none 0 0] ∧ Hid (t.length = 4 * gg ∧ gg ≤ M ∧ InvN 4 M val false acc gg t false ∧ (h'.cb = h.cb ∨ acc ≠ [])))
 case atStart => exact ⟨h, [], val, by have := HCM.out; rw [← this]; exact P1, r1, K1, b01, fun k hk => by rw [HC0.out] at hk; (cases hk), hR1, Lib.hid ⟨HLV.out, Nat.le_refl _, InvN.start _ _ _ _, .inl rfl⟩⟩
 case round =>
  obtain ⟨h1, acc, t, Pr, rr, Kr, br, hcb, hRr, HI⟩ := hrel
  have hBr := Pr.lo
  obtain ⟨T, hT⟩ : ∃ T, t.length = T := ⟨_, rfl⟩
  have HLF := Lib.hid (show ∀ w', RB Bd w' g1 t false → Calls Tryz.prog 93 #[.pointer (some ⟨g1, 0, none⟩)] w' fun en w'' => en = .returned (.int .i64 (T : Nat)) ∧ w' = w'' from fun w' h => by rw [← hT]; exact rbLeft g1 t false w' h)
  have HTL := Lib.hid hT
  clear hT
  cases gk with
  | zero =>
   have hT0 : T = 0 := by have := HI.out.1; have := HTL.out; omega
   subst hT0
   have HA := Lib.hid (show commsA val = acc by
    have := HI.out.2.2.1.done
    unfold commsA
    rw [← HMV.out, this])
   go_wp2_with fail
   refine (HLF.out _ rr).mono ?_
   rintro _ _ ⟨rfl, rfl⟩
   have fe0 := hRr.cell 0
   have ff0 := hRr.frozen 0
   have fe1 := hRr.cell 1
   have ff1 := hRr.frozen 1
   have fe2 := hRr.cell 2
   have ff2 := hRr.frozen 2
   go_wp2_with fail
   exact bodyPost_ret (fltA_ret rfl _ _ Bz _ _ _ rfl (flt_store hRr)) rfl (RetG.fin br hBq hRr (Pr.drop hgm1) hgm (by omega) (Kr.trans (GQ.kdrop _ h1)) (HI.out.2.2.2) (by rw [HE.out, HA.out]))
  | succ f =>
   have hTp : 0 < T := by have := HI.out.1; have := HTL.out; omega
   have d1 : decide (0 < T) = true := decide_eq_true hTp
   have HTP := Lib.hid hTp
   clear hTp
   obtain ⟨V, t4, s4, E3⟩ : ∃ v1 l1 s', numL (tkOut t false (4 : Nat)) = v1 ∧ tkLeft t false (4 : Nat) = l1 ∧ tkShort t false (4 : Nat) = s' := ⟨_, _, _, rfl, rfl, rfl⟩
   have hs4 : s4 = false := by rw [← E3.2.2, (tk_ok (l := t) (k := 4) (by have := HI.out.1; omega)).2.2]
   subst hs4
   have hV : V < 4294967296 := by rw [← E3.1]; have := tkOut_num t false 4; omega
   have hvw : (Lit.int .u32 (V : Int)).wf = true := un32 hV
   have HT4 := Lib.hid (show t4.length = 4 * f by rw [← E3.2.1, (tk_ok (l := t) (k := 4) (by have := HI.out.1; omega)).2.1, List.length_drop]; have := HI.out.1; omega)
   have HIN := Lib.hid (show InvN 4 M val false (acc ++ [(V : Int)]) f t4 false by have := HI.out.2.2.1.step; rw [E3.1, E3.2.1, E3.2.2] at this; exact this)
   have HB3 := Lib.hid (show ∀ w', RB Bd w' g1 t false → Calls Tryz.prog 176 #[.pointer (some ⟨g1, 0, none⟩)] w' fun en w'' => en = .returned (.int .u32 (V : Nat)) ∧ RB Bd w'' g1 t4 false ∧ w'.grownBy w'' (some g1) from fun w' h => by have := rbU32 g1 t false w' h (by have := HI.out.1; have := HI.out.2.1; have := HMb.out; omega); rw [E3.1, E3.2.1, E3.2.2] at this; exact this)
   have HAL := Lib.hid (show acc.length ≤ 100000 by have := HI.out.2.2.1.1; have := HMb.out; omega)
   clear E3 hV
   go_wp2_with fail
   refine (HLF.out _ rr).mono ?_
   rintro _ _ ⟨rfl, rfl⟩
   have Pd := Pr.call ((Below.refl wr.heap.size wr).drew)
   have rd : RB Bd wr.drew g1 t false := rr
   have Kd := Kr.trans (GQ.kcall h1 ((Below.refl wr.heap.size wr).drew))
   have bd : Below B w wr.drew := btr br ((Below.refl wr.heap.size wr).drew) hBr
   have Rd := hRr.below ((Below.refl wr.heap.size wr).drew) hRr.lt
   go_upto_region 5 with fail
   rename_i hkk
   have HKK := Lib.hid hkk
   clear hkk
   obtain ⟨wd, hwd⟩ : ∃ x, wr.drew = x := ⟨_, rfl⟩
   rw [hwd] at Pd rd Kd bd Rd
   have HWD := Lib.hid hwd
   clear hwd Pr rr Kr br hRr
   have c9 : wd.cell? ⟨g, 9, none⟩ = some (.slice h1.ca h1.cn h1.cc) := Pd.blk.cell 9
   obtain ⟨cs1, hrb1⟩ := rd.blk
   have HU := Lib.hid (show ∀ w5, RB Bd w5 g1 t4 false → wd.grownBy w5 (some g1) → w5.cell? ⟨g, 9, none⟩ = some (.slice h1.ca h1.cn h1.cc) ∧ (w5.alloc (.cells #[.int .u32 (V : Int)] 22)).cell? ⟨g, 9, none⟩ = some (.slice h1.ca h1.cn h1.cc) ∧ OU (w5.alloc (.cells #[.int .u32 (V : Int)] 22)) B h1.ca h1.cn h1.cc acc ∧ B ≤ (w5.alloc (.cells #[.int .u32 (V : Int)] 22)).heap.size ∧ ∀ (A6 : Option Addr) (n6 c6 : Nat) (w6 : World), OU w6 B A6 n6 c6 (acc ++ [(V : Int)]) → (w5.alloc (.cells #[.int .u32 (V : Int)] 22)).grownBy w6 (Value.ownBlock (.slice h1.ca h1.cn h1.cc)) → (Value.ownBlock (.slice A6 n6 c6) = Value.ownBlock (.slice h1.ca h1.cn h1.cc) ∨ Value.ownBlock (.slice A6 n6 c6) = some (w5.alloc (.cells #[.int .u32 (V : Int)] 22)).heap.size) → w6.frozen? ⟨g, 9, none⟩ = false ∧ w6.cell? ⟨g, 9, none⟩ = some (.slice h1.ca h1.cn h1.cc) ∧ ∃ w7 h2, w6.setCell ⟨g, 9, none⟩ (.slice A6 n6 c6) = w7 ∧ GP w7 B g (g1 :: Bz :: gs) wide h2 { v with a := { v.a with comms := acc ++ [(V : Int)] } } ∧ RB Bd w7 g1 t4 false ∧ Kp w w7 (h.qt w [g]) (h2.qt w7 [g1, Bz, g]) ∧ Below B w w7 ∧ (∀ k, h2.cb = some k → Bd ≤ k) ∧ Blk w7 Bz 88 #[.int .i64 0, .int .i64 0, .slice none 0 0] from by
    intro w5 r5 g5
    have P5 := Pd.at_ hrb1 hm1 hgg (by decide) (by decide) (by decide) g5
    have K5 := Kd.trans (GQ.kat h1 (List.mem_cons_self ..) g5)
    have b5 : Below B w w5 := bd.grown g5 Pd.lo (fun k hk => by injection hk with hk; subst hk; omega)
    have R5 := Rd.grown g5 (by intro e; injection e with e; exact hzg e)
    have ba := (Below.refl w5.heap.size w5).alloc (Nat.le_refl _) (.cells #[.int .u32 (V : Int)] 22)
    have P6 := P5.call ba
    have r6 := r5.below ba (by have := r5.lt; have := g5.size; obtain ⟨_, _, _, _, ⟨_, hx⟩, _⟩ := r5; exact hx) r5.lt
    have R6 := R5.below ba R5.lt
    refine ⟨P5.blk.cell 9, P6.blk.cell 9, P6.q.comms, P6.lo, ?_⟩
    intro A6 n6 c6 w6 o6 g6 hat
    obtain ⟨Q6, K6⟩ := P6.q.comms_push o6 g6 hat
    have ne : ∀ {b : Nat} {T : TypeId} {cs : Array Value}, Blk (w5.alloc (.cells #[.int .u32 (V : Int)] 22)) b T cs → 22 ≠ T → some b ≠ Value.ownBlock (.slice h1.ca h1.cn h1.cc) := fun hb hne e => own_blk_ne P6.q.comms.2.1 hb hne e.symm
    have hb6 := P6.blk.grown g6 (ne P6.blk (by decide))
    have R7 := R6.grown g6 (ne R6 (by decide))
    obtain ⟨cs6, hrb6⟩ := r6.blk
    have r7 := r6.grown g6 (fun k hk => ⟨hcb k hk, fun e => ne hrb6 (by decide) (by rw [← e]; exact hk.symm)⟩)
    have b6 : Below B w w6 := (btr b5 ba P5.lo).grown g6 P6.lo (fun k hk => (P6.q.cbl k hk).1)
    obtain ⟨P7, K7, b7⟩ := GP.head (i := 9) (u := .slice A6 n6 c6) (v' := { v with a := { v.a with comms := acc ++ [(V : Int)] } }) hb6 Q6 rfl
    refine ⟨hb6.frozen 9, hb6.cell 9, _, _, rfl, P7, r7.at_ hb6 gc_no (by decide) (set_g w6), (((K5.trans (GQ.kcall h1 ba)).trans (K6 _)).trans (K7 _ (by simp))), b6.trans b7, fun k hk => ?_, R7.far (p := ⟨g, 9, none⟩) (by show Bz ≠ g; omega) _⟩
    rcases hat with e | e
    ·exact hcb k (e.symm.trans hk)
    ·have hk' : Value.ownBlock (.slice A6 n6 c6) = some k := hk
     rw [e] at hk'
     injection hk' with hk'
     have h2 : Bd ≤ w5.heap.size := by obtain ⟨_, _, _, _, ⟨_, hx⟩, _⟩ := r5; exact hx
     have h3 := ba.size
     omega)
   clear Pd Kd bd Rd hrb1
   refine wp_region_held_drew (S := (fun _ => True)) (by kernel_rfl) ?_ (fun hHeld => ?_)
   ·first | done | trivial
   rw [HWD.out]
   refine tkh 0 (h := ?_)
   try simp only [Act.put, q1, q2, q3, q4, q5, q6]
   refine tkh 1 (h := ?_)
   try simp only [Act.put, q1, q2, q3, q4, q5, q6]
   refine tkh 2 (h := ?_)
   try simp only [Act.put, q1, q2, q3, q4, q5, q6]
   refine tkh 3 (h := ?_)
   try simp only [Act.put, q1, q2, q3, q4, q5, q6]
   refine tkh 4 (h := ?_)
   try simp only [Act.put, q1, q2, q3, q4, q5, q6]
   refine tkh 6 (h := ?_)
   try simp only [Act.put, q1, q2, q3, q4, q5, q6]
   refine wpAnyH_ready (rs := [5, 7]) (by kernel_rfl) (by simp) ?_
   refine AllReadyH.cons rfl (fun K hK => ?_) (AllReadyH.cons rfl (fun K hK => ?_) AllReadyH.nil)
   ·skip
    go_simp
    go_wp2_with (fail)
    refine hK.out _ _ trivial (fun hHeld => ?_)
    clear hK K
    refine tkr 7 fun K hK => ?_
    go_simp
    go_wp2_with ((go_at_call 176; refine (HB3.out _ rd).mono ?_; rintro _ w5 ⟨rfl, r5, g5⟩; obtain ⟨u1, u2, u3, u4, u50⟩ := HU.out w5 r5 g5; have u5 := Lib.hid u50; clear u50 r5 g5))
    refine hK.out _ _ trivial (fun hHeld => ?_)
    clear hK K
    refine tkr 8 fun K hK => ?_
    go_simp
    go_wp2_with (fail)
    refine hK.out _ _ trivial (fun hHeld => ?_)
    clear hK K
    refine tkr 9 fun K hK => ?_
    refine step_appU rfl (.tmp 25) (.tmp 28) rfl B h1.ca h1.cn h1.cc acc (by rfl) u3 (w5.heap.size + 1) (some ⟨w5.heap.size, 0, none⟩) 1 1 [(V : Int)] (by rfl) (NS.one w5 hvw rfl) (by have := HAL.out; simp; omega) u4 ?_; intro A6 n6 c6 w6 o6 b6 g6 hat; obtain ⟨f9, d9, w7, h2, hw7, HH⟩ := u5.out A6 n6 c6 w6 o6 g6 hat; have HW7 := Lib.hid hw7; have HHH := Lib.hid HH; clear hw7 HH o6 b6 g6 hat
    refine hK.out _ _ trivial (fun hHeld => ?_)
    clear hK K
    refine tkh 10 (h := ?_)
    try simp only [Act.put, q1, q2, q3, q4, q5, q6]
    refine tkh 11 (h := ?_)
    try simp only [Act.put, q1, q2, q3, q4, q5, q6]
    refine tkh 12 (h := ?_)
    try simp only [Act.put, q1, q2, q3, q4, q5, q6]
    refine tkr 13 fun K hK => ?_
    go_simp
    go_wp2_with (fail)
    refine hK.out _ _ trivial (fun hHeld => ?_)
    clear hK K
    refine wpAnyH_done (by kernel_rfl) ?_ _
    rw [HW7.out]
    obtain ⟨P7, r7, K7, b7, c7, R7⟩ := HHH.out
    refine HKK.out _ _ ?_
    go_roundg f
    case measure => omega
    case rel => exact ⟨h2, acc ++ [(V : Int)], t4, P7, r7, K7, b7, c7, R7, Lib.hid ⟨HT4.out, by have := HI.out.2.1; omega, HIN.out, .inr (by simp)⟩⟩
   ·skip
    go_simp
    go_wp2_with ((go_at_call 176; refine (HB3.out _ rd).mono ?_; rintro _ w5 ⟨rfl, r5, g5⟩; obtain ⟨u1, u2, u3, u4, u50⟩ := HU.out w5 r5 g5; have u5 := Lib.hid u50; clear u50 r5 g5))
    refine hK.out _ _ trivial (fun hHeld => ?_)
    clear hK K
    refine wpAnyH_ready (rs := [5, 8]) (by kernel_rfl) (by simp) ?_
    refine AllReadyH.cons rfl (fun K hK => ?_) (AllReadyH.cons rfl (fun K hK => ?_) AllReadyH.nil)
    ·skip
     go_simp
     go_wp2_with (fail)
     refine hK.out _ _ trivial (fun hHeld => ?_)
     clear hK K
     refine tkr 8 fun K hK => ?_
     go_simp
     go_wp2_with (fail)
     refine hK.out _ _ trivial (fun hHeld => ?_)
     clear hK K
     refine tkr 9 fun K hK => ?_
     refine step_appU rfl (.tmp 25) (.tmp 28) rfl B h1.ca h1.cn h1.cc acc (by rfl) u3 (w5.heap.size + 1) (some ⟨w5.heap.size, 0, none⟩) 1 1 [(V : Int)] (by rfl) (NS.one w5 hvw rfl) (by have := HAL.out; simp; omega) u4 ?_; intro A6 n6 c6 w6 o6 b6 g6 hat; obtain ⟨f9, d9, w7, h2, hw7, HH⟩ := u5.out A6 n6 c6 w6 o6 g6 hat; have HW7 := Lib.hid hw7; have HHH := Lib.hid HH; clear hw7 HH o6 b6 g6 hat
     refine hK.out _ _ trivial (fun hHeld => ?_)
     clear hK K
     refine tkh 10 (h := ?_)
     try simp only [Act.put, q1, q2, q3, q4, q5, q6]
     refine tkh 11 (h := ?_)
     try simp only [Act.put, q1, q2, q3, q4, q5, q6]
     refine tkh 12 (h := ?_)
     try simp only [Act.put, q1, q2, q3, q4, q5, q6]
     refine tkr 13 fun K hK => ?_
     go_simp
     go_wp2_with (fail)
     refine hK.out _ _ trivial (fun hHeld => ?_)
     clear hK K
     refine wpAnyH_done (by kernel_rfl) ?_ _
     rw [HW7.out]
     obtain ⟨P7, r7, K7, b7, c7, R7⟩ := HHH.out
     refine HKK.out _ _ ?_
     go_roundg f
     case measure => omega
     case rel => exact ⟨h2, acc ++ [(V : Int)], t4, P7, r7, K7, b7, c7, R7, Lib.hid ⟨HT4.out, by have := HI.out.2.1; omega, HIN.out, .inr (by simp)⟩⟩
    ·skip
     go_simp
     go_wp2_with (fail)
     refine hK.out _ _ trivial (fun hHeld => ?_)
     clear hK K
     refine tkr 5 fun K hK => ?_
     go_simp
     go_wp2_with (fail)
     refine hK.out _ _ trivial (fun hHeld => ?_)
     clear hK K
     refine tkr 9 fun K hK => ?_
     refine step_appU rfl (.tmp 25) (.tmp 28) rfl B h1.ca h1.cn h1.cc acc (by rfl) u3 (w5.heap.size + 1) (some ⟨w5.heap.size, 0, none⟩) 1 1 [(V : Int)] (by rfl) (NS.one w5 hvw rfl) (by have := HAL.out; simp; omega) u4 ?_; intro A6 n6 c6 w6 o6 b6 g6 hat; obtain ⟨f9, d9, w7, h2, hw7, HH⟩ := u5.out A6 n6 c6 w6 o6 g6 hat; have HW7 := Lib.hid hw7; have HHH := Lib.hid HH; clear hw7 HH o6 b6 g6 hat
     refine hK.out _ _ trivial (fun hHeld => ?_)
     clear hK K
     refine tkh 10 (h := ?_)
     try simp only [Act.put, q1, q2, q3, q4, q5, q6]
     refine tkh 11 (h := ?_)
     try simp only [Act.put, q1, q2, q3, q4, q5, q6]
     refine tkh 12 (h := ?_)
     try simp only [Act.put, q1, q2, q3, q4, q5, q6]
     refine tkr 13 fun K hK => ?_
     go_simp
     go_wp2_with (fail)
     refine hK.out _ _ trivial (fun hHeld => ?_)
     clear hK K
     refine wpAnyH_done (by kernel_rfl) ?_ _
     rw [HW7.out]
     obtain ⟨P7, r7, K7, b7, c7, R7⟩ := HHH.out
     refine HKK.out _ _ ?_
     go_roundg f
     case measure => omega
     case rel => exact ⟨h2, acc ++ [(V : Int)], t4, P7, r7, K7, b7, c7, R7, Lib.hid ⟨HT4.out, by have := HI.out.2.1; omega, HIN.out, .inr (by simp)⟩⟩
theorem Ex.of {w : World} {B g : Nat} {gs : List Nat} {wide : Bool} {h : GH} {v : Gr} (P : GP w B g gs wide h v) {w' : World} (hz : w.heap.size ≤ w'.heap.size) : ∀ b, w.heap.size ≤ b → b < w'.heap.size → h.qt w' gs b := P.q.fresh hz
theorem RetG.err2 {w0 w1 : World} {B g q : Nat} {gs : List Nat} {wide : Bool} {h : GH} {S : Nat → Prop} {A : Option Addr} {n c : Nat} {l : List UInt8} {r : Except FtA Gr} {k : Int} {a b d : Value} (hB : Below B w0 w1) (hq : B ≤ q) (hq0 : w0.heap.size ≤ q) (hs : ∀ b, h.qt w0 [g] b → w1.heap[b]? = w0.heap[b]?) (hR : Blk w1 q 88 #[a, b, d]) (hl : BF w1 S A n l) (hS : ∀ b, S b → b < w1.heap.size ∧ b ∉ q :: gs) (hnc : n ≤ c) (hr : r = .error (k, l)) :
  RetG w0 B g gs wide h r (.returned (.agg #[.int .i64 3, .int .i64 k, .slice A n c])) (((w1.setCell ⟨q, 0, none⟩ (.int .i64 3)).setCell ⟨q, 1, none⟩ (.int .i64 k)).setCell ⟨q, 2, none⟩ (.slice A n c)) := by
 refine ⟨flt_below hB hq, fun b hb => ((flt_grown w1).block b (Nat.lt_of_lt_of_le hb.1 hB.size) (fun e => by injection e with e; have := hb.1; omega)).trans (hs b hb), ?_⟩
 rw [hr]
 refine ⟨A, n, c, rfl, hl.keep fun b hb => ⟨⟨Nat.lt_of_lt_of_le (hS b hb).1 (flt_grown w1).size, fun hm => (hS b hb).2 (List.mem_cons_of_mem _ hm)⟩, (flt_grown w1).block b (hS b hb).1 (fun e => (hS b hb).2 (by injection e with e; rw [e]; exact List.mem_cons_self ..))⟩, hnc⟩
set_option maxHeartbeats 16000000 in
set_option maxRecDepth 100000 in
theorem attKnw (B g : Nat) (gs : List Nat) (h : GH) (v : Gr) (wide : Bool) (fl kind : Int) (A : Option Addr) (n c : Nat) (all : List UInt8) (A' : Option Addr) (n' c' : Nat) (val : List UInt8) (w : World) (P : GP w B g gs wide h v) (hall : BF w (h.qt w gs) A n all) (hnc : n ≤ c) (hval : BF w (h.qt w gs) A' n' val) (hnc' : n' ≤ c') (hn' : n' ≤ 100000) (h8 : kind = 8 → n' % 4 = 0 ∧ h.cb = none ∧ v.a.comms = []) :
  Calls Tryz.prog 152 #[.pointer (some ⟨g, 0, none⟩), .agg #[.int .i64 fl, .int .i64 kind, .slice A n c, .slice A' n' c']] w (RetG w B g gs wide h (knwA wide v ⟨fl, kind, all, val⟩)) := by
 obtain ⟨W, hW, hX, hR, b0⟩ := boxes2 w #[.int .i64 fl, .int .i64 kind, .slice A n c, .slice A' n' c'] #[.int .i64 0, .int .i64 0, .slice none 0 0] 222 88
 obtain ⟨q, hq⟩ : ∃ q, w.heap.size = q := ⟨_, rfl⟩
 obtain ⟨Bz, hBz⟩ : ∃ x, q + 1 = x := ⟨_, rfl⟩
 rw [hq] at hX hR
 rw [hBz] at hR
 obtain ⟨res, hres⟩ : ∃ r, knwA wide v ⟨fl, kind, all, val⟩ = r := ⟨_, rfl⟩
 rw [hres]
 have hXl := hX.lt
 have hRl := hR.lt
 have hgq : g < q := by rw [← hq]; exact P.q.hi
 have hgm := P.q.mem
 have hqz : q < Bz := by omega
 have PW := P.add b0 (q := Bz) (by omega) hRl
 have KW : Kp w W (h.qt w gs) (h.qt W (Bz :: gs)) := GQ.kadd h b0 (by omega)
 have KG : Kp w W (h.qt w [g]) (h.qt W [Bz, g]) := GQ.kadd h b0 (by omega)
 have hwz : w.heap.size ≤ Bz := by omega
 have hallW := hall.keep KW
 have hvalW := hval.keep KW
 have bB := b0.mono P.lo
 have hBq : B ≤ Bz := by have := P.lo; omega
 have hvl : val.length ≤ 140737488355320 := by rw [← hval.1]; omega
 have HVL := Lib.hid hval.1
 have HRES := Lib.hid hres
 have H8 := Lib.hid h8
 have x3 := hX.cell 3
 clear hall hval hres h8
 go_enter Tryz.func152, Tryz.ntmps152
 go_upto_region 1 with fail
 try rw [hW]
 try rw [hq]
 try rw [hBz]
 clear hW hBz hq
 go_wp2_with fail
 refine (rbNew A' n' c' val W hvalW.bsq (by omega)).mono ?_
 rintro _ w1 ⟨g1, rfl, hg, r1, b1⟩
 have P1 := PW.add b1 (q := g1) hg r1.lt
 have K1 : Kp w w1 (h.qt w [g]) (h.qt w1 [g1, Bz, g]) := KG.trans (GQ.kadd h b1 hg)
 have hall1 := hallW.keep (GQ.kadd h b1 hg)
 have hval1 := hvalW.keep (GQ.kadd h b1 hg)
 have b01 := btr bB b1 (PW.lo)
 have hgg : g ≠ g1 := by omega
 have hzg : Bz ≠ g1 := by omega
 have hqg : q ≠ g1 := by omega
 have hgz : g ≠ Bz := by omega
 have hgq' : g ≠ q := by omega
 have hgm1 : g ∈ Bz :: gs := List.mem_cons_of_mem _ hgm
 have hgm2 : g ∈ g1 :: Bz :: gs := List.mem_cons_of_mem _ hgm1
 have hzm : Bz ∈ g1 :: Bz :: gs := List.mem_cons_of_mem _ (List.mem_cons_self ..)
 have hm1 : g1 ∈ g1 :: Bz :: gs := List.mem_cons_self ..
 have R1 := hR.below b1 hRl
 have X1 := hX.below b1 hXl
 obtain ⟨cs1, hrb1⟩ := r1.blk
 obtain ⟨Bd, hBd⟩ : ∃ x, w1.heap.size = x := ⟨_, rfl⟩
 have hg1B : B ≤ g1 := by have := PW.lo; omega
 rw [hBd] at r1
 have HBd := Lib.hid hBd
 have y1 := X1.cell 1
 clear hBd x3 hX hR PW KW KG hallW hvalW bB b0 b1 P hg
 go_upto_region 3 with fail
 clear y1
 by_cases k1 : kind = 1
 case pos =>
  have t1 : (kind == 1) = true := by simpa using k1
  have HK1 := Lib.hid k1
  clear k1
  obtain ⟨V, t2, s2, E1⟩ : ∃ v1 l1 s1, numL (tkOut val false (1 : Nat)) = v1 ∧ tkLeft val false (1 : Nat) = l1 ∧ tkShort val false (1 : Nat) = s1 := ⟨_, _, _, rfl, rfl, rfl⟩
  have HF := Lib.hid (show numF 1 val = (V : Int) by unfold numF; rw [E1.1])
  have HU := Lib.hid (show ∀ w', RB Bd w' g1 val false → Calls Tryz.prog 175 #[.pointer (some ⟨g1, 0, none⟩)] w' fun en w'' => en = .returned (.int .i64 (V : Nat)) ∧ RB Bd w'' g1 t2 s2 ∧ w'.grownBy w'' (some g1) from fun w' h => by have := rbByte g1 val false w' h hvl; rw [E1.1, E1.2.1, E1.2.2] at this; exact this)
  have HVB := Lib.hid (show V < 4294967296 by rw [← E1.1]; have := tkOut_num val false 1; omega)
  clear E1
  go_wp2_with fail
  refine (HU.out _ r1).mono ?_
  rintro _ w2 ⟨rfl, r2, g2⟩
  have P2 := P1.at_ hrb1 hm1 hgg (by decide) (by decide) (by decide) g2
  have K2 := K1.trans (GQ.kat h (List.mem_cons_self ..) g2)
  have b02 := b01.grown g2 P1.lo (fun k hk => by injection hk with hk; subst hk; exact hg1B)
  have hall2 := hall1.keep (GQ.kat h hm1 g2)
  have R2 := R1.grown g2 (by intro e; injection e with e; exact hzg e)
  have X2 := X1.grown g2 (by intro e; injection e with e; exact hqg e)
  have fX := P2.blk.frozen 0
  have kX := P2.blk.cell 0
  clear HU g2 r2
  obtain ⟨P3, K3, b3⟩ := GP.store (i := 0) (u := .int .i64 (V : Int)) (v' := { v with a := { v.a with origin := (V : Int) } }) P2 rfl rfl rfl rfl rfl rfl rfl
  have K03 := K2.trans (K3 _ (by simp))
  have b03 := b02.trans b3
  have hall3 := hall2.keep (K3 _ hgm2)
  have R3 := R2.far (p := ⟨g, 0, none⟩) (by show Bz ≠ g; exact fun e => hgz e.symm) (.int .i64 (V : Int))
  have X3 := X2.far (p := ⟨g, 0, none⟩) (by show q ≠ g; exact fun e => hgq' e.symm) (.int .i64 (V : Int))
  obtain ⟨w3, hw3⟩ : ∃ x, w2.setCell ⟨g, 0, none⟩ (.int .i64 (V : Int)) = x := ⟨_, rfl⟩
  rw [hw3] at P3 K03 b03 hall3 R3 X3
  clear P2 K2 b02 hall2 R2 X2 K3 b3 P1 K1 b01 hall1 R1 X1 r1
  go_upto_region 5 with fail
  try rw [hw3]
  clear hw3 fX kX
  have k0 : w3.cell? ⟨g, 0, none⟩ = some (.int .i64 (V : Int)) := P3.blk.cell 0
  have k2 := X3.cell 2
  by_cases c : 2 < V
  case pos =>
   have u1 : decide ((2 : Int) < (V : Int)) = true := decide_eq_true (by omega)
   have u2 : decide (2 < V) = true := decide_eq_true c
   have HE := Lib.hid (show res = .error (6, all) by rw [← HRES.out]; unfold knwA; simp only; rw [if_pos HK1.out, HF.out, if_pos (by omega)])
   clear c
   go_wp2_with fail
   refine (attFault 6 A n c w3).mono ?_
   rintro _ w4 ⟨rfl, b4⟩
   have R4 := R3.below b4 R3.lt
   have fe0 := R4.cell 0
   have ff0 := R4.frozen 0
   have fe1 := R4.cell 1
   have ff1 := R4.frozen 1
   have fe2 := R4.cell 2
   have ff2 := R4.frozen 2
   go_wp2_with fail
   exact bodyPost_ret (fltA_ret rfl _ _ Bz _ _ _ rfl (flt_store R4)) rfl (RetG.err (btr b03 b4 P3.lo) hBq hwz (fun b hb => (b4.block b (K03 b hb).1.1).trans (K03 b hb).2) R4 ((hall3.keep (GQ.kcall h b4)).keep (GQ.kdrop _ h)) hnc HE.out)
  have u1 : decide ((2 : Int) < (V : Int)) = false := decide_eq_false (by omega)
  have u2 : decide (2 < V) = false := decide_eq_false c
  have HE := Lib.hid (show res = .ok { v with a := { v.a with origin := (V : Int) } } by rw [← HRES.out]; unfold knwA; simp only; rw [if_pos HK1.out, HF.out, if_neg (by omega)])
  clear c
  have fe0 := R3.cell 0
  have ff0 := R3.frozen 0
  have fe1 := R3.cell 1
  have ff1 := R3.frozen 1
  have fe2 := R3.cell 2
  have ff2 := R3.frozen 2
  go_wp2_with fail
  exact bodyPost_ret (fltA_ret rfl _ _ Bz _ _ _ rfl (flt_store R3)) rfl (RetG.fin b03 hBq R3 (P3.drop hgm1) hgm hgz (K03.trans (GQ.kdrop _ _)) (.inl rfl) HE.out)
 have t1 : (kind == 1) = false := by simpa using k1
 have HK1 := Lib.hid k1
 clear k1
 by_cases k2 : kind = 2
 case pos =>
  have t2 : (kind == 2) = true := by simpa using k2
  have HK2 := Lib.hid k2
  clear k2
  obtain ⟨rr, hrr⟩ : ∃ r, readA wide val = r := ⟨_, rfl⟩
  have HAS := Lib.hid (show ∀ w', BS w' w'.heap.size A' n' val → Calls Tryz.prog 203 #[.slice A' n' c', .bool wide] w' (RetRd w' rr) from fun w' hb => by rw [← hrr]; exact aspRead A' n' c' val wide w' hb (by omega))
  have HRR := Lib.hid hrr
  clear hrr
  have Pd := P1.call ((Below.refl w1.heap.size w1).drew)
  have Kd := K1.trans (GQ.kcall h ((Below.refl w1.heap.size w1).drew))
  have bd : Below B w w1.drew := btr b01 ((Below.refl w1.heap.size w1).drew) P1.lo
  have Rd := R1.below ((Below.refl w1.heap.size w1).drew) R1.lt
  have Xd := X1.below ((Below.refl w1.heap.size w1).drew) X1.lt
  have hald := hall1.keep (GQ.kcall h ((Below.refl w1.heap.size w1).drew))
  have hvad := hval1.keep (GQ.kcall h ((Below.refl w1.heap.size w1).drew))
  go_upto_region 8 with fail
  rename_i hkk
  have HKK := Lib.hid hkk
  clear hkk
  obtain ⟨wd, hwd⟩ : ∃ x, w1.drew = x := ⟨_, rfl⟩
  rw [hwd] at Pd Kd bd Rd Xd hald hvad
  have HWD := Lib.hid hwd
  clear hwd P1 K1 b01 R1 X1 hall1 hval1 r1 hrb1
  have d3 : wd.cell? ⟨q, 3, none⟩ = some (.slice A' n' c') := Xd.cell 3
  have d16 : wd.cell? ⟨g, 16, none⟩ = some (.bool wide) := Pd.blk.cell 16
  have hvb := hvad.bsq
  have HCALL := Lib.hid (HAS.out wd hvb)
  have HB1 := Lib.hid (show ∀ w5, Below wd.heap.size wd w5 → w5.cell? ⟨q, 3, none⟩ = some (.slice A' n' c') ∧ w5.cell? ⟨g, 16, none⟩ = some (.bool wide) from fun w5 b5 => ⟨(Xd.below b5 Xd.lt).cell 3, (Pd.blk.below b5 Pd.blk.lt).cell 16⟩)
  cases rr
  case none =>
   have HE := Lib.hid (show res = .error (11, []) by rw [← HRES.out]; unfold knwA; simp only; rw [if_neg HK1.out, if_pos HK2.out, HRR.out])
   refine wp_region_held_drew (S := (fun w' => w'.cell? ⟨q, 3, none⟩ = some (.slice A' n' c') ∧ w'.cell? ⟨g, 16, none⟩ = some (.bool wide))) (by kernel_rfl) ?_ (fun hHeld => ?_)
   ·rw [HWD.out]; exact ⟨d3, d16⟩
   rw [HWD.out]
   rw [HWD.out] at hHeld
   refine tkh 0 (h := ?_)
   try simp only [Act.put, q1, q2, q3, q4, q5, q6]
   refine tkh 1 (h := ?_)
   try simp only [Act.put, q1, q2, q3, q4, q5, q6]
   refine tkh 2 (h := ?_)
   try simp only [Act.put, q1, q2, q3, q4, q5, q6]
   refine tkh 3 (h := ?_)
   try simp only [Act.put, q1, q2, q3, q4, q5, q6]
   refine tkh 4 (h := ?_)
   try simp only [Act.put, q1, q2, q3, q4, q5, q6]
   refine tkh 5 (h := ?_)
   try simp only [Act.put, q1, q2, q3, q4, q5, q6]
   refine tkr 6 fun K hK => ?_
   go_simp
   go_wp2_with ((go_at_call 203; refine HCALL.out.mono ?_; rintro _ w5 ⟨b5, rfl⟩; have hs5 := HB1.out w5 b5))
   refine hK.out _ _ ?_ (fun hHeld => ?_)
   ·try dsimp only
    exact hs5
   clear hK K
   refine tkh 7 (h := ?_)
   try simp only [Act.put, q1, q2, q3, q4, q5, q6]
   refine tkh 8 (h := ?_)
   try simp only [Act.put, q1, q2, q3, q4, q5, q6]
   refine tkh 9 (h := ?_)
   try simp only [Act.put, q1, q2, q3, q4, q5, q6]
   refine tkr 10 fun K hK => ?_
   go_simp
   go_wp2_with (fail)
   refine hK.out _ _ ?_ (fun hHeld => ?_)
   ·try dsimp only
    exact hs5
   clear hK K
   refine tkr 11 fun K hK => ?_
   go_simp
   go_wp2_with (fail)
   refine hK.out _ _ ?_ (fun hHeld => ?_)
   ·try dsimp only
    exact hs5
   clear hK K
   refine wpAnyH_done (by kernel_rfl) ?_ _
   refine HKK.out _ _ ?_
   have P5 := Pd.call b5
   have K5 := Kd.trans (GQ.kcall h b5)
   have R5 := Rd.below b5 Rd.lt
   have b05 := btr bd b5 Pd.lo
   clear hs5 hHeld d3 d16
   go_wp2_with fail
   refine (attFault 11 none 0 0 w5).mono ?_
   rintro _ w6 ⟨rfl, b6⟩
   have R6 := R5.below b6 R5.lt
   have fe0 := R6.cell 0
   have ff0 := R6.frozen 0
   have fe1 := R6.cell 1
   have ff1 := R6.frozen 1
   have fe2 := R6.cell 2
   have ff2 := R6.frozen 2
   go_wp2_with fail
   exact bodyPost_ret (fltA_ret rfl _ _ Bz _ _ _ rfl (flt_store R6)) rfl (RetG.err (h' := h) (btr b05 b6 P5.lo) hBq hwz (fun b hb => (b6.block b (K5 b hb).1.1).trans (K5 b hb).2) R6 ⟨rfl, Rw.none_⟩ (Nat.le_refl _) HE.out)
  case some l =>
   have HE := Lib.hid (show res = .ok { v with a := { v.a with path := l } } by rw [← HRES.out]; unfold knwA; simp only; rw [if_neg HK1.out, if_pos HK2.out, HRR.out])
   refine wp_region_held_drew (S := (fun w' => w'.cell? ⟨q, 3, none⟩ = some (.slice A' n' c') ∧ w'.cell? ⟨g, 16, none⟩ = some (.bool wide))) (by kernel_rfl) ?_ (fun hHeld => ?_)
   ·rw [HWD.out]; exact ⟨d3, d16⟩
   rw [HWD.out]
   rw [HWD.out] at hHeld
   refine tkh 0 (h := ?_)
   try simp only [Act.put, q1, q2, q3, q4, q5, q6]
   refine tkh 1 (h := ?_)
   try simp only [Act.put, q1, q2, q3, q4, q5, q6]
   refine tkh 2 (h := ?_)
   try simp only [Act.put, q1, q2, q3, q4, q5, q6]
   refine tkh 3 (h := ?_)
   try simp only [Act.put, q1, q2, q3, q4, q5, q6]
   refine tkh 4 (h := ?_)
   try simp only [Act.put, q1, q2, q3, q4, q5, q6]
   refine tkh 5 (h := ?_)
   try simp only [Act.put, q1, q2, q3, q4, q5, q6]
   refine tkr 6 fun K hK => ?_
   go_simp
   go_wp2_with ((go_at_call 203; refine HCALL.out.mono ?_; rintro _ w5 ⟨b5, A5, n5, c5, L5, rfl, o5, hL5⟩; have hs5 := HB1.out w5 b5))
   refine hK.out _ _ ?_ (fun hHeld => ?_)
   ·try dsimp only
    exact hs5
   clear hK K
   refine tkh 7 (h := ?_)
   try simp only [Act.put, q1, q2, q3, q4, q5, q6]
   refine tkh 8 (h := ?_)
   try simp only [Act.put, q1, q2, q3, q4, q5, q6]
   refine tkh 9 (h := ?_)
   try simp only [Act.put, q1, q2, q3, q4, q5, q6]
   refine tkr 10 fun K hK => ?_
   go_simp
   go_wp2_with (fail)
   refine hK.out _ _ ?_ (fun hHeld => ?_)
   ·try dsimp only
    exact hs5
   clear hK K
   refine tkr 11 fun K hK => ?_
   go_simp
   go_wp2_with (fail)
   refine hK.out _ _ ?_ (fun hHeld => ?_)
   ·try dsimp only
    exact hs5
   clear hK K
   refine wpAnyH_done (by kernel_rfl) ?_ _
   refine HKK.out _ _ ?_
   have P5 := Pd.call b5
   have K5 := Kd.trans (GQ.kcall h b5)
   have R5 := Rd.below b5 Rd.lt
   have b05 := btr bd b5 Pd.lo
   have hf5 := Pd.q.fresh b5.size
   have hdl := o5.dlF (S := h.qt w5 (g1 :: Bz :: gs)) hf5
   rw [hL5] at hdl
   have Q5 := P5.q.setPath (A := A5) (n := n5) (c := c5) hdl
   have f1 := P5.blk.frozen 1
   have k1 := P5.blk.cell 1
   obtain ⟨P6, K6, b6⟩ := GP.head (i := 1) (u := .slice A5 n5 c5) (h' := { h with pa := A5, pn := n5, pc := c5 }) (v' := { v with a := { v.a with path := l } }) P5.blk Q5 rfl
   have R6 := R5.far (p := ⟨g, 1, none⟩) (by show Bz ≠ g; exact fun e => hgz e.symm) (.slice A5 n5 c5)
   have K06 : Kp w _ (h.qt w [g]) (GH.qt { h with pa := A5, pn := n5, pc := c5 } _ [g1, Bz, g]) := K5.trans (K6 _ (by simp))
   have b06 := b05.trans b6
   obtain ⟨w6, hw6⟩ : ∃ x, w5.setCell ⟨g, 1, none⟩ (.slice A5 n5 c5) = x := ⟨_, rfl⟩
   rw [hw6] at P6 K06 b06 R6
   clear hs5 hHeld d3 d16 P5 K5 R5 b05 hf5 hdl Q5 K6 b6 o5 hL5 hvb hald hvad Pd Kd bd Rd Xd
   go_upto_region 31 with fail
   try rw [hw6]
   clear hw6 f1 k1
   have fe0 := R6.cell 0
   have ff0 := R6.frozen 0
   have fe1 := R6.cell 1
   have ff1 := R6.frozen 1
   have fe2 := R6.cell 2
   have ff2 := R6.frozen 2
   go_wp2_with fail
   exact bodyPost_ret (fltA_ret rfl _ _ Bz _ _ _ rfl (flt_store R6)) rfl (RetG.fin b06 hBq R6 (P6.drop hgm1) hgm hgz (K06.trans (GQ.kdrop _ _)) (.inl rfl) HE.out)
 have t2 : (kind == 2) = false := by simpa using k2
 have HK2 := Lib.hid k2
 clear k2
 by_cases k3 : kind = 3
 case pos =>
  have t3 : (kind == 3) = true := by simpa using k3
  have HK3 := Lib.hid k3
  clear k3
  obtain ⟨V, t2, s2, E1⟩ : ∃ v1 l1 s1, numL (tkOut val false (4 : Nat)) = v1 ∧ tkLeft val false (4 : Nat) = l1 ∧ tkShort val false (4 : Nat) = s1 := ⟨_, _, _, rfl, rfl, rfl⟩
  have HF := Lib.hid (show numF 4 val = (V : Int) by unfold numF; rw [E1.1])
  have HU := Lib.hid (show ∀ w', RB Bd w' g1 val false → Calls Tryz.prog 176 #[.pointer (some ⟨g1, 0, none⟩)] w' fun en w'' => en = .returned (.int .u32 (V : Nat)) ∧ RB Bd w'' g1 t2 s2 ∧ w'.grownBy w'' (some g1) from fun w' h => by have := rbU32 g1 val false w' h hvl; rw [E1.1, E1.2.1, E1.2.2] at this; exact this)
  have HVB := Lib.hid (show V < 4294967296 by rw [← E1.1]; have := tkOut_num val false 4; omega)
  clear E1
  go_wp2_with fail
  refine (HU.out _ r1).mono ?_
  rintro _ w2 ⟨rfl, r2, g2⟩
  have P2 := P1.at_ hrb1 hm1 hgg (by decide) (by decide) (by decide) g2
  have K2 := K1.trans (GQ.kat h (List.mem_cons_self ..) g2)
  have b02 := b01.grown g2 P1.lo (fun k hk => by injection hk with hk; subst hk; exact hg1B)
  have hall2 := hall1.keep (GQ.kat h hm1 g2)
  have R2 := R1.grown g2 (by intro e; injection e with e; exact hzg e)
  have X2 := X1.grown g2 (by intro e; injection e with e; exact hqg e)
  have fX := P2.blk.frozen 2
  have kX := P2.blk.cell 2
  clear HU g2 r2
  obtain ⟨P3, K3, b3⟩ := GP.store (i := 2) (u := .int .u32 (V : Int)) (v' := { v with a := { v.a with next := (V : Int) } }) P2 rfl rfl rfl rfl rfl rfl rfl
  have K03 := K2.trans (K3 _ (by simp))
  have b03 := b02.trans b3
  have hall3 := hall2.keep (K3 _ hgm2)
  have R3 := R2.far (p := ⟨g, 2, none⟩) (by show Bz ≠ g; exact fun e => hgz e.symm) (.int .u32 (V : Int))
  have X3 := X2.far (p := ⟨g, 2, none⟩) (by show q ≠ g; exact fun e => hgq' e.symm) (.int .u32 (V : Int))
  obtain ⟨w3, hw3⟩ : ∃ x, w2.setCell ⟨g, 2, none⟩ (.int .u32 (V : Int)) = x := ⟨_, rfl⟩
  rw [hw3] at P3 K03 b03 hall3 R3 X3
  clear P2 K2 b02 hall2 R2 X2 K3 b3 P1 K1 b01 hall1 R1 X1 r1
  obtain ⟨nb, hnb⟩ : ∃ b, nextA (V : Int) = b := ⟨_, rfl⟩
  have HNX := Lib.hid (show Calls Tryz.prog 204 #[.int .u32 (V : Int)] w3 fun en w' => en = .returned (.bool nb) ∧ w3 = w' by rw [← hnb]; exact attNext (V : Int) w3 (by omega) (by have := HVB.out; omega))
  have HNB := Lib.hid hnb
  clear hnb
  go_upto_region 14 with fail
  try rw [hw3]
  clear hw3 fX kX
  have k0 : w3.cell? ⟨g, 2, none⟩ = some (.int .u32 (V : Int)) := P3.blk.cell 2
  have k2 := X3.cell 2
  go_wp2_with fail
  refine HNX.out.mono ?_
  rintro _ _ ⟨rfl, rfl⟩
  cases nb
  case false =>
   have HE := Lib.hid (show res = .error (8, all) by rw [← HRES.out]; unfold knwA; simp only; rw [if_neg HK1.out, if_neg HK2.out, if_pos HK3.out, HF.out, HNB.out, if_neg (by decide)])
   go_wp2_with fail
   refine (attFault 8 A n c w3).mono ?_
   rintro _ w4 ⟨rfl, b4⟩
   have R4 := R3.below b4 R3.lt
   have fe0 := R4.cell 0
   have ff0 := R4.frozen 0
   have fe1 := R4.cell 1
   have ff1 := R4.frozen 1
   have fe2 := R4.cell 2
   have ff2 := R4.frozen 2
   go_wp2_with fail
   exact bodyPost_ret (fltA_ret rfl _ _ Bz _ _ _ rfl (flt_store R4)) rfl (RetG.err (btr b03 b4 P3.lo) hBq hwz (fun b hb => (b4.block b (K03 b hb).1.1).trans (K03 b hb).2) R4 ((hall3.keep (GQ.kcall h b4)).keep (GQ.kdrop _ h)) hnc HE.out)
  have HE := Lib.hid (show res = .ok { v with a := { v.a with next := (V : Int) } } by rw [← HRES.out]; unfold knwA; simp only; rw [if_neg HK1.out, if_neg HK2.out, if_pos HK3.out, HF.out, HNB.out, if_pos rfl])
  have fe0 := R3.cell 0
  have ff0 := R3.frozen 0
  have fe1 := R3.cell 1
  have ff1 := R3.frozen 1
  have fe2 := R3.cell 2
  have ff2 := R3.frozen 2
  go_wp2_with fail
  exact bodyPost_ret (fltA_ret rfl _ _ Bz _ _ _ rfl (flt_store R3)) rfl (RetG.fin b03 hBq R3 (P3.drop hgm1) hgm hgz (K03.trans (GQ.kdrop _ _)) (.inl rfl) HE.out)
 have t3 : (kind == 3) = false := by simpa using k3
 have HK3 := Lib.hid k3
 clear k3
 by_cases k4 : kind = 4
 case pos =>
  have t4 : (kind == 4) = true := by simpa using k4
  have HK4 := Lib.hid k4
  clear k4
  obtain ⟨V, t2, s2, E1⟩ : ∃ v1 l1 s1, numL (tkOut val false (4 : Nat)) = v1 ∧ tkLeft val false (4 : Nat) = l1 ∧ tkShort val false (4 : Nat) = s1 := ⟨_, _, _, rfl, rfl, rfl⟩
  have HF := Lib.hid (show numF 4 val = (V : Int) by unfold numF; rw [E1.1])
  have HU := Lib.hid (show ∀ w', RB Bd w' g1 val false → Calls Tryz.prog 176 #[.pointer (some ⟨g1, 0, none⟩)] w' fun en w'' => en = .returned (.int .u32 (V : Nat)) ∧ RB Bd w'' g1 t2 s2 ∧ w'.grownBy w'' (some g1) from fun w' h => by have := rbU32 g1 val false w' h hvl; rw [E1.1, E1.2.1, E1.2.2] at this; exact this)
  have HVB := Lib.hid (show V < 4294967296 by rw [← E1.1]; have := tkOut_num val false 4; omega)
  clear E1
  have wV : IntKind.i64.wrap (V : Int) = (V : Int) := IntWalk.i64_in _ ⟨by omega, by have := HVB.out; omega⟩
  go_wp2_with fail
  refine (HU.out _ r1).mono ?_
  rintro _ w2 ⟨rfl, r2, g2⟩
  have P2 := P1.at_ hrb1 hm1 hgg (by decide) (by decide) (by decide) g2
  have K2 := K1.trans (GQ.kat h (List.mem_cons_self ..) g2)
  have b02 := b01.grown g2 P1.lo (fun k hk => by injection hk with hk; subst hk; exact hg1B)
  have hall2 := hall1.keep (GQ.kat h hm1 g2)
  have R2 := R1.grown g2 (by intro e; injection e with e; exact hzg e)
  have X2 := X1.grown g2 (by intro e; injection e with e; exact hqg e)
  have fX := P2.blk.frozen 3
  have kX := P2.blk.cell 3
  clear HU g2 r2
  obtain ⟨P3, K3, b3⟩ := GP.store (i := 3) (u := .int .i64 (V : Int)) (v' := { v with a := { v.a with med := (V : Int) } }) P2 rfl rfl rfl rfl rfl rfl rfl
  have K03 := K2.trans (K3 _ (by simp))
  have b03 := b02.trans b3
  have hall3 := hall2.keep (K3 _ hgm2)
  have R3 := R2.far (p := ⟨g, 3, none⟩) (by show Bz ≠ g; exact fun e => hgz e.symm) (.int .i64 (V : Int))
  have X3 := X2.far (p := ⟨g, 3, none⟩) (by show q ≠ g; exact fun e => hgq' e.symm) (.int .i64 (V : Int))
  obtain ⟨w3, hw3⟩ : ∃ x, w2.setCell ⟨g, 3, none⟩ (.int .i64 (V : Int)) = x := ⟨_, rfl⟩
  rw [hw3] at P3 K03 b03 hall3 R3 X3
  clear P2 K2 b02 hall2 R2 X2 K3 b3 P1 K1 b01 hall1 R1 X1 r1
  go_upto_region 31 with fail
  try rw [hw3]
  clear hw3 fX kX
  have HE := Lib.hid (show res = .ok { v with a := { v.a with med := (V : Int) } } by rw [← HRES.out]; unfold knwA; simp only; rw [if_neg HK1.out, if_neg HK2.out, if_neg HK3.out, if_pos HK4.out, HF.out])
  have fe0 := R3.cell 0
  have ff0 := R3.frozen 0
  have fe1 := R3.cell 1
  have ff1 := R3.frozen 1
  have fe2 := R3.cell 2
  have ff2 := R3.frozen 2
  go_wp2_with fail
  exact bodyPost_ret (fltA_ret rfl _ _ Bz _ _ _ rfl (flt_store R3)) rfl (RetG.fin b03 hBq R3 (P3.drop hgm1) hgm hgz (K03.trans (GQ.kdrop _ _)) (.inl rfl) HE.out)
 have t4 : (kind == 4) = false := by simpa using k4
 have HK4 := Lib.hid k4
 clear k4
 by_cases k5 : kind = 5
 case pos =>
  have t5 : (kind == 5) = true := by simpa using k5
  have HK5 := Lib.hid k5
  clear k5
  obtain ⟨V, t2, s2, E1⟩ : ∃ v1 l1 s1, numL (tkOut val false (4 : Nat)) = v1 ∧ tkLeft val false (4 : Nat) = l1 ∧ tkShort val false (4 : Nat) = s1 := ⟨_, _, _, rfl, rfl, rfl⟩
  have HF := Lib.hid (show numF 4 val = (V : Int) by unfold numF; rw [E1.1])
  have HU := Lib.hid (show ∀ w', RB Bd w' g1 val false → Calls Tryz.prog 176 #[.pointer (some ⟨g1, 0, none⟩)] w' fun en w'' => en = .returned (.int .u32 (V : Nat)) ∧ RB Bd w'' g1 t2 s2 ∧ w'.grownBy w'' (some g1) from fun w' h => by have := rbU32 g1 val false w' h hvl; rw [E1.1, E1.2.1, E1.2.2] at this; exact this)
  have HVB := Lib.hid (show V < 4294967296 by rw [← E1.1]; have := tkOut_num val false 4; omega)
  clear E1
  have wV : IntKind.i64.wrap (V : Int) = (V : Int) := IntWalk.i64_in _ ⟨by omega, by have := HVB.out; omega⟩
  go_wp2_with fail
  refine (HU.out _ r1).mono ?_
  rintro _ w2 ⟨rfl, r2, g2⟩
  have P2 := P1.at_ hrb1 hm1 hgg (by decide) (by decide) (by decide) g2
  have K2 := K1.trans (GQ.kat h (List.mem_cons_self ..) g2)
  have b02 := b01.grown g2 P1.lo (fun k hk => by injection hk with hk; subst hk; exact hg1B)
  have hall2 := hall1.keep (GQ.kat h hm1 g2)
  have R2 := R1.grown g2 (by intro e; injection e with e; exact hzg e)
  have X2 := X1.grown g2 (by intro e; injection e with e; exact hqg e)
  have fX := P2.blk.frozen 4
  have kX := P2.blk.cell 4
  clear HU g2 r2
  obtain ⟨P3, K3, b3⟩ := GP.store (i := 4) (u := .int .i64 (V : Int)) (v' := { v with a := { v.a with pref := (V : Int) } }) P2 rfl rfl rfl rfl rfl rfl rfl
  have K03 := K2.trans (K3 _ (by simp))
  have b03 := b02.trans b3
  have hall3 := hall2.keep (K3 _ hgm2)
  have R3 := R2.far (p := ⟨g, 4, none⟩) (by show Bz ≠ g; exact fun e => hgz e.symm) (.int .i64 (V : Int))
  have X3 := X2.far (p := ⟨g, 4, none⟩) (by show q ≠ g; exact fun e => hgq' e.symm) (.int .i64 (V : Int))
  obtain ⟨w3, hw3⟩ : ∃ x, w2.setCell ⟨g, 4, none⟩ (.int .i64 (V : Int)) = x := ⟨_, rfl⟩
  rw [hw3] at P3 K03 b03 hall3 R3 X3
  clear P2 K2 b02 hall2 R2 X2 K3 b3 P1 K1 b01 hall1 R1 X1 r1
  go_upto_region 31 with fail
  try rw [hw3]
  clear hw3 fX kX
  have HE := Lib.hid (show res = .ok { v with a := { v.a with pref := (V : Int) } } by rw [← HRES.out]; unfold knwA; simp only; rw [if_neg HK1.out, if_neg HK2.out, if_neg HK3.out, if_neg HK4.out, if_pos HK5.out, HF.out])
  have fe0 := R3.cell 0
  have ff0 := R3.frozen 0
  have fe1 := R3.cell 1
  have ff1 := R3.frozen 1
  have fe2 := R3.cell 2
  have ff2 := R3.frozen 2
  go_wp2_with fail
  exact bodyPost_ret (fltA_ret rfl _ _ Bz _ _ _ rfl (flt_store R3)) rfl (RetG.fin b03 hBq R3 (P3.drop hgm1) hgm hgz (K03.trans (GQ.kdrop _ _)) (.inl rfl) HE.out)
 have t5 : (kind == 5) = false := by simpa using k5
 have HK5 := Lib.hid k5
 clear k5
 by_cases k6 : kind = 6
 case pos =>
  have t6 : (kind == 6) = true := by simpa using k6
  have HK6 := Lib.hid k6
  clear k6
  have fX := P1.blk.frozen 5
  have kX := P1.blk.cell 5
  obtain ⟨P3, K3, b3⟩ := GP.head (i := 5) (u := .bool true) (h' := h) (v' := { v with a := { v.a with atomic := true } }) P1.blk P1.q rfl
  have K03 : Kp w _ (h.qt w [g]) (GH.qt h _ [g1, Bz, g]) := K1.trans (K3 _ (by simp))
  have b03 := b01.trans b3
  have R3 := R1.far (p := ⟨g, 5, none⟩) (by show Bz ≠ g; exact fun e => hgz e.symm) (.bool true)
  obtain ⟨w3, hw3⟩ : ∃ x, w1.setCell ⟨g, 5, none⟩ (.bool true) = x := ⟨_, rfl⟩
  rw [hw3] at P3 K03 b03 R3
  go_upto_region 31 with fail
  try rw [hw3]
  clear hw3 fX kX K3 b3 P1 K1 b01 hall1 R1 X1 r1
  have HE := Lib.hid (show res = .ok { v with a := { v.a with atomic := true } } by rw [← HRES.out]; unfold knwA; simp only; rw [if_neg HK1.out, if_neg HK2.out, if_neg HK3.out, if_neg HK4.out, if_neg HK5.out, if_pos HK6.out])
  have fe0 := R3.cell 0
  have ff0 := R3.frozen 0
  have fe1 := R3.cell 1
  have ff1 := R3.frozen 1
  have fe2 := R3.cell 2
  have ff2 := R3.frozen 2
  go_wp2_with fail
  exact bodyPost_ret (fltA_ret rfl _ _ Bz _ _ _ rfl (flt_store R3)) rfl (RetG.fin b03 hBq R3 (P3.drop hgm1) hgm hgz (K03.trans (GQ.kdrop _ _)) (.inl rfl) HE.out)
 have t6 : (kind == 6) = false := by simpa using k6
 have HK6 := Lib.hid k6
 clear k6
 by_cases k7 : kind = 7
 case pos =>
  have t7 : (kind == 7) = true := by simpa using k7
  have HK7 := Lib.hid k7
  clear k7
  have HE := Lib.hid (show res = .ok { v with a := { v.a with aggrAS := numF (szA wide) val, hasAggr := true, aggrAddr := numSec (szA wide) val }, hasOld := true, oldAS := numF (szA wide) val } by rw [← HRES.out]; unfold knwA; simp only; rw [if_neg HK1.out, if_neg HK2.out, if_neg HK3.out, if_neg HK4.out, if_neg HK5.out, if_neg HK6.out, if_pos HK7.out])
  have k0 := X1.cell 0
  have k1 := X1.cell 1
  have k2 := X1.cell 2
  have k3 := X1.cell 3
  have HAG := Lib.hid (attAggr B g (g1 :: Bz :: gs) h v wide fl kind A n c A' n' c' val w1 P1 hval1 hn')
  go_wp2_with fail
  refine HAG.out.mono ?_
  rintro _ w2 ⟨rfl, b2, P2, K2⟩
  have R2 : Blk w2 Bz 88 #[.int .i64 0, .int .i64 0, .slice none 0 0] := (K2 Bz (P1.q.side hzm (fun e => hgz e.symm))).2.trans R1
  have K02 : Kp w w2 (h.qt w [g]) (h.qt w2 [g1, Bz, g]) := K1.trans (K2.wide (gs := [g1, Bz, g]) (by simp))
  have b02 := b01.trans b2
  clear k0 k1 k2 k3 HAG X1 R1 P1 K1 b01 hall1 hval1 K2 b2 r1 hrb1
  have fe0 := R2.cell 0
  have ff0 := R2.frozen 0
  have fe1 := R2.cell 1
  have ff1 := R2.frozen 1
  have fe2 := R2.cell 2
  have ff2 := R2.frozen 2
  go_wp2_with fail
  exact bodyPost_ret (fltA_ret rfl _ _ Bz _ _ _ rfl (flt_store R2)) rfl (RetG.fin b02 hBq R2 (P2.drop hgm1) hgm hgz (K02.trans (GQ.kdrop _ _)) (.inl rfl) HE.out)
 have t7 : (kind == 7) = false := by simpa using k7
 have HK7 := Lib.hid k7
 clear k7
 by_cases k8 : kind = 8
 case pos =>
  have t8 : (kind == 8) = true := by simpa using k8
  have HK8 := Lib.hid k8
  clear k8
  have k0 := X1.cell 0
  have k1 := X1.cell 1
  have k2 := X1.cell 2
  have k3 := X1.cell 3
  have KS : ∀ b, h.qt w [g] b → h.qt w1 [g] b := fun b hb => ⟨(K1 b hb).1.1, fun e => (K1 b hb).1.2.1 (by rw [List.mem_singleton.1 e]; simp), (K1 b hb).1.2.2⟩
  obtain ⟨r8, hr8⟩ : ∃ r, (if 32 < val.length / 4 then Except.error (9, all) else .ok { v with a := { v.a with comms := v.a.comms ++ commsA val } } : Except FtA Gr) = r := ⟨_, rfl⟩
  have HLI := Lib.hid (show Calls Tryz.prog 206 #[.pointer (some ⟨g, 0, none⟩), .agg #[.int .i64 fl, .int .i64 kind, .slice A n c, .slice A' n' c']] w1 (RetG w1 B g (g1 :: Bz :: gs) wide h r8) by rw [← hr8]; exact attList B g (g1 :: Bz :: gs) h v wide fl kind A n c all A' n' c' val w1 P1 hall1 hnc hval1 hn' (H8.out HK8.out).1 (H8.out HK8.out).2.1 (H8.out HK8.out).2.2)
  have HR8 := Lib.hid hr8
  clear hr8
  have side := P1.q.side hzm (fun e => hgz e.symm)
  go_wp2_with fail
  refine HLI.out.mono ?_
  rintro e2 w2 ⟨b2, s2, hm⟩
  have R2 : Blk w2 Bz 88 #[.int .i64 0, .int .i64 0, .slice none 0 0] := (s2 Bz side).trans R1
  have b02 := b01.trans b2
  have HS2 := Lib.hid (fun b hb => (s2 b (KS b hb)).trans (K1 b hb).2)
  clear k0 k1 k2 k3 HLI s2 side
  by_cases c : 32 < val.length / 4
  case pos =>
   have e8 : r8 = .error (9, all) := by rw [← HR8.out, if_pos c]
   rw [e8] at hm
   obtain ⟨A9, n9, c9, rfl, hbf, hn9⟩ := hm
   have HE := Lib.hid (show res = .error (9, all) by rw [← HRES.out]; unfold knwA; simp only; rw [if_neg HK1.out, if_neg HK2.out, if_neg HK3.out, if_neg HK4.out, if_neg HK5.out, if_neg HK6.out, if_neg HK7.out, if_pos HK8.out, if_pos c])
   have HFL : ∀ a b d : Value, Blk w2 Bz 88 #[a, b, d] → RetG w B g gs wide h res (.returned (.agg #[.int .i64 3, .int .i64 9, .slice A9 n9 c9])) (((w2.setCell ⟨Bz, 0, none⟩ (.int .i64 3)).setCell ⟨Bz, 1, none⟩ (.int .i64 9)).setCell ⟨Bz, 2, none⟩ (.slice A9 n9 c9)) := fun a b d hR => RetG.err2 b02 hBq hwz HS2.out hR hbf (fun b hb => ⟨hb.1, fun hm => hb.2 (List.mem_cons_of_mem _ hm)⟩) hn9 HE.out
   have HFL := Lib.hid (HFL _ _ _ R2)
   clear c e8 hbf b02 KS K1 P1 R1 X1 r1 hrb1 hall1 hval1 b01 b2
   have fe0 := R2.cell 0
   have ff0 := R2.frozen 0
   have fe1 := R2.cell 1
   have ff1 := R2.frozen 1
   have fe2 := R2.cell 2
   have ff2 := R2.frozen 2
   go_wp2_with fail
   exact bodyPost_ret (fltA_ret rfl _ _ Bz _ _ _ rfl (flt_store R2)) rfl HFL.out
  have e8 : r8 = .ok { v with a := { v.a with comms := v.a.comms ++ commsA val } } := by rw [← HR8.out, if_neg c]
  rw [e8] at hm
  obtain ⟨rfl, h2, P2, K2, hcb2⟩ := hm
  have HCB2 := Lib.hid hcb2
  clear hcb2
  have HE := Lib.hid (show res = .ok { v with a := { v.a with comms := v.a.comms ++ commsA val } } by rw [← HRES.out]; unfold knwA; simp only; rw [if_neg HK1.out, if_neg HK2.out, if_neg HK3.out, if_neg HK4.out, if_neg HK5.out, if_neg HK6.out, if_neg HK7.out, if_pos HK8.out, if_neg c])
  have K02 : Kp w w2 (h.qt w [g]) (h2.qt w2 [g1, Bz, g]) := K1.trans (fun b hb => by
   have h1 := K2 b ⟨hb.1, fun e => hb.2.1 (by rw [List.mem_singleton.1 e]; simp), hb.2.2⟩
   exact ⟨⟨h1.1.1, hb.2.1, h1.1.2.2⟩, h1.2⟩)
  clear c e8 KS K1 P1 R1 X1 r1 hrb1 hall1 hval1 b01 b2 K2 HS2
  have fe0 := R2.cell 0
  have ff0 := R2.frozen 0
  have fe1 := R2.cell 1
  have ff1 := R2.frozen 1
  have fe2 := R2.cell 2
  have ff2 := R2.frozen 2
  go_wp2_with fail
  exact bodyPost_ret (fltA_ret rfl _ _ Bz _ _ _ rfl (flt_store R2)) rfl (RetG.fin b02 hBq R2 (P2.drop hgm1) hgm hgz (K02.trans (GQ.kdrop _ _)) HCB2.out HE.out)
 have t8 : (kind == 8) = false := by simpa using k8
 have HK8 := Lib.hid k8
 clear k8
 by_cases k17 : kind = 17
 case pos =>
  have t17 : (kind == 17) = true := by simpa using k17
  have HK17 := Lib.hid k17
  clear k17
  obtain ⟨rr, hrr⟩ : ∃ r, readA true val = r := ⟨_, rfl⟩
  have HAS := Lib.hid (show Calls Tryz.prog 203 #[.slice A' n' c', .bool true] w1 (RetRd w1 rr) by rw [← hrr]; exact aspRead A' n' c' val true w1 hval1.bsq (by omega))
  have HRR := Lib.hid hrr
  clear hrr
  have k3 := X1.cell 3
  go_wp2_with fail
  refine HAS.out.mono ?_
  rintro _ w5 ⟨b5, hm⟩
  have P5 := P1.call b5
  have K5 := K1.trans (GQ.kcall h b5)
  have R5 := R1.below b5 R1.lt
  have b05 := btr b01 b5 P1.lo
  have hf5 := P1.q.fresh b5.size
  have fX := P5.blk.frozen 12
  have kX := P5.blk.cell 12
  clear k3 P1 K1 R1 b01 X1 r1 hrb1 hall1 hval1 HAS b5
  cases rr
  case none =>
   subst hm
   have hdl : DL rSeg 2 w5 (h.qt w5 (g1 :: Bz :: gs)) none 0 [] := DL.none_
   have HE := Lib.hid (show res = .ok { v with more := [] } by rw [← HRES.out]; unfold knwA; simp only; rw [if_neg HK1.out, if_neg HK2.out, if_neg HK3.out, if_neg HK4.out, if_neg HK5.out, if_neg HK6.out, if_neg HK7.out, if_neg HK8.out, if_pos HK17.out, HRR.out, Option.getD_none])
   have Q5 := P5.q.setMore (A := none) (n := 0) (c := 0) hdl
   obtain ⟨P6, K6, b6⟩ := GP.head (i := 12) (u := .slice none 0 0) (h' := { h with ma := none, mn := 0, mc := 0 }) (v' := { v with more := [] }) P5.blk Q5 rfl
   have R6 := R5.far (p := ⟨g, 12, none⟩) (by show Bz ≠ g; exact fun e => hgz e.symm) (.slice none 0 0)
   have K06 : Kp w _ (h.qt w [g]) (GH.qt { h with ma := none, mn := 0, mc := 0 } _ [g1, Bz, g]) := K5.trans (K6 _ (by simp))
   have b06 := b05.trans b6
   obtain ⟨w6, hw6⟩ : ∃ x, w5.setCell ⟨g, 12, none⟩ (.slice none 0 0) = x := ⟨_, rfl⟩
   rw [hw6] at P6 K06 b06 R6
   clear P5 K5 R5 b05 hf5 hdl Q5 K6 b6
   go_upto_region 31 with fail
   try rw [hw6]
   clear hw6 fX kX
   have fe0 := R6.cell 0
   have ff0 := R6.frozen 0
   have fe1 := R6.cell 1
   have ff1 := R6.frozen 1
   have fe2 := R6.cell 2
   have ff2 := R6.frozen 2
   go_wp2_with fail
   exact bodyPost_ret (fltA_ret rfl _ _ Bz _ _ _ rfl (flt_store R6)) rfl (RetG.fin b06 hBq R6 (P6.drop hgm1) hgm hgz (K06.trans (GQ.kdrop _ _)) (.inl rfl) HE.out)
  case some l =>
   obtain ⟨A5, n5, c5, L5, rfl, o5, hL5⟩ := hm
   have hdl := o5.dlF (S := h.qt w5 (g1 :: Bz :: gs)) hf5
   rw [hL5] at hdl
   have HE := Lib.hid (show res = .ok { v with more := l } by rw [← HRES.out]; unfold knwA; simp only; rw [if_neg HK1.out, if_neg HK2.out, if_neg HK3.out, if_neg HK4.out, if_neg HK5.out, if_neg HK6.out, if_neg HK7.out, if_neg HK8.out, if_pos HK17.out, HRR.out, Option.getD_some])
   have Q5 := P5.q.setMore (A := A5) (n := n5) (c := c5) hdl
   obtain ⟨P6, K6, b6⟩ := GP.head (i := 12) (u := .slice A5 n5 c5) (h' := { h with ma := A5, mn := n5, mc := c5 }) (v' := { v with more := l }) P5.blk Q5 rfl
   have R6 := R5.far (p := ⟨g, 12, none⟩) (by show Bz ≠ g; exact fun e => hgz e.symm) (.slice A5 n5 c5)
   have K06 : Kp w _ (h.qt w [g]) (GH.qt { h with ma := A5, mn := n5, mc := c5 } _ [g1, Bz, g]) := K5.trans (K6 _ (by simp))
   have b06 := b05.trans b6
   obtain ⟨w6, hw6⟩ : ∃ x, w5.setCell ⟨g, 12, none⟩ (.slice A5 n5 c5) = x := ⟨_, rfl⟩
   rw [hw6] at P6 K06 b06 R6
   clear P5 K5 R5 b05 hf5 hdl Q5 K6 b6
   go_upto_region 31 with fail
   try rw [hw6]
   clear hw6 fX kX
   have fe0 := R6.cell 0
   have ff0 := R6.frozen 0
   have fe1 := R6.cell 1
   have ff1 := R6.frozen 1
   have fe2 := R6.cell 2
   have ff2 := R6.frozen 2
   go_wp2_with fail
   exact bodyPost_ret (fltA_ret rfl _ _ Bz _ _ _ rfl (flt_store R6)) rfl (RetG.fin b06 hBq R6 (P6.drop hgm1) hgm hgz (K06.trans (GQ.kdrop _ _)) (.inl rfl) HE.out)
 have t17 : (kind == 17) = false := by simpa using k17
 have HK17 := Lib.hid k17
 clear k17
 by_cases k18 : kind = 18
 case pos =>
  have t18 : (kind == 18) = true := by simpa using k18
  have HK18 := Lib.hid k18
  clear k18
  have k3 := X1.cell 3
  by_cases c : n' = 8
  case pos =>
   have u1 : ((n' : Int) == 8) = true := by simp; omega
   have u2 : (n' == 8) = true := by simp; omega
   have HE := Lib.hid (show res = .ok { v with newAS := val } by rw [← HRES.out]; unfold knwA; simp only; rw [if_neg HK1.out, if_neg HK2.out, if_neg HK3.out, if_neg HK4.out, if_neg HK5.out, if_neg HK6.out, if_neg HK7.out, if_neg HK8.out, if_neg HK17.out, if_pos HK18.out, if_pos (show val.length = 8 by rw [← HVL.out]; exact c)])
   clear c
   have fX := P1.blk.frozen 15
   have kX := P1.blk.cell 15
   obtain ⟨P3, K3, b3⟩ := GP.head (i := 15) (u := .slice A' n' c') (h' := { h with na := A', nn := n', nc := c' }) (v' := { v with newAS := val }) P1.blk (P1.q.setNews hval1 hnc') rfl
   have K03 : Kp w _ (h.qt w [g]) (GH.qt { h with na := A', nn := n', nc := c' } _ [g1, Bz, g]) := K1.trans (K3 _ (by simp))
   have b03 := b01.trans b3
   have R3 := R1.far (p := ⟨g, 15, none⟩) (by show Bz ≠ g; exact fun e => hgz e.symm) (.slice A' n' c')
   obtain ⟨w3, hw3⟩ : ∃ x, w1.setCell ⟨g, 15, none⟩ (.slice A' n' c') = x := ⟨_, rfl⟩
   rw [hw3] at P3 K03 b03 R3
   go_upto_region 31 with fail
   try rw [hw3]
   clear hw3 fX kX K3 b3 P1 K1 b01 hall1 R1 X1 r1
   have fe0 := R3.cell 0
   have ff0 := R3.frozen 0
   have fe1 := R3.cell 1
   have ff1 := R3.frozen 1
   have fe2 := R3.cell 2
   have ff2 := R3.frozen 2
   go_wp2_with fail
   exact bodyPost_ret (fltA_ret rfl _ _ Bz _ _ _ rfl (flt_store R3)) rfl (RetG.fin b03 hBq R3 (P3.drop hgm1) hgm hgz (K03.trans (GQ.kdrop _ _)) (.inl rfl) HE.out)
  have u1 : ((n' : Int) == 8) = false := by simp; omega
  have u2 : (n' == 8) = false := by simp; omega
  have HE := Lib.hid (show res = .ok v by rw [← HRES.out]; unfold knwA; simp only; rw [if_neg HK1.out, if_neg HK2.out, if_neg HK3.out, if_neg HK4.out, if_neg HK5.out, if_neg HK6.out, if_neg HK7.out, if_neg HK8.out, if_neg HK17.out, if_pos HK18.out, if_neg (show ¬ val.length = 8 by rw [← HVL.out]; exact c)])
  clear c
  go_upto_region 31 with fail
  clear k3 X1
  have fe0 := R1.cell 0
  have ff0 := R1.frozen 0
  have fe1 := R1.cell 1
  have ff1 := R1.frozen 1
  have fe2 := R1.cell 2
  have ff2 := R1.frozen 2
  go_wp2_with fail
  exact bodyPost_ret (fltA_ret rfl _ _ Bz _ _ _ rfl (flt_store R1)) rfl (RetG.fin b01 hBq R1 (P1.drop hgm1) hgm hgz (K1.trans (GQ.kdrop _ _)) (.inl rfl) HE.out)
 have t18 : (kind == 18) = false := by simpa using k18
 have HK18 := Lib.hid k18
 clear k18
 have HE := Lib.hid (show res = .ok v by rw [← HRES.out]; unfold knwA; simp only; rw [if_neg HK1.out, if_neg HK2.out, if_neg HK3.out, if_neg HK4.out, if_neg HK5.out, if_neg HK6.out, if_neg HK7.out, if_neg HK8.out, if_neg HK17.out, if_neg HK18.out])
 go_upto_region 31 with fail
 clear X1
 have fe0 := R1.cell 0
 have ff0 := R1.frozen 0
 have fe1 := R1.cell 1
 have ff1 := R1.frozen 1
 have fe2 := R1.cell 2
 have ff2 := R1.frozen 2
 go_wp2_with fail
 exact bodyPost_ret (fltA_ret rfl _ _ Bz _ _ _ rfl (flt_store R1)) rfl (RetG.fin b01 hBq R1 (P1.drop hgm1) hgm hgz (K1.trans (GQ.kdrop _ _)) (.inl rfl) HE.out)
/-- Sizes of a reading on its way. -/
structure BdX (v : Gr) : Prop where
 path : rightA v.a.path = true ∨ v.a.path = []
 more : rightA v.more = true ∨ v.more = []
 raws : v.a.raws.length ≤ 8
 data : ∀ x ∈ v.a.raws, x.2.2.length ≤ 64
 comms : v.a.comms.length ≤ 32
 c8 : hasN v.kinds 8 = false → v.a.comms = []
 news : v.newAS.length ≤ 8
theorem readA_right {wide : Bool} {l : List UInt8} {M : List Seg} (h : readA wide l = some M) : rightA M = true := by
 unfold readA at h
 split at h
 ·split at h
  ·injection h with h; rw [← h]; assumption
  ·cases h
 ·cases h
theorem numsO_len (sz : Nat) : ∀ (n : Nat) (l : List UInt8) (p : List Int × List UInt8), numsO sz n l = some p → p.1.length = n
 | 0, l, p, h => by
  rw [numsO] at h
  injection h with h
  rw [← h]
  rfl
 | n + 1, l, p, h => by
  rw [numsO] at h
  split at h
  ·cases h
  ·obtain ⟨q, hq, rfl⟩ := Option.map_eq_some_iff.1 h
   have := numsO_len sz n _ q hq
   simp [this]
theorem commsA_len (l : List UInt8) : (commsA l).length ≤ l.length / 4 := by
 unfold commsA
 split
 ·rename_i p hp
  exact Nat.le_of_eq (numsO_len _ _ _ _ hp)
 ·simp
theorem rawPos_le' (l : List RawV) (k : Int) : rawPos l k ≤ l.length := rawPos_le l k
theorem insR_len (l : List RawV) (x : One) : (insR l x).length = l.length + 1 := by
 have := rawPos_le' l x.kind
 unfold insR
 simp
 omega
theorem BdX.g {v : Gr} (D : BdX v) (hk : 1 ≤ v.kinds.length) : BdG v := ⟨D.path, D.more, D.raws, by have := D.comms; omega, D.data⟩
theorem hasN_app {l : List Int} {k c : Int} : hasN (l ++ [k]) c = (hasN l c || decide (c = k)) := by
 unfold hasN
 by_cases h1 : c ∈ l <;> by_cases h2 : c = k <;> simp [h1, h2]
theorem BdX.push {v : Gr} (D : BdX v) (k : Int) : BdX { v with kinds := v.kinds ++ [k] } := ⟨D.path, D.more, D.raws, D.data, D.comms, fun h => D.c8 (by simp only at h; rw [hasN_app] at h; exact (Bool.or_eq_false_iff.1 h).1), D.news⟩
theorem unkA_bd {v v' : Gr} {x : One} (D : BdX v) (h : unkA v x = .ok v') : BdX v' ∧ v'.kinds = v.kinds := by
 unfold unkA at h
 by_cases c1 : optF x.fl = false
 ·rw [if_pos c1] at h; cases h
 rw [if_neg c1] at h
 by_cases c2 : trF x.fl = false
 ·rw [if_pos c2] at h; cases h; exact ⟨D, rfl⟩
 rw [if_neg c2] at h
 by_cases c3 : 64 < x.val.length ∨ 8 ≤ v.a.raws.length
 ·rw [if_pos c3] at h; cases h
 rw [if_neg c3] at h
 cases h
 refine ⟨⟨D.path, D.more, ?_, ?_, D.comms, D.c8, D.news⟩, rfl⟩
 ·simp only
  rw [insR_len]
  omega
 ·simp only
  intro y hy
  unfold insR at hy
  simp only [List.mem_append, List.mem_singleton] at hy
  rcases hy with (hy | rfl) | hy
  ·exact D.data y (List.mem_of_mem_take hy)
  ·simp only; omega
  ·exact D.data y (List.mem_of_mem_drop hy)
theorem knwA_bd {wide : Bool} {v v' : Gr} {x : One} (D : BdX v) (h8 : x.kind = 8 → hasN v.kinds 8 = true ∧ v.a.comms = []) (h : knwA wide v x = .ok v') : BdX v' := by
 unfold knwA at h
 by_cases c1 : x.kind = 1
 ·rw [if_pos c1] at h
  by_cases c : 2 < numF 1 x.val
  ·rw [if_pos c] at h; cases h
  ·rw [if_neg c] at h; cases h; exact ⟨D.path, D.more, D.raws, D.data, D.comms, D.c8, D.news⟩
 rw [if_neg c1] at h
 by_cases c2 : x.kind = 2
 ·rw [if_pos c2] at h
  cases hr : readA wide x.val with
  | none => rw [hr] at h; cases h
  | some l => rw [hr] at h; cases h; exact ⟨.inl (readA_right hr), D.more, D.raws, D.data, D.comms, D.c8, D.news⟩
 rw [if_neg c2] at h
 by_cases c3 : x.kind = 3
 ·rw [if_pos c3] at h
  by_cases c : nextA (numF 4 x.val) = true
  ·rw [if_pos c] at h; cases h; exact ⟨D.path, D.more, D.raws, D.data, D.comms, D.c8, D.news⟩
  ·rw [if_neg c] at h; cases h
 rw [if_neg c3] at h
 by_cases c4 : x.kind = 4
 ·rw [if_pos c4] at h; cases h; exact ⟨D.path, D.more, D.raws, D.data, D.comms, D.c8, D.news⟩
 rw [if_neg c4] at h
 by_cases c5 : x.kind = 5
 ·rw [if_pos c5] at h; cases h; exact ⟨D.path, D.more, D.raws, D.data, D.comms, D.c8, D.news⟩
 rw [if_neg c5] at h
 by_cases c6 : x.kind = 6
 ·rw [if_pos c6] at h; cases h; exact ⟨D.path, D.more, D.raws, D.data, D.comms, D.c8, D.news⟩
 rw [if_neg c6] at h
 by_cases c7 : x.kind = 7
 ·rw [if_pos c7] at h; cases h; exact ⟨D.path, D.more, D.raws, D.data, D.comms, D.c8, D.news⟩
 rw [if_neg c7] at h
 by_cases c8 : x.kind = 8
 ·rw [if_pos c8] at h
  by_cases c : 32 < x.val.length / 4
  ·rw [if_pos c] at h; cases h
  ·rw [if_neg c] at h
   cases h
   obtain ⟨h1, h2⟩ := h8 c8
   refine ⟨D.path, D.more, D.raws, D.data, ?_, fun h => ?_, D.news⟩
   ·simp only
    rw [h2, List.nil_append]
    have := commsA_len x.val
    omega
   ·simp only at h
    rw [h1] at h
    cases h
 rw [if_neg c8] at h
 by_cases c9 : x.kind = 17
 ·rw [if_pos c9] at h
  cases h
  refine ⟨D.path, ?_, D.raws, D.data, D.comms, D.c8, D.news⟩
  simp only
  cases hr : readA true x.val with
  | none => exact .inr rfl
  | some l => exact .inl (readA_right hr)
 rw [if_neg c9] at h
 by_cases c10 : x.kind = 18
 ·rw [if_pos c10] at h
  by_cases c : x.val.length = 8
  ·rw [if_pos c] at h; cases h; exact ⟨D.path, D.more, D.raws, D.data, D.comms, D.c8, by simp only; omega⟩
  ·rw [if_neg c] at h; cases h; exact D
 rw [if_neg c10] at h
 cases h
 exact D
/-- What a reading comes to. -/
def finA (wide : Bool) : Except FtA Gr → Except FtA (At × List Int)
 | .error e => .error e
 | .ok g => .ok (endA wide g, g.kinds)
theorem readAt_fin (b : List UInt8) (wide : Bool) : readAt b wide = finA wide (loopA wide b.length zeroGr b) := by
 unfold readAt finA
 split <;> simp_all
theorem loopA_step {wide : Bool} {f : Nat} {v : Gr} {t : List UInt8} (ht : t ≠ []) : loopA wide (f + 1) v t = match splitA t with
  | none => .error (1, [])
  | some (x, t') => match stepA wide v x with
   | .error e => .error e
   | .ok g' => loopA wide f g' t' := by
 cases t with
 | nil => exact absurd rfl ht
 | cons a r => rfl
theorem loopA_nil {wide : Bool} {f : Nat} {v : Gr} : loopA wide f v [] = .ok v := by cases f <;> rfl
theorem zero_bd : BdX zeroGr := ⟨.inr rfl, .inr rfl, by decide, (fun x h => by cases h), by decide, fun _ => rfl, by decide⟩
theorem sum_of {l : List Seg} (h : rightA l = true ∨ l = []) : sumN l ≤ 64 ∧ l.length ≤ 8 := by
 rcases h with h | rfl
 ·exact (rightA_of h).2
 ·exact ⟨by decide, by decide⟩
theorem mergeA_right {l m : List Seg} (h : rightA l = true ∨ l = []) : rightA (mergeA l m) = true ∨ mergeA l m = [] := by
 by_cases hc : m = [] ∨ rightA l = false ∨ rightA m = false ∨ countA l < countA m
 ·rw [mergeA_no hc]; exact h
 ·rw [mergeA_yes hc]
  split
  ·left; assumption
  ·exact h
end Go.Proofs.YthgjknmfghjioaaGreatDoor
