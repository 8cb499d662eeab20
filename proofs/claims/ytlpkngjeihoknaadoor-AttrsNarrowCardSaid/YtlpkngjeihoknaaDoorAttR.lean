/- Walks of layer 4 (attributes): an attribute that is known. No conditions but sizes. -/
import Derived.Test.YtlpkngjeihoknaaDoorProg
import Derived.WalkKit
import Derived.WalkSpells
import Derived.WalkLawsBesides
import Derived.Outline
import Derived.Deep.QuietTactic
import Derived.BigQuiet
import Derived.Handy
import Derived.Lib.Hide
import Derived.Laws.Cover4
import Derived.OrdersHeld
import Derived.Deep.RegionHeld
import Derived.Deep.DeepCutAuto
import Derived.Deep.CutBlock
import Derived.Test.YtlpkngjeihoknaaDoorAttQ
namespace Go.Proofs.YtlpkngjeihoknaaDoor
open Go.RowKit
set_option linter.unusedSimpArgs false
set_option linter.unusedVariables false
theorem num_lt4 (l : List UInt8) (s : Bool) {V : Nat} (h : numL (tkOut l s (4 : Nat)) = V) : V < 4294967296 := by rw [← h]; have := tkOut_num l s 4; omega
theorem Ex.of {w : World} {B g : Nat} {gs : List Nat} {wide : Bool} {h : GH} {v : Gr} (P : GP w B g gs wide h v) {w' : World} (hz : w.heap.size ≤ w'.heap.size) : ∀ b, w.heap.size ≤ b → b < w'.heap.size → h.qt w' gs b := P.q.fresh hz
theorem RetG.err2 {w0 w1 : World} {B g q : Nat} {gs : List Nat} {wide : Bool} {h : GH} {S : Nat → Prop} {A : Option Addr} {n c : Nat} {l : List UInt8} {r : Except FtA Gr} {k : Int} {a b d : Value} (hB : Below B w0 w1) (hq : B ≤ q) (hq0 : w0.heap.size ≤ q) (hs : ∀ b, h.qt w0 [g] b → w1.heap[b]? = w0.heap[b]?) (hR : Blk w1 q 69 #[a, b, d]) (hl : BF w1 S A n l) (hS : ∀ b, S b → b < w1.heap.size ∧ b ∉ q :: gs) (hnc : n ≤ c) (hr : r = .error (k, l)) :
    RetG w0 B g gs wide h r (.returned (.agg #[.int .i64 3, .int .i64 k, .slice A n c])) (((w1.setCell ⟨q, 0, none⟩ (.int .i64 3)).setCell ⟨q, 1, none⟩ (.int .i64 k)).setCell ⟨q, 2, none⟩ (.slice A n c)) := by
  refine ⟨flt_below hB hq, fun b hb => ((flt_grown w1).block b (Nat.lt_of_lt_of_le hb.1 hB.size) (fun e => by injection e with e; have := hb.1; omega)).trans (hs b hb), ?_⟩
  rw [hr]
  refine ⟨A, n, c, rfl, hl.keep fun b hb => ⟨⟨Nat.lt_of_lt_of_le (hS b hb).1 (flt_grown w1).size, fun hm => (hS b hb).2 (List.mem_cons_of_mem _ hm)⟩, (flt_grown w1).block b (hS b hb).1 (fun e => (hS b hb).2 (by injection e with e; rw [e]; exact List.mem_cons_self ..))⟩, hnc⟩
set_option maxHeartbeats 16000000 in
set_option maxRecDepth 100000 in
theorem attKnw (B g : Nat) (gs : List Nat) (h : GH) (v : Gr) (wide : Bool) (fl kind : Int) (A : Option Addr) (n c : Nat) (all : List UInt8) (A' : Option Addr) (n' c' : Nat) (val : List UInt8) (w : World) (P : GP w B g gs wide h v) (hall : BF w (h.qt w gs) A n all) (hnc : n ≤ c) (hval : BF w (h.qt w gs) A' n' val) (hnc' : n' ≤ c') (hn' : n' ≤ 100000) (h8 : kind = 8 → n' % 4 = 0 ∧ h.cb = none ∧ v.a.comms = []) :
    Calls Tryd.prog 105 #[.pointer (some ⟨g, 0, none⟩), .agg #[.int .i64 fl, .int .i64 kind, .slice A n c, .slice A' n' c']] w (RetG w B g gs wide h (knwA wide v ⟨fl, kind, all, val⟩)) := by
  obtain ⟨W, hW, hX, hR, b0⟩ := boxes2 w #[.int .i64 fl, .int .i64 kind, .slice A n c, .slice A' n' c'] #[.int .i64 0, .int .i64 0, .slice none 0 0] 117 69
  obtain ⟨q, hq⟩ : ∃ q, w.heap.size = q := ⟨_, rfl⟩
  obtain ⟨Bz, hBz⟩ : ∃ x, q + 1 = x := ⟨_, rfl⟩
  rw [hq] at hX hR
  rw [hBz] at hR
  obtain ⟨res, hres⟩ : ∃ r, knwA wide v ⟨fl, kind, all, val⟩ = r := ⟨_, rfl⟩
  rw [hres]
  have hXl := hX.lt
  have hRl := hR.lt
  have hgq : g < q := by rw [← hq]; exact P.q.hi
  have hgm := P.q.mem
  have hqz : q < Bz := by omega
  have PW := P.add b0 (q := Bz) (by omega) hRl
  have KW : Kp w W (h.qt w gs) (h.qt W (Bz :: gs)) := GQ.kadd h b0 (by omega)
  have KG : Kp w W (h.qt w [g]) (h.qt W [Bz, g]) := GQ.kadd h b0 (by omega)
  have hwz : w.heap.size ≤ Bz := by omega
  have hallW := hall.keep KW
  have hvalW := hval.keep KW
  have bB := b0.mono P.lo
  have hBq : B ≤ Bz := by have := P.lo; omega
  have hvl : val.length ≤ 140737488355320 := by rw [← hval.1]; omega
  have HVL := Lib.hid hval.1
  have HRES := Lib.hid hres
  have H8 := Lib.hid h8
  have x3 := hX.cell 3
  clear hall hval hres h8
  go_enter Tryd.func105, Tryd.ntmps105
  go_upto_region 1 with fail
  try rw [hW]
  try rw [hq]
  try rw [hBz]
  clear hW hBz hq
  go_wp2_with fail
  refine (rbNew A' n' c' val W hvalW.bsq (by omega)).mono ?_
  rintro _ w1 ⟨g1, rfl, hg, r1, b1⟩
  have P1 := PW.add b1 (q := g1) hg r1.lt
  have K1 : Kp w w1 (h.qt w [g]) (h.qt w1 [g1, Bz, g]) := KG.trans (GQ.kadd h b1 hg)
  have hall1 := hallW.keep (GQ.kadd h b1 hg)
  have hval1 := hvalW.keep (GQ.kadd h b1 hg)
  have b01 := btr bB b1 (PW.lo)
  have hgg : g ≠ g1 := by omega
  have hzg : Bz ≠ g1 := by omega
  have hqg : q ≠ g1 := by omega
  have hgz : g ≠ Bz := by omega
  have hgq' : g ≠ q := by omega
  have hgm1 : g ∈ Bz :: gs := List.mem_cons_of_mem _ hgm
  have hgm2 : g ∈ g1 :: Bz :: gs := List.mem_cons_of_mem _ hgm1
  have hzm : Bz ∈ g1 :: Bz :: gs := List.mem_cons_of_mem _ (List.mem_cons_self ..)
  have hm1 : g1 ∈ g1 :: Bz :: gs := List.mem_cons_self ..
  have R1 := hR.below b1 hRl
  have X1 := hX.below b1 hXl
  obtain ⟨cs1, hrb1⟩ := r1.blk
  obtain ⟨Bd, hBd⟩ : ∃ x, w1.heap.size = x := ⟨_, rfl⟩
  have hg1B : B ≤ g1 := by have := PW.lo; omega
  rw [hBd] at r1
  have HBd := Lib.hid hBd
  have y1 := X1.cell 1
  clear hBd x3 hX hR PW KW KG hallW hvalW bB b0 b1 P hg
  go_upto_region 3 with fail
  clear y1
  by_cases k1 : kind = 1
  case pos =>
    have t1 : (kind == 1) = true := by simpa using k1
    have HK1 := Lib.hid k1
    clear k1
    obtain ⟨V, t2, s2, E1⟩ : ∃ v1 l1 s1, numL (tkOut val false (1 : Nat)) = v1 ∧ tkLeft val false (1 : Nat) = l1 ∧ tkShort val false (1 : Nat) = s1 := ⟨_, _, _, rfl, rfl, rfl⟩
    have HF := Lib.hid (show numF 1 val = (V : Int) by unfold numF; rw [E1.1])
    have HU := Lib.hid (show ∀ w', RB Bd w' g1 val false → Calls Tryd.prog 80 #[.pointer (some ⟨g1, 0, none⟩)] w' fun en w'' => en = .returned (.int .i64 (V : Nat)) ∧ RB Bd w'' g1 t2 s2 ∧ w'.grownBy w'' (some g1) from fun w' h => by have := rbByte g1 val false w' h hvl; rw [E1.1, E1.2.1, E1.2.2] at this; exact this)
    have HVB := Lib.hid (show V < 4294967296 by rw [← E1.1]; have := tkOut_num val false 1; omega)
    clear E1
    go_wp2_with fail
    refine (HU.out _ r1).mono ?_
    rintro _ w2 ⟨rfl, r2, g2⟩
    have P2 := P1.at_ hrb1 hm1 hgg (by decide) (by decide) (by decide) g2
    have K2 := K1.trans (GQ.kat h (List.mem_cons_self ..) g2)
    have b02 := b01.grown g2 P1.lo (fun k hk => by injection hk with hk; subst hk; exact hg1B)
    have hall2 := hall1.keep (GQ.kat h hm1 g2)
    have R2 := R1.grown g2 (by intro e; injection e with e; exact hzg e)
    have X2 := X1.grown g2 (by intro e; injection e with e; exact hqg e)
    have fX := P2.blk.frozen 0
    have kX := P2.blk.cell 0
    clear HU g2 r2
    obtain ⟨P3, K3, b3⟩ := GP.store (i := 0) (u := .int .i64 (V : Int)) (v' := { v with a := { v.a with origin := (V : Int) } }) P2 rfl rfl rfl rfl rfl rfl rfl
    have K03 := K2.trans (K3 _ (by simp))
    have b03 := b02.trans b3
    have hall3 := hall2.keep (K3 _ hgm2)
    have R3 := R2.far (p := ⟨g, 0, none⟩) (by show Bz ≠ g; exact fun e => hgz e.symm) (.int .i64 (V : Int))
    have X3 := X2.far (p := ⟨g, 0, none⟩) (by show q ≠ g; exact fun e => hgq' e.symm) (.int .i64 (V : Int))
    obtain ⟨w3, hw3⟩ : ∃ x, w2.setCell ⟨g, 0, none⟩ (.int .i64 (V : Int)) = x := ⟨_, rfl⟩
    rw [hw3] at P3 K03 b03 hall3 R3 X3
    clear P2 K2 b02 hall2 R2 X2 K3 b3 P1 K1 b01 hall1 R1 X1 r1
    go_upto_region 5 with fail
    try rw [hw3]
    clear hw3 fX kX
    have k0 : w3.cell? ⟨g, 0, none⟩ = some (.int .i64 (V : Int)) := P3.blk.cell 0
    have k2 := X3.cell 2
    by_cases c : 2 < V
    case pos =>
      have u1 : decide ((2 : Int) < (V : Int)) = true := decide_eq_true (by omega)
      have u2 : decide (2 < V) = true := decide_eq_true c
      have HE := Lib.hid (show res = .error (6, all) by rw [← HRES.out]; unfold knwA; simp only; rw [if_pos HK1.out, HF.out, if_pos (by omega)])
      clear c
      go_wp2_with fail
      refine (attFault 6 A n c w3).mono ?_
      rintro _ w4 ⟨rfl, b4⟩
      have R4 := R3.below b4 R3.lt
      have fe0 := R4.cell 0
      have ff0 := R4.frozen 0
      have fe1 := R4.cell 1
      have ff1 := R4.frozen 1
      have fe2 := R4.cell 2
      have ff2 := R4.frozen 2
      go_wp2_with fail
      exact bodyPost_ret (fltA_ret rfl _ _ Bz _ _ _ rfl (flt_store R4)) rfl (RetG.err (btr b03 b4 P3.lo) hBq hwz (fun b hb => (b4.block b (K03 b hb).1.1).trans (K03 b hb).2) R4 ((hall3.keep (GQ.kcall h b4)).keep (GQ.kdrop _ h)) hnc HE.out)
    have u1 : decide ((2 : Int) < (V : Int)) = false := decide_eq_false (by omega)
    have u2 : decide (2 < V) = false := decide_eq_false c
    have HE := Lib.hid (show res = .ok { v with a := { v.a with origin := (V : Int) } } by rw [← HRES.out]; unfold knwA; simp only; rw [if_pos HK1.out, HF.out, if_neg (by omega)])
    clear c
    have fe0 := R3.cell 0
    have ff0 := R3.frozen 0
    have fe1 := R3.cell 1
    have ff1 := R3.frozen 1
    have fe2 := R3.cell 2
    have ff2 := R3.frozen 2
    go_wp2_with fail
    exact bodyPost_ret (fltA_ret rfl _ _ Bz _ _ _ rfl (flt_store R3)) rfl (RetG.fin b03 hBq R3 (P3.drop hgm1) hgm hgz (K03.trans (GQ.kdrop _ _)) (.inl rfl) HE.out)
  have t1 : (kind == 1) = false := by simpa using k1
  have HK1 := Lib.hid k1
  clear k1
  by_cases k2 : kind = 2
  case pos =>
    have t2 : (kind == 2) = true := by simpa using k2
    have HK2 := Lib.hid k2
    clear k2
    obtain ⟨rr, hrr⟩ : ∃ r, readA wide val = r := ⟨_, rfl⟩
    have HAS := Lib.hid (show ∀ w', BS w' w'.heap.size A' n' val → Calls Tryd.prog 41 #[.slice A' n' c', .bool wide] w' (RetRd w' rr) from fun w' hb => by rw [← hrr]; exact aspRead A' n' c' val wide w' hb (by omega))
    have HRR := Lib.hid hrr
    clear hrr
    have Pd := P1.call ((Below.refl w1.heap.size w1).drew)
    have Kd := K1.trans (GQ.kcall h ((Below.refl w1.heap.size w1).drew))
    have bd : Below B w w1.drew := btr b01 ((Below.refl w1.heap.size w1).drew) P1.lo
    have Rd := R1.below ((Below.refl w1.heap.size w1).drew) R1.lt
    have Xd := X1.below ((Below.refl w1.heap.size w1).drew) X1.lt
    have hald := hall1.keep (GQ.kcall h ((Below.refl w1.heap.size w1).drew))
    have hvad := hval1.keep (GQ.kcall h ((Below.refl w1.heap.size w1).drew))
    go_upto_region 8 with fail
    rename_i hkk
    have HKK := Lib.hid hkk
    clear hkk
    obtain ⟨wd, hwd⟩ : ∃ x, w1.drew = x := ⟨_, rfl⟩
    rw [hwd] at Pd Kd bd Rd Xd hald hvad
    have HWD := Lib.hid hwd
    clear hwd P1 K1 b01 R1 X1 hall1 hval1 r1 hrb1
    have d3 : wd.cell? ⟨q, 3, none⟩ = some (.slice A' n' c') := Xd.cell 3
    have d16 : wd.cell? ⟨g, 16, none⟩ = some (.bool wide) := Pd.blk.cell 16
    have hvb := hvad.bsq
    have HCALL := Lib.hid (HAS.out wd hvb)
    have HB1 := Lib.hid (show ∀ w5, Below wd.heap.size wd w5 → w5.cell? ⟨q, 3, none⟩ = some (.slice A' n' c') ∧ w5.cell? ⟨g, 16, none⟩ = some (.bool wide) from fun w5 b5 => ⟨(Xd.below b5 Xd.lt).cell 3, (Pd.blk.below b5 Pd.blk.lt).cell 16⟩)
    cases rr
    case none =>
      have HE := Lib.hid (show res = .error (11, []) by rw [← HRES.out]; unfold knwA; simp only; rw [if_neg HK1.out, if_pos HK2.out, HRR.out])
      refine wp_region_held_drew (S := (fun w' => w'.cell? ⟨q, 3, none⟩ = some (.slice A' n' c') ∧ w'.cell? ⟨g, 16, none⟩ = some (.bool wide))) (by kernel_rfl) ?_ (fun hHeld => ?_)
      · rw [HWD.out]; exact ⟨d3, d16⟩
      rw [HWD.out]
      rw [HWD.out] at hHeld
      refine wpAnyH_take (i := 0) (v := ?m1_v0) rfl (by kernel_rfl) (by kernel_rfl) (by kernel_rfl) (by intro _ _ _ h; exact h) (Or.inl ⟨by rfl, ?m1_hy0⟩) (by assumption) ?m1_rest0
      case m1_hy0 => (intro w hSw; (try dsimp only at hSw); go_simp; try with_reducible rfl)
      try simp only [Act.put, List.getElem_toArray, List.getElem_cons_succ, List.getElem_cons_zero, List.setIfInBounds_toArray, List.set_cons_zero, List.set_cons_succ]
      refine wpAnyH_take (i := 1) (v := ?m2_v1) rfl (by kernel_rfl) (by kernel_rfl) (by kernel_rfl) (by intro _ _ _ h; exact h) (Or.inl ⟨by rfl, ?m2_hy1⟩) (by assumption) ?m2_rest1
      case m2_hy1 => (intro w hSw; (try dsimp only at hSw); go_simp; try with_reducible rfl)
      try simp only [Act.put, List.getElem_toArray, List.getElem_cons_succ, List.getElem_cons_zero, List.setIfInBounds_toArray, List.set_cons_zero, List.set_cons_succ]
      refine wpAnyH_take (i := 2) (v := ?m3_v2) rfl (by kernel_rfl) (by kernel_rfl) (by kernel_rfl) (by intro _ _ _ h; exact h) (Or.inl ⟨by rfl, ?m3_hy2⟩) (by assumption) ?m3_rest2
      case m3_hy2 => (intro w hSw; (try dsimp only at hSw); go_simp; try with_reducible rfl)
      try simp only [Act.put, List.getElem_toArray, List.getElem_cons_succ, List.getElem_cons_zero, List.setIfInBounds_toArray, List.set_cons_zero, List.set_cons_succ]
      refine wpAnyH_take (i := 3) (v := ?m4_v3) rfl (by kernel_rfl) (by kernel_rfl) (by kernel_rfl) (by intro _ _ _ h; exact h) (Or.inl ⟨by rfl, ?m4_hy3⟩) (by assumption) ?m4_rest3
      case m4_hy3 => (intro w hSw; (try dsimp only at hSw); go_simp; try with_reducible rfl)
      try simp only [Act.put, List.getElem_toArray, List.getElem_cons_succ, List.getElem_cons_zero, List.setIfInBounds_toArray, List.set_cons_zero, List.set_cons_succ]
      refine wpAnyH_take (i := 4) (v := ?m5_v4) rfl (by kernel_rfl) (by kernel_rfl) (by kernel_rfl) (by intro _ _ _ h; exact h) (Or.inl ⟨by rfl, ?m5_hy4⟩) (by assumption) ?m5_rest4
      case m5_hy4 => (intro w hSw; (try dsimp only at hSw); go_simp; try with_reducible rfl)
      try simp only [Act.put, List.getElem_toArray, List.getElem_cons_succ, List.getElem_cons_zero, List.setIfInBounds_toArray, List.set_cons_zero, List.set_cons_succ]
      refine wpAnyH_take (i := 5) (v := ?m6_v5) rfl (by kernel_rfl) (by kernel_rfl) (by kernel_rfl) (by intro _ _ _ h; exact h) (Or.inl ⟨by rfl, ?m6_hy5⟩) (by assumption) ?m6_rest5
      case m6_hy5 => (intro w hSw; (try dsimp only at hSw); go_simp; try with_reducible rfl)
      try simp only [Act.put, List.getElem_toArray, List.getElem_cons_succ, List.getElem_cons_zero, List.setIfInBounds_toArray, List.set_cons_zero, List.set_cons_succ]
      refine wpAnyH_ready (rs := [6]) (by kernel_rfl) (by simp) ?_
      refine AllReadyH.cons rfl (fun K hK => ?_) AllReadyH.nil
      go_simp
      go_wp2_with ((go_at_call 41; refine HCALL.out.mono ?_; rintro _ w5 ⟨b5, rfl⟩; have hs5 := HB1.out w5 b5))
      refine hK.out _ _ ?_ (fun hHeld => ?_)
      · try dsimp only
        exact hs5
      clear hK K
      refine wpAnyH_take (i := 7) (v := ?m7_v7) rfl (by kernel_rfl) (by kernel_rfl) (by kernel_rfl) (by intro _ _ _ h; exact h) (Or.inl ⟨by rfl, ?m7_hy7⟩) (by assumption) ?m7_rest7
      case m7_hy7 => (intro w hSw; (try dsimp only at hSw); go_simp; try with_reducible rfl)
      try simp only [Act.put, List.getElem_toArray, List.getElem_cons_succ, List.getElem_cons_zero, List.setIfInBounds_toArray, List.set_cons_zero, List.set_cons_succ]
      refine wpAnyH_take (i := 8) (v := ?m8_v8) rfl (by kernel_rfl) (by kernel_rfl) (by kernel_rfl) (by intro _ _ _ h; exact h) (Or.inl ⟨by rfl, ?m8_hy8⟩) (by assumption) ?m8_rest8
      case m8_hy8 => (intro w hSw; (try dsimp only at hSw); go_simp; try with_reducible rfl)
      try simp only [Act.put, List.getElem_toArray, List.getElem_cons_succ, List.getElem_cons_zero, List.setIfInBounds_toArray, List.set_cons_zero, List.set_cons_succ]
      refine wpAnyH_take (i := 9) (v := ?m9_v9) rfl (by kernel_rfl) (by kernel_rfl) (by kernel_rfl) (by intro _ _ _ h; exact h) (Or.inl ⟨by rfl, ?m9_hy9⟩) (by assumption) ?m9_rest9
      case m9_hy9 => (intro w hSw; (try dsimp only at hSw); go_simp; try with_reducible rfl)
      try simp only [Act.put, List.getElem_toArray, List.getElem_cons_succ, List.getElem_cons_zero, List.setIfInBounds_toArray, List.set_cons_zero, List.set_cons_succ]
      refine wpAnyH_ready (rs := [10]) (by kernel_rfl) (by simp) ?_
      refine AllReadyH.cons rfl (fun K hK => ?_) AllReadyH.nil
      go_simp
      go_wp2_with (fail)
      refine hK.out _ _ ?_ (fun hHeld => ?_)
      · try dsimp only
        exact hs5
      clear hK K
      refine wpAnyH_ready (rs := [11]) (by kernel_rfl) (by simp) ?_
      refine AllReadyH.cons rfl (fun K hK => ?_) AllReadyH.nil
      go_simp
      go_wp2_with (fail)
      refine hK.out _ _ ?_ (fun hHeld => ?_)
      · try dsimp only
        exact hs5
      clear hK K
      refine wpAnyH_done (by kernel_rfl) ?_ _
      refine HKK.out _ _ ?_
      have P5 := Pd.call b5
      have K5 := Kd.trans (GQ.kcall h b5)
      have R5 := Rd.below b5 Rd.lt
      have b05 := btr bd b5 Pd.lo
      clear hs5 hHeld d3 d16
      go_wp2_with fail
      refine (attFault 11 none 0 0 w5).mono ?_
      rintro _ w6 ⟨rfl, b6⟩
      have R6 := R5.below b6 R5.lt
      have fe0 := R6.cell 0
      have ff0 := R6.frozen 0
      have fe1 := R6.cell 1
      have ff1 := R6.frozen 1
      have fe2 := R6.cell 2
      have ff2 := R6.frozen 2
      go_wp2_with fail
      exact bodyPost_ret (fltA_ret rfl _ _ Bz _ _ _ rfl (flt_store R6)) rfl (RetG.err (h' := h) (btr b05 b6 P5.lo) hBq hwz (fun b hb => (b6.block b (K5 b hb).1.1).trans (K5 b hb).2) R6 ⟨rfl, Rw.none_⟩ (Nat.le_refl _) HE.out)
    case some l =>
      have HE := Lib.hid (show res = .ok { v with a := { v.a with path := l } } by rw [← HRES.out]; unfold knwA; simp only; rw [if_neg HK1.out, if_pos HK2.out, HRR.out])
      refine wp_region_held_drew (S := (fun w' => w'.cell? ⟨q, 3, none⟩ = some (.slice A' n' c') ∧ w'.cell? ⟨g, 16, none⟩ = some (.bool wide))) (by kernel_rfl) ?_ (fun hHeld => ?_)
      · rw [HWD.out]; exact ⟨d3, d16⟩
      rw [HWD.out]
      rw [HWD.out] at hHeld
      refine wpAnyH_take (i := 0) (v := ?m10_v0) rfl (by kernel_rfl) (by kernel_rfl) (by kernel_rfl) (by intro _ _ _ h; exact h) (Or.inl ⟨by rfl, ?m10_hy0⟩) (by assumption) ?m10_rest0
      case m10_hy0 => (intro w hSw; (try dsimp only at hSw); go_simp; try with_reducible rfl)
      try simp only [Act.put, List.getElem_toArray, List.getElem_cons_succ, List.getElem_cons_zero, List.setIfInBounds_toArray, List.set_cons_zero, List.set_cons_succ]
      refine wpAnyH_take (i := 1) (v := ?m11_v1) rfl (by kernel_rfl) (by kernel_rfl) (by kernel_rfl) (by intro _ _ _ h; exact h) (Or.inl ⟨by rfl, ?m11_hy1⟩) (by assumption) ?m11_rest1
      case m11_hy1 => (intro w hSw; (try dsimp only at hSw); go_simp; try with_reducible rfl)
      try simp only [Act.put, List.getElem_toArray, List.getElem_cons_succ, List.getElem_cons_zero, List.setIfInBounds_toArray, List.set_cons_zero, List.set_cons_succ]
      refine wpAnyH_take (i := 2) (v := ?m12_v2) rfl (by kernel_rfl) (by kernel_rfl) (by kernel_rfl) (by intro _ _ _ h; exact h) (Or.inl ⟨by rfl, ?m12_hy2⟩) (by assumption) ?m12_rest2
      case m12_hy2 => (intro w hSw; (try dsimp only at hSw); go_simp; try with_reducible rfl)
      try simp only [Act.put, List.getElem_toArray, List.getElem_cons_succ, List.getElem_cons_zero, List.setIfInBounds_toArray, List.set_cons_zero, List.set_cons_succ]
      refine wpAnyH_take (i := 3) (v := ?m13_v3) rfl (by kernel_rfl) (by kernel_rfl) (by kernel_rfl) (by intro _ _ _ h; exact h) (Or.inl ⟨by rfl, ?m13_hy3⟩) (by assumption) ?m13_rest3
      case m13_hy3 => (intro w hSw; (try dsimp only at hSw); go_simp; try with_reducible rfl)
      try simp only [Act.put, List.getElem_toArray, List.getElem_cons_succ, List.getElem_cons_zero, List.setIfInBounds_toArray, List.set_cons_zero, List.set_cons_succ]
      refine wpAnyH_take (i := 4) (v := ?m14_v4) rfl (by kernel_rfl) (by kernel_rfl) (by kernel_rfl) (by intro _ _ _ h; exact h) (Or.inl ⟨by rfl, ?m14_hy4⟩) (by assumption) ?m14_rest4
      case m14_hy4 => (intro w hSw; (try dsimp only at hSw); go_simp; try with_reducible rfl)
      try simp only [Act.put, List.getElem_toArray, List.getElem_cons_succ, List.getElem_cons_zero, List.setIfInBounds_toArray, List.set_cons_zero, List.set_cons_succ]
      refine wpAnyH_take (i := 5) (v := ?m15_v5) rfl (by kernel_rfl) (by kernel_rfl) (by kernel_rfl) (by intro _ _ _ h; exact h) (Or.inl ⟨by rfl, ?m15_hy5⟩) (by assumption) ?m15_rest5
      case m15_hy5 => (intro w hSw; (try dsimp only at hSw); go_simp; try with_reducible rfl)
      try simp only [Act.put, List.getElem_toArray, List.getElem_cons_succ, List.getElem_cons_zero, List.setIfInBounds_toArray, List.set_cons_zero, List.set_cons_succ]
      refine wpAnyH_ready (rs := [6]) (by kernel_rfl) (by simp) ?_
      refine AllReadyH.cons rfl (fun K hK => ?_) AllReadyH.nil
      go_simp
      go_wp2_with ((go_at_call 41; refine HCALL.out.mono ?_; rintro _ w5 ⟨b5, A5, n5, c5, L5, rfl, o5, hL5⟩; have hs5 := HB1.out w5 b5))
      refine hK.out _ _ ?_ (fun hHeld => ?_)
      · try dsimp only
        exact hs5
      clear hK K
      refine wpAnyH_take (i := 7) (v := ?m16_v7) rfl (by kernel_rfl) (by kernel_rfl) (by kernel_rfl) (by intro _ _ _ h; exact h) (Or.inl ⟨by rfl, ?m16_hy7⟩) (by assumption) ?m16_rest7
      case m16_hy7 => (intro w hSw; (try dsimp only at hSw); go_simp; try with_reducible rfl)
      try simp only [Act.put, List.getElem_toArray, List.getElem_cons_succ, List.getElem_cons_zero, List.setIfInBounds_toArray, List.set_cons_zero, List.set_cons_succ]
      refine wpAnyH_take (i := 8) (v := ?m17_v8) rfl (by kernel_rfl) (by kernel_rfl) (by kernel_rfl) (by intro _ _ _ h; exact h) (Or.inl ⟨by rfl, ?m17_hy8⟩) (by assumption) ?m17_rest8
      case m17_hy8 => (intro w hSw; (try dsimp only at hSw); go_simp; try with_reducible rfl)
      try simp only [Act.put, List.getElem_toArray, List.getElem_cons_succ, List.getElem_cons_zero, List.setIfInBounds_toArray, List.set_cons_zero, List.set_cons_succ]
      refine wpAnyH_take (i := 9) (v := ?m18_v9) rfl (by kernel_rfl) (by kernel_rfl) (by kernel_rfl) (by intro _ _ _ h; exact h) (Or.inl ⟨by rfl, ?m18_hy9⟩) (by assumption) ?m18_rest9
      case m18_hy9 => (intro w hSw; (try dsimp only at hSw); go_simp; try with_reducible rfl)
      try simp only [Act.put, List.getElem_toArray, List.getElem_cons_succ, List.getElem_cons_zero, List.setIfInBounds_toArray, List.set_cons_zero, List.set_cons_succ]
      refine wpAnyH_ready (rs := [10]) (by kernel_rfl) (by simp) ?_
      refine AllReadyH.cons rfl (fun K hK => ?_) AllReadyH.nil
      go_simp
      go_wp2_with (fail)
      refine hK.out _ _ ?_ (fun hHeld => ?_)
      · try dsimp only
        exact hs5
      clear hK K
      refine wpAnyH_ready (rs := [11]) (by kernel_rfl) (by simp) ?_
      refine AllReadyH.cons rfl (fun K hK => ?_) AllReadyH.nil
      go_simp
      go_wp2_with (fail)
      refine hK.out _ _ ?_ (fun hHeld => ?_)
      · try dsimp only
        exact hs5
      clear hK K
      refine wpAnyH_done (by kernel_rfl) ?_ _
      refine HKK.out _ _ ?_
      have P5 := Pd.call b5
      have K5 := Kd.trans (GQ.kcall h b5)
      have R5 := Rd.below b5 Rd.lt
      have b05 := btr bd b5 Pd.lo
      have hf5 := Pd.q.fresh b5.size
      have hdl := o5.dlF (S := h.qt w5 (g1 :: Bz :: gs)) hf5
      rw [hL5] at hdl
      have Q5 := P5.q.setPath (A := A5) (n := n5) (c := c5) hdl
      have f1 := P5.blk.frozen 1
      have k1 := P5.blk.cell 1
      obtain ⟨P6, K6, b6⟩ := GP.head (i := 1) (u := .slice A5 n5 c5) (h' := { h with pa := A5, pn := n5, pc := c5 }) (v' := { v with a := { v.a with path := l } }) P5.blk Q5 rfl
      have R6 := R5.far (p := ⟨g, 1, none⟩) (by show Bz ≠ g; exact fun e => hgz e.symm) (.slice A5 n5 c5)
      have K06 : Kp w _ (h.qt w [g]) (GH.qt { h with pa := A5, pn := n5, pc := c5 } _ [g1, Bz, g]) := K5.trans (K6 _ (by simp))
      have b06 := b05.trans b6
      obtain ⟨w6, hw6⟩ : ∃ x, w5.setCell ⟨g, 1, none⟩ (.slice A5 n5 c5) = x := ⟨_, rfl⟩
      rw [hw6] at P6 K06 b06 R6
      clear hs5 hHeld d3 d16 P5 K5 R5 b05 hf5 hdl Q5 K6 b6 o5 hL5 hvb hald hvad Pd Kd bd Rd Xd
      go_upto_region 31 with fail
      try rw [hw6]
      clear hw6 f1 k1
      have fe0 := R6.cell 0
      have ff0 := R6.frozen 0
      have fe1 := R6.cell 1
      have ff1 := R6.frozen 1
      have fe2 := R6.cell 2
      have ff2 := R6.frozen 2
      go_wp2_with fail
      exact bodyPost_ret (fltA_ret rfl _ _ Bz _ _ _ rfl (flt_store R6)) rfl (RetG.fin b06 hBq R6 (P6.drop hgm1) hgm hgz (K06.trans (GQ.kdrop _ _)) (.inl rfl) HE.out)
  have t2 : (kind == 2) = false := by simpa using k2
  have HK2 := Lib.hid k2
  clear k2
  by_cases k3 : kind = 3
  case pos =>
    have t3 : (kind == 3) = true := by simpa using k3
    have HK3 := Lib.hid k3
    clear k3
    obtain ⟨V, t2, s2, E1⟩ : ∃ v1 l1 s1, numL (tkOut val false (4 : Nat)) = v1 ∧ tkLeft val false (4 : Nat) = l1 ∧ tkShort val false (4 : Nat) = s1 := ⟨_, _, _, rfl, rfl, rfl⟩
    have HF := Lib.hid (show numF 4 val = (V : Int) by unfold numF; rw [E1.1])
    have HU := Lib.hid (show ∀ w', RB Bd w' g1 val false → Calls Tryd.prog 82 #[.pointer (some ⟨g1, 0, none⟩)] w' fun en w'' => en = .returned (.int .u32 (V : Nat)) ∧ RB Bd w'' g1 t2 s2 ∧ w'.grownBy w'' (some g1) from fun w' h => by have := rbU32 g1 val false w' h hvl; rw [E1.1, E1.2.1, E1.2.2] at this; exact this)
    have HVB := Lib.hid (show V < 4294967296 by rw [← E1.1]; have := tkOut_num val false 4; omega)
    clear E1
    go_wp2_with fail
    refine (HU.out _ r1).mono ?_
    rintro _ w2 ⟨rfl, r2, g2⟩
    have P2 := P1.at_ hrb1 hm1 hgg (by decide) (by decide) (by decide) g2
    have K2 := K1.trans (GQ.kat h (List.mem_cons_self ..) g2)
    have b02 := b01.grown g2 P1.lo (fun k hk => by injection hk with hk; subst hk; exact hg1B)
    have hall2 := hall1.keep (GQ.kat h hm1 g2)
    have R2 := R1.grown g2 (by intro e; injection e with e; exact hzg e)
    have X2 := X1.grown g2 (by intro e; injection e with e; exact hqg e)
    have fX := P2.blk.frozen 2
    have kX := P2.blk.cell 2
    clear HU g2 r2
    obtain ⟨P3, K3, b3⟩ := GP.store (i := 2) (u := .int .u32 (V : Int)) (v' := { v with a := { v.a with next := (V : Int) } }) P2 rfl rfl rfl rfl rfl rfl rfl
    have K03 := K2.trans (K3 _ (by simp))
    have b03 := b02.trans b3
    have hall3 := hall2.keep (K3 _ hgm2)
    have R3 := R2.far (p := ⟨g, 2, none⟩) (by show Bz ≠ g; exact fun e => hgz e.symm) (.int .u32 (V : Int))
    have X3 := X2.far (p := ⟨g, 2, none⟩) (by show q ≠ g; exact fun e => hgq' e.symm) (.int .u32 (V : Int))
    obtain ⟨w3, hw3⟩ : ∃ x, w2.setCell ⟨g, 2, none⟩ (.int .u32 (V : Int)) = x := ⟨_, rfl⟩
    rw [hw3] at P3 K03 b03 hall3 R3 X3
    clear P2 K2 b02 hall2 R2 X2 K3 b3 P1 K1 b01 hall1 R1 X1 r1
    obtain ⟨nb, hnb⟩ : ∃ b, nextA (V : Int) = b := ⟨_, rfl⟩
    have HNX := Lib.hid (show Calls Tryd.prog 52 #[.int .u32 (V : Int)] w3 fun en w' => en = .returned (.bool nb) ∧ w3 = w' by rw [← hnb]; exact attNext (V : Int) w3 (by omega) (by have := HVB.out; omega))
    have HNB := Lib.hid hnb
    clear hnb
    go_upto_region 14 with fail
    try rw [hw3]
    clear hw3 fX kX
    have k0 : w3.cell? ⟨g, 2, none⟩ = some (.int .u32 (V : Int)) := P3.blk.cell 2
    have k2 := X3.cell 2
    go_wp2_with fail
    refine HNX.out.mono ?_
    rintro _ _ ⟨rfl, rfl⟩
    cases nb
    case false =>
      have HE := Lib.hid (show res = .error (8, all) by rw [← HRES.out]; unfold knwA; simp only; rw [if_neg HK1.out, if_neg HK2.out, if_pos HK3.out, HF.out, HNB.out, if_neg (by decide)])
      go_wp2_with fail
      refine (attFault 8 A n c w3).mono ?_
      rintro _ w4 ⟨rfl, b4⟩
      have R4 := R3.below b4 R3.lt
      have fe0 := R4.cell 0
      have ff0 := R4.frozen 0
      have fe1 := R4.cell 1
      have ff1 := R4.frozen 1
      have fe2 := R4.cell 2
      have ff2 := R4.frozen 2
      go_wp2_with fail
      exact bodyPost_ret (fltA_ret rfl _ _ Bz _ _ _ rfl (flt_store R4)) rfl (RetG.err (btr b03 b4 P3.lo) hBq hwz (fun b hb => (b4.block b (K03 b hb).1.1).trans (K03 b hb).2) R4 ((hall3.keep (GQ.kcall h b4)).keep (GQ.kdrop _ h)) hnc HE.out)
    have HE := Lib.hid (show res = .ok { v with a := { v.a with next := (V : Int) } } by rw [← HRES.out]; unfold knwA; simp only; rw [if_neg HK1.out, if_neg HK2.out, if_pos HK3.out, HF.out, HNB.out, if_pos rfl])
    have fe0 := R3.cell 0
    have ff0 := R3.frozen 0
    have fe1 := R3.cell 1
    have ff1 := R3.frozen 1
    have fe2 := R3.cell 2
    have ff2 := R3.frozen 2
    go_wp2_with fail
    exact bodyPost_ret (fltA_ret rfl _ _ Bz _ _ _ rfl (flt_store R3)) rfl (RetG.fin b03 hBq R3 (P3.drop hgm1) hgm hgz (K03.trans (GQ.kdrop _ _)) (.inl rfl) HE.out)
  have t3 : (kind == 3) = false := by simpa using k3
  have HK3 := Lib.hid k3
  clear k3
  by_cases k4 : kind = 4
  case pos =>
    have t4 : (kind == 4) = true := by simpa using k4
    have HK4 := Lib.hid k4
    clear k4
    obtain ⟨V, t2, s2, E1⟩ : ∃ v1 l1 s1, numL (tkOut val false (4 : Nat)) = v1 ∧ tkLeft val false (4 : Nat) = l1 ∧ tkShort val false (4 : Nat) = s1 := ⟨_, _, _, rfl, rfl, rfl⟩
    have HF := Lib.hid (show numF 4 val = (V : Int) by unfold numF; rw [E1.1])
    have HU := Lib.hid (show ∀ w', RB Bd w' g1 val false → Calls Tryd.prog 82 #[.pointer (some ⟨g1, 0, none⟩)] w' fun en w'' => en = .returned (.int .u32 (V : Nat)) ∧ RB Bd w'' g1 t2 s2 ∧ w'.grownBy w'' (some g1) from fun w' h => by have := rbU32 g1 val false w' h hvl; rw [E1.1, E1.2.1, E1.2.2] at this; exact this)
    have HVB := Lib.hid (show V < 4294967296 by rw [← E1.1]; have := tkOut_num val false 4; omega)
    clear E1
    have wV : IntKind.i64.wrap (V : Int) = (V : Int) := IntWalk.i64_in _ ⟨by omega, by have := HVB.out; omega⟩
    go_wp2_with fail
    refine (HU.out _ r1).mono ?_
    rintro _ w2 ⟨rfl, r2, g2⟩
    have P2 := P1.at_ hrb1 hm1 hgg (by decide) (by decide) (by decide) g2
    have K2 := K1.trans (GQ.kat h (List.mem_cons_self ..) g2)
    have b02 := b01.grown g2 P1.lo (fun k hk => by injection hk with hk; subst hk; exact hg1B)
    have hall2 := hall1.keep (GQ.kat h hm1 g2)
    have R2 := R1.grown g2 (by intro e; injection e with e; exact hzg e)
    have X2 := X1.grown g2 (by intro e; injection e with e; exact hqg e)
    have fX := P2.blk.frozen 3
    have kX := P2.blk.cell 3
    clear HU g2 r2
    obtain ⟨P3, K3, b3⟩ := GP.store (i := 3) (u := .int .i64 (V : Int)) (v' := { v with a := { v.a with med := (V : Int) } }) P2 rfl rfl rfl rfl rfl rfl rfl
    have K03 := K2.trans (K3 _ (by simp))
    have b03 := b02.trans b3
    have hall3 := hall2.keep (K3 _ hgm2)
    have R3 := R2.far (p := ⟨g, 3, none⟩) (by show Bz ≠ g; exact fun e => hgz e.symm) (.int .i64 (V : Int))
    have X3 := X2.far (p := ⟨g, 3, none⟩) (by show q ≠ g; exact fun e => hgq' e.symm) (.int .i64 (V : Int))
    obtain ⟨w3, hw3⟩ : ∃ x, w2.setCell ⟨g, 3, none⟩ (.int .i64 (V : Int)) = x := ⟨_, rfl⟩
    rw [hw3] at P3 K03 b03 hall3 R3 X3
    clear P2 K2 b02 hall2 R2 X2 K3 b3 P1 K1 b01 hall1 R1 X1 r1
    go_upto_region 31 with fail
    try rw [hw3]
    clear hw3 fX kX
    have HE := Lib.hid (show res = .ok { v with a := { v.a with med := (V : Int) } } by rw [← HRES.out]; unfold knwA; simp only; rw [if_neg HK1.out, if_neg HK2.out, if_neg HK3.out, if_pos HK4.out, HF.out])
    have fe0 := R3.cell 0
    have ff0 := R3.frozen 0
    have fe1 := R3.cell 1
    have ff1 := R3.frozen 1
    have fe2 := R3.cell 2
    have ff2 := R3.frozen 2
    go_wp2_with fail
    exact bodyPost_ret (fltA_ret rfl _ _ Bz _ _ _ rfl (flt_store R3)) rfl (RetG.fin b03 hBq R3 (P3.drop hgm1) hgm hgz (K03.trans (GQ.kdrop _ _)) (.inl rfl) HE.out)
  have t4 : (kind == 4) = false := by simpa using k4
  have HK4 := Lib.hid k4
  clear k4
  by_cases k5 : kind = 5
  case pos =>
    have t5 : (kind == 5) = true := by simpa using k5
    have HK5 := Lib.hid k5
    clear k5
    obtain ⟨V, t2, s2, E1⟩ : ∃ v1 l1 s1, numL (tkOut val false (4 : Nat)) = v1 ∧ tkLeft val false (4 : Nat) = l1 ∧ tkShort val false (4 : Nat) = s1 := ⟨_, _, _, rfl, rfl, rfl⟩
    have HF := Lib.hid (show numF 4 val = (V : Int) by unfold numF; rw [E1.1])
    have HU := Lib.hid (show ∀ w', RB Bd w' g1 val false → Calls Tryd.prog 82 #[.pointer (some ⟨g1, 0, none⟩)] w' fun en w'' => en = .returned (.int .u32 (V : Nat)) ∧ RB Bd w'' g1 t2 s2 ∧ w'.grownBy w'' (some g1) from fun w' h => by have := rbU32 g1 val false w' h hvl; rw [E1.1, E1.2.1, E1.2.2] at this; exact this)
    have HVB := Lib.hid (show V < 4294967296 by rw [← E1.1]; have := tkOut_num val false 4; omega)
    clear E1
    have wV : IntKind.i64.wrap (V : Int) = (V : Int) := IntWalk.i64_in _ ⟨by omega, by have := HVB.out; omega⟩
    go_wp2_with fail
    refine (HU.out _ r1).mono ?_
    rintro _ w2 ⟨rfl, r2, g2⟩
    have P2 := P1.at_ hrb1 hm1 hgg (by decide) (by decide) (by decide) g2
    have K2 := K1.trans (GQ.kat h (List.mem_cons_self ..) g2)
    have b02 := b01.grown g2 P1.lo (fun k hk => by injection hk with hk; subst hk; exact hg1B)
    have hall2 := hall1.keep (GQ.kat h hm1 g2)
    have R2 := R1.grown g2 (by intro e; injection e with e; exact hzg e)
    have X2 := X1.grown g2 (by intro e; injection e with e; exact hqg e)
    have fX := P2.blk.frozen 4
    have kX := P2.blk.cell 4
    clear HU g2 r2
    obtain ⟨P3, K3, b3⟩ := GP.store (i := 4) (u := .int .i64 (V : Int)) (v' := { v with a := { v.a with pref := (V : Int) } }) P2 rfl rfl rfl rfl rfl rfl rfl
    have K03 := K2.trans (K3 _ (by simp))
    have b03 := b02.trans b3
    have hall3 := hall2.keep (K3 _ hgm2)
    have R3 := R2.far (p := ⟨g, 4, none⟩) (by show Bz ≠ g; exact fun e => hgz e.symm) (.int .i64 (V : Int))
    have X3 := X2.far (p := ⟨g, 4, none⟩) (by show q ≠ g; exact fun e => hgq' e.symm) (.int .i64 (V : Int))
    obtain ⟨w3, hw3⟩ : ∃ x, w2.setCell ⟨g, 4, none⟩ (.int .i64 (V : Int)) = x := ⟨_, rfl⟩
    rw [hw3] at P3 K03 b03 hall3 R3 X3
    clear P2 K2 b02 hall2 R2 X2 K3 b3 P1 K1 b01 hall1 R1 X1 r1
    go_upto_region 31 with fail
    try rw [hw3]
    clear hw3 fX kX
    have HE := Lib.hid (show res = .ok { v with a := { v.a with pref := (V : Int) } } by rw [← HRES.out]; unfold knwA; simp only; rw [if_neg HK1.out, if_neg HK2.out, if_neg HK3.out, if_neg HK4.out, if_pos HK5.out, HF.out])
    have fe0 := R3.cell 0
    have ff0 := R3.frozen 0
    have fe1 := R3.cell 1
    have ff1 := R3.frozen 1
    have fe2 := R3.cell 2
    have ff2 := R3.frozen 2
    go_wp2_with fail
    exact bodyPost_ret (fltA_ret rfl _ _ Bz _ _ _ rfl (flt_store R3)) rfl (RetG.fin b03 hBq R3 (P3.drop hgm1) hgm hgz (K03.trans (GQ.kdrop _ _)) (.inl rfl) HE.out)
  have t5 : (kind == 5) = false := by simpa using k5
  have HK5 := Lib.hid k5
  clear k5
  by_cases k6 : kind = 6
  case pos =>
    have t6 : (kind == 6) = true := by simpa using k6
    have HK6 := Lib.hid k6
    clear k6
    have fX := P1.blk.frozen 5
    have kX := P1.blk.cell 5
    obtain ⟨P3, K3, b3⟩ := GP.head (i := 5) (u := .bool true) (h' := h) (v' := { v with a := { v.a with atomic := true } }) P1.blk P1.q rfl
    have K03 : Kp w _ (h.qt w [g]) (GH.qt h _ [g1, Bz, g]) := K1.trans (K3 _ (by simp))
    have b03 := b01.trans b3
    have R3 := R1.far (p := ⟨g, 5, none⟩) (by show Bz ≠ g; exact fun e => hgz e.symm) (.bool true)
    obtain ⟨w3, hw3⟩ : ∃ x, w1.setCell ⟨g, 5, none⟩ (.bool true) = x := ⟨_, rfl⟩
    rw [hw3] at P3 K03 b03 R3
    go_upto_region 31 with fail
    try rw [hw3]
    clear hw3 fX kX K3 b3 P1 K1 b01 hall1 R1 X1 r1
    have HE := Lib.hid (show res = .ok { v with a := { v.a with atomic := true } } by rw [← HRES.out]; unfold knwA; simp only; rw [if_neg HK1.out, if_neg HK2.out, if_neg HK3.out, if_neg HK4.out, if_neg HK5.out, if_pos HK6.out])
    have fe0 := R3.cell 0
    have ff0 := R3.frozen 0
    have fe1 := R3.cell 1
    have ff1 := R3.frozen 1
    have fe2 := R3.cell 2
    have ff2 := R3.frozen 2
    go_wp2_with fail
    exact bodyPost_ret (fltA_ret rfl _ _ Bz _ _ _ rfl (flt_store R3)) rfl (RetG.fin b03 hBq R3 (P3.drop hgm1) hgm hgz (K03.trans (GQ.kdrop _ _)) (.inl rfl) HE.out)
  have t6 : (kind == 6) = false := by simpa using k6
  have HK6 := Lib.hid k6
  clear k6
  by_cases k7 : kind = 7
  case pos =>
    have t7 : (kind == 7) = true := by simpa using k7
    have HK7 := Lib.hid k7
    clear k7
    have HE := Lib.hid (show res = .ok { v with a := { v.a with aggrAS := numF (szA wide) val, hasAggr := true, aggrAddr := numSec (szA wide) val }, hasOld := true, oldAS := numF (szA wide) val } by rw [← HRES.out]; unfold knwA; simp only; rw [if_neg HK1.out, if_neg HK2.out, if_neg HK3.out, if_neg HK4.out, if_neg HK5.out, if_neg HK6.out, if_pos HK7.out])
    have k0 := X1.cell 0
    have k1 := X1.cell 1
    have k2 := X1.cell 2
    have k3 := X1.cell 3
    have HAG := Lib.hid (attAggr B g (g1 :: Bz :: gs) h v wide fl kind A n c A' n' c' val w1 P1 hval1 hn')
    go_wp2_with fail
    refine HAG.out.mono ?_
    rintro _ w2 ⟨rfl, b2, P2, K2⟩
    have R2 : Blk w2 Bz 69 #[.int .i64 0, .int .i64 0, .slice none 0 0] := (K2 Bz (P1.q.side hzm (fun e => hgz e.symm))).2.trans R1
    have K02 : Kp w w2 (h.qt w [g]) (h.qt w2 [g1, Bz, g]) := K1.trans (K2.wide (gs := [g1, Bz, g]) (by simp))
    have b02 := b01.trans b2
    clear k0 k1 k2 k3 HAG X1 R1 P1 K1 b01 hall1 hval1 K2 b2 r1 hrb1
    have fe0 := R2.cell 0
    have ff0 := R2.frozen 0
    have fe1 := R2.cell 1
    have ff1 := R2.frozen 1
    have fe2 := R2.cell 2
    have ff2 := R2.frozen 2
    go_wp2_with fail
    exact bodyPost_ret (fltA_ret rfl _ _ Bz _ _ _ rfl (flt_store R2)) rfl (RetG.fin b02 hBq R2 (P2.drop hgm1) hgm hgz (K02.trans (GQ.kdrop _ _)) (.inl rfl) HE.out)
  have t7 : (kind == 7) = false := by simpa using k7
  have HK7 := Lib.hid k7
  clear k7
  by_cases k8 : kind = 8
  case pos =>
    have t8 : (kind == 8) = true := by simpa using k8
    have HK8 := Lib.hid k8
    clear k8
    have k0 := X1.cell 0
    have k1 := X1.cell 1
    have k2 := X1.cell 2
    have k3 := X1.cell 3
    have KS : ∀ b, h.qt w [g] b → h.qt w1 [g] b := fun b hb => ⟨(K1 b hb).1.1, fun e => (K1 b hb).1.2.1 (by rw [List.mem_singleton.1 e]; simp), (K1 b hb).1.2.2⟩
    obtain ⟨r8, hr8⟩ : ∃ r, (if 32 < val.length / 4 then Except.error (9, all) else .ok { v with a := { v.a with comms := v.a.comms ++ commsA val } } : Except FtA Gr) = r := ⟨_, rfl⟩
    have HLI := Lib.hid (show Calls Tryd.prog 129 #[.pointer (some ⟨g, 0, none⟩), .agg #[.int .i64 fl, .int .i64 kind, .slice A n c, .slice A' n' c']] w1 (RetG w1 B g (g1 :: Bz :: gs) wide h r8) by rw [← hr8]; exact attList B g (g1 :: Bz :: gs) h v wide fl kind A n c all A' n' c' val w1 P1 hall1 hnc hval1 hn' (H8.out HK8.out).1 (H8.out HK8.out).2.1 (H8.out HK8.out).2.2)
    have HR8 := Lib.hid hr8
    clear hr8
    have side := P1.q.side hzm (fun e => hgz e.symm)
    go_wp2_with fail
    refine HLI.out.mono ?_
    rintro e2 w2 ⟨b2, s2, hm⟩
    have R2 : Blk w2 Bz 69 #[.int .i64 0, .int .i64 0, .slice none 0 0] := (s2 Bz side).trans R1
    have b02 := b01.trans b2
    have HS2 := Lib.hid (fun b hb => (s2 b (KS b hb)).trans (K1 b hb).2)
    clear k0 k1 k2 k3 HLI s2 side
    by_cases c : 32 < val.length / 4
    case pos =>
      have e8 : r8 = .error (9, all) := by rw [← HR8.out, if_pos c]
      rw [e8] at hm
      obtain ⟨A9, n9, c9, rfl, hbf, hn9⟩ := hm
      have HE := Lib.hid (show res = .error (9, all) by rw [← HRES.out]; unfold knwA; simp only; rw [if_neg HK1.out, if_neg HK2.out, if_neg HK3.out, if_neg HK4.out, if_neg HK5.out, if_neg HK6.out, if_neg HK7.out, if_pos HK8.out, if_pos c])
      have HFL : ∀ a b d : Value, Blk w2 Bz 69 #[a, b, d] → RetG w B g gs wide h res (.returned (.agg #[.int .i64 3, .int .i64 9, .slice A9 n9 c9])) (((w2.setCell ⟨Bz, 0, none⟩ (.int .i64 3)).setCell ⟨Bz, 1, none⟩ (.int .i64 9)).setCell ⟨Bz, 2, none⟩ (.slice A9 n9 c9)) := fun a b d hR => RetG.err2 b02 hBq hwz HS2.out hR hbf (fun b hb => ⟨hb.1, fun hm => hb.2 (List.mem_cons_of_mem _ hm)⟩) hn9 HE.out
      have HFL := Lib.hid (HFL _ _ _ R2)
      clear c e8 hbf b02 KS K1 P1 R1 X1 r1 hrb1 hall1 hval1 b01 b2
      have fe0 := R2.cell 0
      have ff0 := R2.frozen 0
      have fe1 := R2.cell 1
      have ff1 := R2.frozen 1
      have fe2 := R2.cell 2
      have ff2 := R2.frozen 2
      go_wp2_with fail
      exact bodyPost_ret (fltA_ret rfl _ _ Bz _ _ _ rfl (flt_store R2)) rfl HFL.out
    have e8 : r8 = .ok { v with a := { v.a with comms := v.a.comms ++ commsA val } } := by rw [← HR8.out, if_neg c]
    rw [e8] at hm
    obtain ⟨rfl, h2, P2, K2, hcb2⟩ := hm
    have HCB2 := Lib.hid hcb2
    clear hcb2
    have HE := Lib.hid (show res = .ok { v with a := { v.a with comms := v.a.comms ++ commsA val } } by rw [← HRES.out]; unfold knwA; simp only; rw [if_neg HK1.out, if_neg HK2.out, if_neg HK3.out, if_neg HK4.out, if_neg HK5.out, if_neg HK6.out, if_neg HK7.out, if_pos HK8.out, if_neg c])
    have K02 : Kp w w2 (h.qt w [g]) (h2.qt w2 [g1, Bz, g]) := K1.trans (fun b hb => by
      have h1 := K2 b ⟨hb.1, fun e => hb.2.1 (by rw [List.mem_singleton.1 e]; simp), hb.2.2⟩
      exact ⟨⟨h1.1.1, hb.2.1, h1.1.2.2⟩, h1.2⟩)
    clear c e8 KS K1 P1 R1 X1 r1 hrb1 hall1 hval1 b01 b2 K2 HS2
    have fe0 := R2.cell 0
    have ff0 := R2.frozen 0
    have fe1 := R2.cell 1
    have ff1 := R2.frozen 1
    have fe2 := R2.cell 2
    have ff2 := R2.frozen 2
    go_wp2_with fail
    exact bodyPost_ret (fltA_ret rfl _ _ Bz _ _ _ rfl (flt_store R2)) rfl (RetG.fin b02 hBq R2 (P2.drop hgm1) hgm hgz (K02.trans (GQ.kdrop _ _)) HCB2.out HE.out)
  have t8 : (kind == 8) = false := by simpa using k8
  have HK8 := Lib.hid k8
  clear k8
  by_cases k17 : kind = 17
  case pos =>
    have t17 : (kind == 17) = true := by simpa using k17
    have HK17 := Lib.hid k17
    clear k17
    obtain ⟨rr, hrr⟩ : ∃ r, readA true val = r := ⟨_, rfl⟩
    have HAS := Lib.hid (show Calls Tryd.prog 41 #[.slice A' n' c', .bool true] w1 (RetRd w1 rr) by rw [← hrr]; exact aspRead A' n' c' val true w1 hval1.bsq (by omega))
    have HRR := Lib.hid hrr
    clear hrr
    have k3 := X1.cell 3
    go_wp2_with fail
    refine HAS.out.mono ?_
    rintro _ w5 ⟨b5, hm⟩
    have P5 := P1.call b5
    have K5 := K1.trans (GQ.kcall h b5)
    have R5 := R1.below b5 R1.lt
    have b05 := btr b01 b5 P1.lo
    have hf5 := P1.q.fresh b5.size
    have fX := P5.blk.frozen 12
    have kX := P5.blk.cell 12
    clear k3 P1 K1 R1 b01 X1 r1 hrb1 hall1 hval1 HAS b5
    cases rr
    case none =>
      subst hm
      have hdl : DL rSeg 2 w5 (h.qt w5 (g1 :: Bz :: gs)) none 0 [] := DL.none_
      have HE := Lib.hid (show res = .ok { v with more := [] } by rw [← HRES.out]; unfold knwA; simp only; rw [if_neg HK1.out, if_neg HK2.out, if_neg HK3.out, if_neg HK4.out, if_neg HK5.out, if_neg HK6.out, if_neg HK7.out, if_neg HK8.out, if_pos HK17.out, HRR.out, Option.getD_none])
      have Q5 := P5.q.setMore (A := none) (n := 0) (c := 0) hdl
      obtain ⟨P6, K6, b6⟩ := GP.head (i := 12) (u := .slice none 0 0) (h' := { h with ma := none, mn := 0, mc := 0 }) (v' := { v with more := [] }) P5.blk Q5 rfl
      have R6 := R5.far (p := ⟨g, 12, none⟩) (by show Bz ≠ g; exact fun e => hgz e.symm) (.slice none 0 0)
      have K06 : Kp w _ (h.qt w [g]) (GH.qt { h with ma := none, mn := 0, mc := 0 } _ [g1, Bz, g]) := K5.trans (K6 _ (by simp))
      have b06 := b05.trans b6
      obtain ⟨w6, hw6⟩ : ∃ x, w5.setCell ⟨g, 12, none⟩ (.slice none 0 0) = x := ⟨_, rfl⟩
      rw [hw6] at P6 K06 b06 R6
      clear P5 K5 R5 b05 hf5 hdl Q5 K6 b6
      go_upto_region 31 with fail
      try rw [hw6]
      clear hw6 fX kX
      have fe0 := R6.cell 0
      have ff0 := R6.frozen 0
      have fe1 := R6.cell 1
      have ff1 := R6.frozen 1
      have fe2 := R6.cell 2
      have ff2 := R6.frozen 2
      go_wp2_with fail
      exact bodyPost_ret (fltA_ret rfl _ _ Bz _ _ _ rfl (flt_store R6)) rfl (RetG.fin b06 hBq R6 (P6.drop hgm1) hgm hgz (K06.trans (GQ.kdrop _ _)) (.inl rfl) HE.out)
    case some l =>
      obtain ⟨A5, n5, c5, L5, rfl, o5, hL5⟩ := hm
      have hdl := o5.dlF (S := h.qt w5 (g1 :: Bz :: gs)) hf5
      rw [hL5] at hdl
      have HE := Lib.hid (show res = .ok { v with more := l } by rw [← HRES.out]; unfold knwA; simp only; rw [if_neg HK1.out, if_neg HK2.out, if_neg HK3.out, if_neg HK4.out, if_neg HK5.out, if_neg HK6.out, if_neg HK7.out, if_neg HK8.out, if_pos HK17.out, HRR.out, Option.getD_some])
      have Q5 := P5.q.setMore (A := A5) (n := n5) (c := c5) hdl
      obtain ⟨P6, K6, b6⟩ := GP.head (i := 12) (u := .slice A5 n5 c5) (h' := { h with ma := A5, mn := n5, mc := c5 }) (v' := { v with more := l }) P5.blk Q5 rfl
      have R6 := R5.far (p := ⟨g, 12, none⟩) (by show Bz ≠ g; exact fun e => hgz e.symm) (.slice A5 n5 c5)
      have K06 : Kp w _ (h.qt w [g]) (GH.qt { h with ma := A5, mn := n5, mc := c5 } _ [g1, Bz, g]) := K5.trans (K6 _ (by simp))
      have b06 := b05.trans b6
      obtain ⟨w6, hw6⟩ : ∃ x, w5.setCell ⟨g, 12, none⟩ (.slice A5 n5 c5) = x := ⟨_, rfl⟩
      rw [hw6] at P6 K06 b06 R6
      clear P5 K5 R5 b05 hf5 hdl Q5 K6 b6
      go_upto_region 31 with fail
      try rw [hw6]
      clear hw6 fX kX
      have fe0 := R6.cell 0
      have ff0 := R6.frozen 0
      have fe1 := R6.cell 1
      have ff1 := R6.frozen 1
      have fe2 := R6.cell 2
      have ff2 := R6.frozen 2
      go_wp2_with fail
      exact bodyPost_ret (fltA_ret rfl _ _ Bz _ _ _ rfl (flt_store R6)) rfl (RetG.fin b06 hBq R6 (P6.drop hgm1) hgm hgz (K06.trans (GQ.kdrop _ _)) (.inl rfl) HE.out)
  have t17 : (kind == 17) = false := by simpa using k17
  have HK17 := Lib.hid k17
  clear k17
  by_cases k18 : kind = 18
  case pos =>
    have t18 : (kind == 18) = true := by simpa using k18
    have HK18 := Lib.hid k18
    clear k18
    have k3 := X1.cell 3
    by_cases c : n' = 8
    case pos =>
      have u1 : ((n' : Int) == 8) = true := by simp; omega
      have u2 : (n' == 8) = true := by simp; omega
      have HE := Lib.hid (show res = .ok { v with newAS := val } by rw [← HRES.out]; unfold knwA; simp only; rw [if_neg HK1.out, if_neg HK2.out, if_neg HK3.out, if_neg HK4.out, if_neg HK5.out, if_neg HK6.out, if_neg HK7.out, if_neg HK8.out, if_neg HK17.out, if_pos HK18.out, if_pos (show val.length = 8 by rw [← HVL.out]; exact c)])
      clear c
      have fX := P1.blk.frozen 15
      have kX := P1.blk.cell 15
      obtain ⟨P3, K3, b3⟩ := GP.head (i := 15) (u := .slice A' n' c') (h' := { h with na := A', nn := n', nc := c' }) (v' := { v with newAS := val }) P1.blk (P1.q.setNews hval1 hnc') rfl
      have K03 : Kp w _ (h.qt w [g]) (GH.qt { h with na := A', nn := n', nc := c' } _ [g1, Bz, g]) := K1.trans (K3 _ (by simp))
      have b03 := b01.trans b3
      have R3 := R1.far (p := ⟨g, 15, none⟩) (by show Bz ≠ g; exact fun e => hgz e.symm) (.slice A' n' c')
      obtain ⟨w3, hw3⟩ : ∃ x, w1.setCell ⟨g, 15, none⟩ (.slice A' n' c') = x := ⟨_, rfl⟩
      rw [hw3] at P3 K03 b03 R3
      go_upto_region 31 with fail
      try rw [hw3]
      clear hw3 fX kX K3 b3 P1 K1 b01 hall1 R1 X1 r1
      have fe0 := R3.cell 0
      have ff0 := R3.frozen 0
      have fe1 := R3.cell 1
      have ff1 := R3.frozen 1
      have fe2 := R3.cell 2
      have ff2 := R3.frozen 2
      go_wp2_with fail
      exact bodyPost_ret (fltA_ret rfl _ _ Bz _ _ _ rfl (flt_store R3)) rfl (RetG.fin b03 hBq R3 (P3.drop hgm1) hgm hgz (K03.trans (GQ.kdrop _ _)) (.inl rfl) HE.out)
    have u1 : ((n' : Int) == 8) = false := by simp; omega
    have u2 : (n' == 8) = false := by simp; omega
    have HE := Lib.hid (show res = .ok v by rw [← HRES.out]; unfold knwA; simp only; rw [if_neg HK1.out, if_neg HK2.out, if_neg HK3.out, if_neg HK4.out, if_neg HK5.out, if_neg HK6.out, if_neg HK7.out, if_neg HK8.out, if_neg HK17.out, if_pos HK18.out, if_neg (show ¬ val.length = 8 by rw [← HVL.out]; exact c)])
    clear c
    go_upto_region 31 with fail
    clear k3 X1
    have fe0 := R1.cell 0
    have ff0 := R1.frozen 0
    have fe1 := R1.cell 1
    have ff1 := R1.frozen 1
    have fe2 := R1.cell 2
    have ff2 := R1.frozen 2
    go_wp2_with fail
    exact bodyPost_ret (fltA_ret rfl _ _ Bz _ _ _ rfl (flt_store R1)) rfl (RetG.fin b01 hBq R1 (P1.drop hgm1) hgm hgz (K1.trans (GQ.kdrop _ _)) (.inl rfl) HE.out)
  have t18 : (kind == 18) = false := by simpa using k18
  have HK18 := Lib.hid k18
  clear k18
  have HE := Lib.hid (show res = .ok v by rw [← HRES.out]; unfold knwA; simp only; rw [if_neg HK1.out, if_neg HK2.out, if_neg HK3.out, if_neg HK4.out, if_neg HK5.out, if_neg HK6.out, if_neg HK7.out, if_neg HK8.out, if_neg HK17.out, if_neg HK18.out])
  go_upto_region 31 with fail
  clear X1
  have fe0 := R1.cell 0
  have ff0 := R1.frozen 0
  have fe1 := R1.cell 1
  have ff1 := R1.frozen 1
  have fe2 := R1.cell 2
  have ff2 := R1.frozen 2
  go_wp2_with fail
  exact bodyPost_ret (fltA_ret rfl _ _ Bz _ _ _ rfl (flt_store R1)) rfl (RetG.fin b01 hBq R1 (P1.drop hgm1) hgm hgz (K1.trans (GQ.kdrop _ _)) (.inl rfl) HE.out)
end Go.Proofs.YtlpkngjeihoknaaDoor
