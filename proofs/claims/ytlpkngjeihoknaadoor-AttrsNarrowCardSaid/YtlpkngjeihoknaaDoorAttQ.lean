/- Walks of layer 4 (attributes): an aggregator; communities. No conditions but sizes. -/
import Derived.Test.YtlpkngjeihoknaaDoorProg
import Derived.WalkKit
import Derived.WalkSpells
import Derived.WalkLawsBesides
import Derived.Outline
import Derived.Deep.QuietTactic
import Derived.BigQuiet
import Derived.Handy
import Derived.Lib.Hide
import Derived.Laws.Cover4
import Derived.OrdersHeld
import Derived.Deep.RegionHeld
import Derived.Deep.LoopGhost
import Derived.Deep.DeepCutAuto
import Derived.Deep.CutBlock
import Derived.Test.YtlpkngjeihoknaaDoorAttP
namespace Go.Proofs.YtlpkngjeihoknaaDoor
open Go.RowKit
set_option linter.unusedSimpArgs false
set_option linter.unusedVariables false
theorem gc_no {h : GH} {v : Gr} {wide : Bool} : ∀ (i : Nat) (x : Int), (GC h v wide)[i]? ≠ some (Value.int .u8 x) := by
  intro i x
  rcases i with _ | _ | _ | _ | _ | _ | _ | _ | _ | _ | _ | _ | _ | _ | _ | _ | _ | i <;> simp
/-- A reader stays where a row that holds no byte is written. -/
theorem RB.at_ {Bd g p : Nat} {w w' : World} {l : List UInt8} {s : Bool} {T : TypeId} {cs : Array Value} (h : RB Bd w g l s) (hp : Blk w p T cs) (hno : ∀ (i : Nat) (x : Int), cs[i]? ≠ some (Value.int .u8 x)) (hT : 141 ≠ T) (hg : w.grownBy w' (some p)) : RB Bd w' g l s := by
  obtain ⟨A, n, c, hb, ⟨hnc, hBd⟩, hbs⟩ := h
  exact ⟨A, n, c, hb.grown hg (by intro e; injection e with e; exact Blk.ne_ hb hp hT e), ⟨hnc, Nat.le_trans hBd hg.size⟩, hbs.grownAtB hBd hg (hbs.apart hp hno)⟩
theorem set_g {g i : Nat} {u : Value} (w : World) : w.grownBy (w.setCell ⟨g, i, none⟩ u) (some g) := only_setCell (World.grownBy.refl w (some g)) (p := ⟨g, i, none⟩) (.inl rfl) u
/-- What goes on without a word: the reading goes on. -/
def RetV (w : World) (B g : Nat) (gs : List Nat) (wide : Bool) (h : GH) (v' : Gr) (e : Ending) (w' : World) : Prop := e = .returned (.tuple #[]) ∧ Below B w w' ∧ GP w' B g gs wide h v' ∧ Kp w w' (h.qt w [g]) (h.qt w' [g])
set_option maxHeartbeats 8000000 in
set_option maxRecDepth 100000 in
theorem attAggr (B g : Nat) (gs : List Nat) (h : GH) (v : Gr) (wide : Bool) (fl kind : Int) (A : Option Addr) (n c : Nat) (A' : Option Addr) (n' c' : Nat) (val : List UInt8) (w : World) (P : GP w B g gs wide h v) (hval : BF w (h.qt w gs) A' n' val) (hn' : n' ≤ 100000) :
    Calls Tryd.prog 128 #[.pointer (some ⟨g, 0, none⟩), .agg #[.int .i64 fl, .int .i64 kind, .slice A n c, .slice A' n' c']] w (RetV w B g gs wide h { v with a := { v.a with aggrAS := numF (szA wide) val, hasAggr := true, aggrAddr := numSec (szA wide) val }, hasOld := true, oldAS := numF (szA wide) val }) := by
  obtain ⟨W, hW, hX, b0⟩ := box1c w #[.int .i64 fl, .int .i64 kind, .slice A n c, .slice A' n' c'] 117
  have hBw : B ≤ w.heap.size := P.lo
  have bB0 := b0.mono hBw
  have PW := P.call b0
  have KW : Kp w W (h.qt w gs) (h.qt W gs) := GQ.kcall h b0
  have KG : Kp w W (h.qt w [g]) (h.qt W [g]) := GQ.kcall h b0
  have hvW := (hval.keep KW).bsq
  have hvl : val.length ≤ 140737488355320 := by rw [← hval.1]; omega
  have x3 := hX.cell 3
  obtain ⟨q, hq⟩ : ∃ q, w.heap.size = q := ⟨_, rfl⟩
  rw [hq] at hX x3
  clear hval
  go_enter Tryd.func128, Tryd.ntmps128
  go_upto_region 1 with fail
  try rw [hW]
  try rw [hq]
  clear hW hq
  go_wp2_with fail
  refine (rbNew A' n' c' val W hvW (by omega)).mono ?_
  rintro _ w1 ⟨g1, rfl, hg, r1, b1⟩
  have P1 := PW.add b1 (q := g1) hg r1.lt
  have K1 : Kp w w1 (h.qt w [g]) (h.qt w1 [g1, g]) := KG.trans (GQ.kadd h b1 hg)
  have b01 := btr bB0 b1 (PW.lo)
  have hgg : g ≠ g1 := by have := PW.q.hi; omega
  have hgm := P.q.mem
  have hm1 : g1 ∈ g1 :: gs := List.mem_cons_self ..
  obtain ⟨Bd, hBd⟩ : ∃ x, w1.heap.size = x := ⟨_, rfl⟩
  rw [hBd] at r1
  obtain ⟨V1, t1, s1, E1⟩ : ∃ v1 l1 s1, numL (tkOut val false (szA wide)) = v1 ∧ tkLeft val false (szA wide) = l1 ∧ tkShort val false (szA wide) = s1 := ⟨_, _, _, rfl, rfl, rfl⟩
  obtain ⟨V2, t2, s2, E2⟩ : ∃ v1 l1 s1', numL (tkOut t1 s1 (4 : Nat)) = v1 ∧ tkLeft t1 s1 (4 : Nat) = l1 ∧ tkShort t1 s1 (4 : Nat) = s1' := ⟨_, _, _, rfl, rfl, rfl⟩
  have HF1 := Lib.hid (show numF (szA wide) val = (V1 : Int) by unfold numF; rw [E1.1])
  have HF2 := Lib.hid (show numSec (szA wide) val = (V2 : Int) by unfold numSec; rw [E1.2.1, E1.2.2, E2.1])
  have hl1 : t1.length ≤ 140737488355320 := by rw [← E1.2.1]; exact Nat.le_trans (tkLeft_len _ _ _) hvl
  have HU2 := Lib.hid (show ∀ w', RB Bd w' g1 t1 s1 → Calls Tryd.prog 82 #[.pointer (some ⟨g1, 0, none⟩)] w' fun en w'' => en = .returned (.int .u32 (V2 : Nat)) ∧ RB Bd w'' g1 t2 s2 ∧ w'.grownBy w'' (some g1) from fun w' h => by have := rbU32 g1 t1 s1 w' h hl1; rw [E2.1, E2.2.1, E2.2.2] at this; exact this)
  have hV1 : V1 < 256 ^ (szA wide) := by rw [← E1.1]; exact tkOut_num val false (szA wide)
  have g16 : w1.cell? ⟨g, 16, none⟩ = some (.bool wide) := P1.blk.cell 16
  have HBd := Lib.hid hBd
  clear hBd
  cases wide
  case true =>
    have HU1 := Lib.hid (show ∀ w', RB Bd w' g1 val false → Calls Tryd.prog 82 #[.pointer (some ⟨g1, 0, none⟩)] w' fun en w'' => en = .returned (.int .u32 (V1 : Nat)) ∧ RB Bd w'' g1 t1 s1 ∧ w'.grownBy w'' (some g1) from fun w' h => by have := rbU32 g1 val false w' h hvl; rw [show (4 : Nat) = szA true from rfl, E1.1, E1.2.1, E1.2.2] at this; exact this)
    clear E1 E2 hV1
    go_wp2_with fail
    refine (HU1.out _ r1).mono ?_
    rintro _ w2 ⟨rfl, r2, g2⟩
    obtain ⟨cs1, hrb1⟩ := r1.blk
    obtain ⟨cs2, hrb2⟩ := r2.blk
    have P2 := P1.at_ hrb1 hm1 hgg (by decide) (by decide) (by decide) g2
    have K2 := K1.trans (GQ.kat h (List.mem_cons_self ..) g2)
    have b02 := b01.grown g2 P1.lo (fun k hk => by injection hk with hk; subst hk; have := P1.lo; have := PW.lo; omega)
    have f7 := P2.blk.frozen 7
    have k7 := P2.blk.cell 7
    clear g16 x3 hX
    go_upto_region 5 with fail
    obtain ⟨P3, K3, b3⟩ := GP.store (i := 7) (u := .int .u32 (V1 : Int)) (v' := { v with a := { v.a with aggrAS := (V1 : Int) } }) P2 rfl rfl rfl rfl rfl rfl rfl
    have r3 := r2.at_ P2.blk gc_no (by decide) (set_g (g := g) (i := 7) (u := .int .u32 (V1 : Int)) w2)
    have K03 := K2.trans (K3 _ (by simp))
    have b03 := b02.trans b3
    obtain ⟨w3, hw3⟩ : ∃ x, w2.setCell ⟨g, 7, none⟩ (.int .u32 (V1 : Int)) = x := ⟨_, rfl⟩
    rw [hw3] at P3 r3 K03 b03
    rw [hw3]
    clear hw3 f7 k7 K3 b3
    have Pd := P3.call ((Below.refl w3.heap.size w3).drew)
    have rd : RB Bd w3.drew g1 t1 s1 := r3
    have Kd := K03.trans (GQ.kcall h ((Below.refl w3.heap.size w3).drew))
    have bd : Below B w w3.drew := btr b03 ((Below.refl w3.heap.size w3).drew) P3.lo
    obtain ⟨wd, hwd⟩ : ∃ x, w3.drew = x := ⟨_, rfl⟩
    rw [hwd] at Pd rd Kd bd
    have HWD := Lib.hid hwd
    clear hwd P3 r3 K03 b03 P1 P2 K1 K2 b01 b02 r1 r2 g2
    have d7 : wd.cell? ⟨g, 7, none⟩ = some (.int .u32 (V1 : Int)) := Pd.blk.cell 7
    obtain ⟨cs3, hrb3⟩ := rd.blk
    have HEND := Lib.hid (show ∀ w4, RB Bd w4 g1 t2 s2 → wd.grownBy w4 (some g1) → ∃ w8, ((((w4.setCell ⟨g, 6, none⟩ (.bool true)).setCell ⟨g, 13, none⟩ (.bool true)).setCell ⟨g, 14, none⟩ (.int .u32 (V1 : Int))).setCell ⟨g, 8, none⟩ (.int .u32 (V2 : Int))) = w8 ∧ RetV w B g gs true h { v with a := { v.a with aggrAS := (V1 : Int), hasAggr := true, aggrAddr := (V2 : Int) }, hasOld := true, oldAS := (V1 : Int) } (.returned (.tuple #[])) w8 ∧ (w4.cell? ⟨g, 7, none⟩ = some (.int .u32 (V1 : Int)) ∧ (w4.setCell ⟨g, 6, none⟩ (.bool true)).cell? ⟨g, 7, none⟩ = some (.int .u32 (V1 : Int)) ∧ ((w4.setCell ⟨g, 6, none⟩ (.bool true)).setCell ⟨g, 13, none⟩ (.bool true)).cell? ⟨g, 7, none⟩ = some (.int .u32 (V1 : Int)) ∧ (((w4.setCell ⟨g, 6, none⟩ (.bool true)).setCell ⟨g, 13, none⟩ (.bool true)).setCell ⟨g, 14, none⟩ (.int .u32 (V1 : Int))).cell? ⟨g, 7, none⟩ = some (.int .u32 (V1 : Int)) ∧ w8.cell? ⟨g, 7, none⟩ = some (.int .u32 (V1 : Int))) ∧ Blk w4 g 114 (GC h { v with a := { v.a with aggrAS := (V1 : Int) } } true) from by
      intro w4 r4 g4
      have P4 := Pd.at_ hrb3 hm1 hgg (by decide) (by decide) (by decide) g4
      have K4 := Kd.trans (GQ.kat h (List.mem_cons_self ..) g4)
      have b4 := bd.grown g4 Pd.lo (fun k hk => by injection hk with hk; subst hk; have := PW.lo; omega)
      obtain ⟨P5, K5, b5⟩ := GP.store (i := 6) (u := .bool true) (v' := { v with a := { v.a with aggrAS := (V1 : Int), hasAggr := true } }) P4 rfl rfl rfl rfl rfl rfl rfl
      obtain ⟨P6, K6, b6⟩ := GP.store (i := 13) (u := .bool true) (v' := { v with a := { v.a with aggrAS := (V1 : Int), hasAggr := true }, hasOld := true }) P5 rfl rfl rfl rfl rfl rfl rfl
      obtain ⟨P7, K7, b7⟩ := GP.store (i := 14) (u := .int .u32 (V1 : Int)) (v' := { v with a := { v.a with aggrAS := (V1 : Int), hasAggr := true }, hasOld := true, oldAS := (V1 : Int) }) P6 rfl rfl rfl rfl rfl rfl rfl
      obtain ⟨P8, K8, b8⟩ := GP.store (i := 8) (u := .int .u32 (V2 : Int)) (v' := { v with a := { v.a with aggrAS := (V1 : Int), hasAggr := true, aggrAddr := (V2 : Int) }, hasOld := true, oldAS := (V1 : Int) }) P7 rfl rfl rfl rfl rfl rfl rfl
      exact ⟨_, rfl, ⟨rfl, (((b4.trans b5).trans b6).trans b7).trans b8, P8.drop hgm, ((((K4.trans (K5 _ (by simp))).trans (K6 _ (by simp))).trans (K7 _ (by simp))).trans (K8 _ (by simp))).trans (GQ.kdrop _ h)⟩, ⟨P4.blk.cell 7, P5.blk.cell 7, P6.blk.cell 7, P7.blk.cell 7, P8.blk.cell 7⟩, P4.blk⟩)
    clear Pd Kd bd hrb3
    refine wp_region_held_drew (S := (fun w' => w'.cell? ⟨g, 7, none⟩ = some (.int .u32 (V1 : Int)))) (by kernel_rfl) ?_ (fun hHeld => ?_)
    · rw [HWD.out]; exact d7
    rw [HWD.out]
    rw [HWD.out] at hHeld
    refine wpAnyH_take (i := 0) (v := ?m1_v0) rfl (by kernel_rfl) (by kernel_rfl) (by kernel_rfl) (by intro _ _ _ h; exact h) (Or.inl ⟨by rfl, ?m1_hy0⟩) (by assumption) ?m1_rest0
    case m1_hy0 => (intro w hSw; (try dsimp only at hSw); go_simp; try with_reducible rfl)
    try simp only [Act.put, List.getElem_toArray, List.getElem_cons_succ, List.getElem_cons_zero, List.setIfInBounds_toArray, List.set_cons_zero, List.set_cons_succ]
    refine wpAnyH_take (i := 1) (v := ?m2_v1) rfl (by kernel_rfl) (by kernel_rfl) (by kernel_rfl) (by intro _ _ _ h; exact h) (Or.inl ⟨by rfl, ?m2_hy1⟩) (by assumption) ?m2_rest1
    case m2_hy1 => (intro w hSw; (try dsimp only at hSw); go_simp; try with_reducible rfl)
    try simp only [Act.put, List.getElem_toArray, List.getElem_cons_succ, List.getElem_cons_zero, List.setIfInBounds_toArray, List.set_cons_zero, List.set_cons_succ]
    refine wpAnyH_take (i := 2) (v := ?m3_v2) rfl (by kernel_rfl) (by kernel_rfl) (by kernel_rfl) (by intro _ _ _ h; exact h) (Or.inl ⟨by rfl, ?m3_hy2⟩) (by assumption) ?m3_rest2
    case m3_hy2 => (intro w hSw; (try dsimp only at hSw); go_simp; try with_reducible rfl)
    try simp only [Act.put, List.getElem_toArray, List.getElem_cons_succ, List.getElem_cons_zero, List.setIfInBounds_toArray, List.set_cons_zero, List.set_cons_succ]
    refine wpAnyH_take (i := 3) (v := ?m4_v3) rfl (by kernel_rfl) (by kernel_rfl) (by kernel_rfl) (by intro _ _ _ h; exact h) (Or.inl ⟨by rfl, ?m4_hy3⟩) (by assumption) ?m4_rest3
    case m4_hy3 => (intro w hSw; (try dsimp only at hSw); go_simp; try with_reducible rfl)
    try simp only [Act.put, List.getElem_toArray, List.getElem_cons_succ, List.getElem_cons_zero, List.setIfInBounds_toArray, List.set_cons_zero, List.set_cons_succ]
    refine wpAnyH_take (i := 4) (v := ?m5_v4) rfl (by kernel_rfl) (by kernel_rfl) (by kernel_rfl) (by intro _ _ _ h; exact h) (Or.inl ⟨by rfl, ?m5_hy4⟩) (by assumption) ?m5_rest4
    case m5_hy4 => (intro w hSw; (try dsimp only at hSw); go_simp; try with_reducible rfl)
    try simp only [Act.put, List.getElem_toArray, List.getElem_cons_succ, List.getElem_cons_zero, List.setIfInBounds_toArray, List.set_cons_zero, List.set_cons_succ]
    refine wpAnyH_take (i := 5) (v := ?m6_v5) rfl (by kernel_rfl) (by kernel_rfl) (by kernel_rfl) (by intro _ _ _ h; exact h) (Or.inl ⟨by rfl, ?m6_hy5⟩) (by assumption) ?m6_rest5
    case m6_hy5 => (intro w hSw; (try dsimp only at hSw); go_simp; try with_reducible rfl)
    try simp only [Act.put, List.getElem_toArray, List.getElem_cons_succ, List.getElem_cons_zero, List.setIfInBounds_toArray, List.set_cons_zero, List.set_cons_succ]
    refine wpAnyH_take (i := 6) (v := ?m7_v6) rfl (by kernel_rfl) (by kernel_rfl) (by kernel_rfl) (by intro _ _ _ h; exact h) (Or.inl ⟨by rfl, ?m7_hy6⟩) (by assumption) ?m7_rest6
    case m7_hy6 => (intro w hSw; (try dsimp only at hSw); go_simp; try with_reducible rfl)
    try simp only [Act.put, List.getElem_toArray, List.getElem_cons_succ, List.getElem_cons_zero, List.setIfInBounds_toArray, List.set_cons_zero, List.set_cons_succ]
    refine wpAnyH_take (i := 7) (v := ?m8_v7) rfl (by kernel_rfl) (by kernel_rfl) (by kernel_rfl) (by intro _ _ _ h; exact h) (Or.inl ⟨by rfl, ?m8_hy7⟩) (by assumption) ?m8_rest7
    case m8_hy7 => (intro w hSw; (try dsimp only at hSw); go_simp; try with_reducible rfl)
    try simp only [Act.put, List.getElem_toArray, List.getElem_cons_succ, List.getElem_cons_zero, List.setIfInBounds_toArray, List.set_cons_zero, List.set_cons_succ]
    refine wpAnyH_take (i := 8) (v := ?m9_v8) rfl (by kernel_rfl) (by kernel_rfl) (by kernel_rfl) (by intro _ _ _ h; exact h) (Or.inl ⟨by rfl, ?m9_hy8⟩) (by assumption) ?m9_rest8
    case m9_hy8 => (intro w hSw; (try dsimp only at hSw); go_simp; try with_reducible rfl)
    try simp only [Act.put, List.getElem_toArray, List.getElem_cons_succ, List.getElem_cons_zero, List.setIfInBounds_toArray, List.set_cons_zero, List.set_cons_succ]
    refine wpAnyH_take (i := 9) (v := ?m10_v9) rfl (by kernel_rfl) (by kernel_rfl) (by kernel_rfl) (by intro _ _ _ h; exact h) (Or.inl ⟨by rfl, ?m10_hy9⟩) (by assumption) ?m10_rest9
    case m10_hy9 => (intro w hSw; (try dsimp only at hSw); go_simp; try with_reducible rfl)
    try simp only [Act.put, List.getElem_toArray, List.getElem_cons_succ, List.getElem_cons_zero, List.setIfInBounds_toArray, List.set_cons_zero, List.set_cons_succ]
    refine wpAnyH_ready (rs := [10]) (by kernel_rfl) (by simp) ?_
    refine AllReadyH.cons rfl (fun K hK => ?_) AllReadyH.nil
    go_simp
    go_wp2_with ((go_at_call 82; refine (HU2.out _ rd).mono ?_; rintro _ w4 ⟨rfl, r4, g4⟩; obtain ⟨w8, hw8, hret, ⟨s0, s1_, s2_, s3, s4⟩, hb4⟩ := HEND.out w4 r4 g4; have k6 := hb4.cell 6; have k13 := hb4.cell 13; have k14 := hb4.cell 14; have k8 := hb4.cell 8; have f6 := hb4.frozen 6; have f13 := hb4.frozen 13; have f14 := hb4.frozen 14; have f8 := hb4.frozen 8; have HW8 := Lib.hid hw8; have HRET := Lib.hid hret; clear hw8 hret hb4 r4 g4))
    refine hK.out _ _ ?_ (fun hHeld => ?_)
    · try dsimp only
      exact s0
    clear hK K
    refine wpAnyH_take (i := 11) (v := ?m11_v11) rfl (by kernel_rfl) (by kernel_rfl) (by kernel_rfl) (by intro _ _ _ h; exact h) (Or.inl ⟨by rfl, ?m11_hy11⟩) (by assumption) ?m11_rest11
    case m11_hy11 => (intro w hSw; (try dsimp only at hSw); go_simp; try with_reducible rfl)
    try simp only [Act.put, List.getElem_toArray, List.getElem_cons_succ, List.getElem_cons_zero, List.setIfInBounds_toArray, List.set_cons_zero, List.set_cons_succ]
    refine wpAnyH_take (i := 12) (v := ?m12_v12) rfl (by kernel_rfl) (by kernel_rfl) (by kernel_rfl) (by intro _ _ _ h; exact h) (Or.inl ⟨by rfl, ?m12_hy12⟩) (by assumption) ?m12_rest12
    case m12_hy12 => (intro w hSw; (try dsimp only at hSw); go_simp; try with_reducible rfl)
    try simp only [Act.put, List.getElem_toArray, List.getElem_cons_succ, List.getElem_cons_zero, List.setIfInBounds_toArray, List.set_cons_zero, List.set_cons_succ]
    refine wpAnyH_take (i := 13) (v := ?m13_v13) rfl (by kernel_rfl) (by kernel_rfl) (by kernel_rfl) (by intro _ _ _ h; exact h) (Or.inl ⟨by rfl, ?m13_hy13⟩) (by assumption) ?m13_rest13
    case m13_hy13 => (intro w hSw; (try dsimp only at hSw); go_simp; try with_reducible rfl)
    try simp only [Act.put, List.getElem_toArray, List.getElem_cons_succ, List.getElem_cons_zero, List.setIfInBounds_toArray, List.set_cons_zero, List.set_cons_succ]
    refine wpAnyH_ready (rs := [14]) (by kernel_rfl) (by simp) ?_
    refine AllReadyH.cons rfl (fun K hK => ?_) AllReadyH.nil
    go_simp
    go_wp2_with (fail)
    refine hK.out _ _ ?_ (fun hHeld => ?_)
    · try dsimp only
      exact s1_
    clear hK K
    refine wpAnyH_take (i := 15) (v := ?m14_v15) rfl (by kernel_rfl) (by kernel_rfl) (by kernel_rfl) (by intro _ _ _ h; exact h) (Or.inl ⟨by rfl, ?m14_hy15⟩) (by assumption) ?m14_rest15
    case m14_hy15 => (intro w hSw; (try dsimp only at hSw); go_simp; try with_reducible rfl)
    try simp only [Act.put, List.getElem_toArray, List.getElem_cons_succ, List.getElem_cons_zero, List.setIfInBounds_toArray, List.set_cons_zero, List.set_cons_succ]
    refine wpAnyH_take (i := 16) (v := ?m15_v16) rfl (by kernel_rfl) (by kernel_rfl) (by kernel_rfl) (by intro _ _ _ h; exact h) (Or.inl ⟨by rfl, ?m15_hy16⟩) (by assumption) ?m15_rest16
    case m15_hy16 => (intro w hSw; (try dsimp only at hSw); go_simp; try with_reducible rfl)
    try simp only [Act.put, List.getElem_toArray, List.getElem_cons_succ, List.getElem_cons_zero, List.setIfInBounds_toArray, List.set_cons_zero, List.set_cons_succ]
    refine wpAnyH_ready (rs := [17]) (by kernel_rfl) (by simp) ?_
    refine AllReadyH.cons rfl (fun K hK => ?_) AllReadyH.nil
    go_simp
    go_wp2_with (fail)
    refine hK.out _ _ ?_ (fun hHeld => ?_)
    · try dsimp only
      exact s2_
    clear hK K
    refine wpAnyH_take (i := 18) (v := ?m16_v18) rfl (by kernel_rfl) (by kernel_rfl) (by kernel_rfl) (by intro _ _ _ h; exact h) (Or.inl ⟨by rfl, ?m16_hy18⟩) (by assumption) ?m16_rest18
    case m16_hy18 => (intro w hSw; (try dsimp only at hSw); go_simp; try with_reducible rfl)
    try simp only [Act.put, List.getElem_toArray, List.getElem_cons_succ, List.getElem_cons_zero, List.setIfInBounds_toArray, List.set_cons_zero, List.set_cons_succ]
    refine wpAnyH_take (i := 19) (v := ?m17_v19) rfl (by kernel_rfl) (by kernel_rfl) (by kernel_rfl) (by intro _ _ _ h; exact h) (Or.inl ⟨by rfl, ?m17_hy19⟩) (by assumption) ?m17_rest19
    case m17_hy19 => (intro w hSw; (try dsimp only at hSw); go_simp; try with_reducible rfl)
    try simp only [Act.put, List.getElem_toArray, List.getElem_cons_succ, List.getElem_cons_zero, List.setIfInBounds_toArray, List.set_cons_zero, List.set_cons_succ]
    refine wpAnyH_ready (rs := [20]) (by kernel_rfl) (by simp) ?_
    refine AllReadyH.cons rfl (fun K hK => ?_) AllReadyH.nil
    go_simp
    go_wp2_with (fail)
    refine hK.out _ _ ?_ (fun hHeld => ?_)
    · try dsimp only
      exact s3
    clear hK K
    refine wpAnyH_take (i := 21) (v := ?m18_v21) rfl (by kernel_rfl) (by kernel_rfl) (by kernel_rfl) (by intro _ _ _ h; exact h) (Or.inl ⟨by rfl, ?m18_hy21⟩) (by assumption) ?m18_rest21
    case m18_hy21 => (intro w hSw; (try dsimp only at hSw); go_simp; try with_reducible rfl)
    try simp only [Act.put, List.getElem_toArray, List.getElem_cons_succ, List.getElem_cons_zero, List.setIfInBounds_toArray, List.set_cons_zero, List.set_cons_succ]
    refine wpAnyH_take (i := 22) (v := ?m19_v22) rfl (by kernel_rfl) (by kernel_rfl) (by kernel_rfl) (by intro _ _ _ h; exact h) (Or.inl ⟨by rfl, ?m19_hy22⟩) (by assumption) ?m19_rest22
    case m19_hy22 => (intro w hSw; (try dsimp only at hSw); go_simp; try with_reducible rfl)
    try simp only [Act.put, List.getElem_toArray, List.getElem_cons_succ, List.getElem_cons_zero, List.setIfInBounds_toArray, List.set_cons_zero, List.set_cons_succ]
    refine wpAnyH_take (i := 23) (v := ?m20_v23) rfl (by kernel_rfl) (by kernel_rfl) (by kernel_rfl) (by intro _ _ _ h; exact h) (Or.inl ⟨by rfl, ?m20_hy23⟩) (by assumption) ?m20_rest23
    case m20_hy23 => (intro w hSw; (try dsimp only at hSw); go_simp; try with_reducible rfl)
    try simp only [Act.put, List.getElem_toArray, List.getElem_cons_succ, List.getElem_cons_zero, List.setIfInBounds_toArray, List.set_cons_zero, List.set_cons_succ]
    refine wpAnyH_ready (rs := [24]) (by kernel_rfl) (by simp) ?_
    refine AllReadyH.cons rfl (fun K hK => ?_) AllReadyH.nil
    go_simp
    go_wp2_with (fail)
    refine hK.out _ _ ?_ (fun hHeld => ?_)
    · try dsimp only
      rw [HW8.out]; exact s4
    clear hK K
    refine wpAnyH_done (by kernel_rfl) ?_ _
    rw [HW8.out]
    go_wp2_with fail
    go_returns
    rw [HF1.out, HF2.out]
    exact HRET.out
  case false =>
    have HU1 := Lib.hid (show ∀ w', RB Bd w' g1 val false → Calls Tryd.prog 83 #[.pointer (some ⟨g1, 0, none⟩)] w' fun en w'' => en = .returned (.int .i64 (V1 : Nat)) ∧ RB Bd w'' g1 t1 s1 ∧ w'.grownBy w'' (some g1) from fun w' h => by have := rbU16 g1 val false w' h hvl; rw [show (2 : Nat) = szA false from rfl, E1.1, E1.2.1, E1.2.2] at this; exact this)
    have wV : IntKind.u32.wrap (V1 : Int) = (V1 : Int) := by rw [IntKind.wrap_u32]; have : V1 < 65536 := hV1; omega
    clear E1 E2 hV1
    go_wp2_with fail
    refine (HU1.out _ r1).mono ?_
    rintro _ w2 ⟨rfl, r2, g2⟩
    obtain ⟨cs1, hrb1⟩ := r1.blk
    obtain ⟨cs2, hrb2⟩ := r2.blk
    have P2 := P1.at_ hrb1 hm1 hgg (by decide) (by decide) (by decide) g2
    have K2 := K1.trans (GQ.kat h (List.mem_cons_self ..) g2)
    have b02 := b01.grown g2 P1.lo (fun k hk => by injection hk with hk; subst hk; have := P1.lo; have := PW.lo; omega)
    have f7 := P2.blk.frozen 7
    have k7 := P2.blk.cell 7
    clear g16 x3 hX
    go_upto_region 5 with fail
    obtain ⟨P3, K3, b3⟩ := GP.store (i := 7) (u := .int .u32 (V1 : Int)) (v' := { v with a := { v.a with aggrAS := (V1 : Int) } }) P2 rfl rfl rfl rfl rfl rfl rfl
    have r3 := r2.at_ P2.blk gc_no (by decide) (set_g (g := g) (i := 7) (u := .int .u32 (V1 : Int)) w2)
    have K03 := K2.trans (K3 _ (by simp))
    have b03 := b02.trans b3
    obtain ⟨w3, hw3⟩ : ∃ x, w2.setCell ⟨g, 7, none⟩ (.int .u32 (V1 : Int)) = x := ⟨_, rfl⟩
    rw [hw3] at P3 r3 K03 b03
    rw [hw3]
    clear hw3 f7 k7 K3 b3
    have Pd := P3.call ((Below.refl w3.heap.size w3).drew)
    have rd : RB Bd w3.drew g1 t1 s1 := r3
    have Kd := K03.trans (GQ.kcall h ((Below.refl w3.heap.size w3).drew))
    have bd : Below B w w3.drew := btr b03 ((Below.refl w3.heap.size w3).drew) P3.lo
    obtain ⟨wd, hwd⟩ : ∃ x, w3.drew = x := ⟨_, rfl⟩
    rw [hwd] at Pd rd Kd bd
    have HWD := Lib.hid hwd
    clear hwd P3 r3 K03 b03 P1 P2 K1 K2 b01 b02 r1 r2 g2
    have d7 : wd.cell? ⟨g, 7, none⟩ = some (.int .u32 (V1 : Int)) := Pd.blk.cell 7
    obtain ⟨cs3, hrb3⟩ := rd.blk
    have HEND := Lib.hid (show ∀ w4, RB Bd w4 g1 t2 s2 → wd.grownBy w4 (some g1) → ∃ w8, ((((w4.setCell ⟨g, 6, none⟩ (.bool true)).setCell ⟨g, 13, none⟩ (.bool true)).setCell ⟨g, 14, none⟩ (.int .u32 (V1 : Int))).setCell ⟨g, 8, none⟩ (.int .u32 (V2 : Int))) = w8 ∧ RetV w B g gs false h { v with a := { v.a with aggrAS := (V1 : Int), hasAggr := true, aggrAddr := (V2 : Int) }, hasOld := true, oldAS := (V1 : Int) } (.returned (.tuple #[])) w8 ∧ (w4.cell? ⟨g, 7, none⟩ = some (.int .u32 (V1 : Int)) ∧ (w4.setCell ⟨g, 6, none⟩ (.bool true)).cell? ⟨g, 7, none⟩ = some (.int .u32 (V1 : Int)) ∧ ((w4.setCell ⟨g, 6, none⟩ (.bool true)).setCell ⟨g, 13, none⟩ (.bool true)).cell? ⟨g, 7, none⟩ = some (.int .u32 (V1 : Int)) ∧ (((w4.setCell ⟨g, 6, none⟩ (.bool true)).setCell ⟨g, 13, none⟩ (.bool true)).setCell ⟨g, 14, none⟩ (.int .u32 (V1 : Int))).cell? ⟨g, 7, none⟩ = some (.int .u32 (V1 : Int)) ∧ w8.cell? ⟨g, 7, none⟩ = some (.int .u32 (V1 : Int))) ∧ Blk w4 g 114 (GC h { v with a := { v.a with aggrAS := (V1 : Int) } } false) from by
      intro w4 r4 g4
      have P4 := Pd.at_ hrb3 hm1 hgg (by decide) (by decide) (by decide) g4
      have K4 := Kd.trans (GQ.kat h (List.mem_cons_self ..) g4)
      have b4 := bd.grown g4 Pd.lo (fun k hk => by injection hk with hk; subst hk; have := PW.lo; omega)
      obtain ⟨P5, K5, b5⟩ := GP.store (i := 6) (u := .bool true) (v' := { v with a := { v.a with aggrAS := (V1 : Int), hasAggr := true } }) P4 rfl rfl rfl rfl rfl rfl rfl
      obtain ⟨P6, K6, b6⟩ := GP.store (i := 13) (u := .bool true) (v' := { v with a := { v.a with aggrAS := (V1 : Int), hasAggr := true }, hasOld := true }) P5 rfl rfl rfl rfl rfl rfl rfl
      obtain ⟨P7, K7, b7⟩ := GP.store (i := 14) (u := .int .u32 (V1 : Int)) (v' := { v with a := { v.a with aggrAS := (V1 : Int), hasAggr := true }, hasOld := true, oldAS := (V1 : Int) }) P6 rfl rfl rfl rfl rfl rfl rfl
      obtain ⟨P8, K8, b8⟩ := GP.store (i := 8) (u := .int .u32 (V2 : Int)) (v' := { v with a := { v.a with aggrAS := (V1 : Int), hasAggr := true, aggrAddr := (V2 : Int) }, hasOld := true, oldAS := (V1 : Int) }) P7 rfl rfl rfl rfl rfl rfl rfl
      exact ⟨_, rfl, ⟨rfl, (((b4.trans b5).trans b6).trans b7).trans b8, P8.drop hgm, ((((K4.trans (K5 _ (by simp))).trans (K6 _ (by simp))).trans (K7 _ (by simp))).trans (K8 _ (by simp))).trans (GQ.kdrop _ h)⟩, ⟨P4.blk.cell 7, P5.blk.cell 7, P6.blk.cell 7, P7.blk.cell 7, P8.blk.cell 7⟩, P4.blk⟩)
    clear Pd Kd bd hrb3
    refine wp_region_held_drew (S := (fun w' => w'.cell? ⟨g, 7, none⟩ = some (.int .u32 (V1 : Int)))) (by kernel_rfl) ?_ (fun hHeld => ?_)
    · rw [HWD.out]; exact d7
    rw [HWD.out]
    rw [HWD.out] at hHeld
    refine wpAnyH_take (i := 0) (v := ?m21_v0) rfl (by kernel_rfl) (by kernel_rfl) (by kernel_rfl) (by intro _ _ _ h; exact h) (Or.inl ⟨by rfl, ?m21_hy0⟩) (by assumption) ?m21_rest0
    case m21_hy0 => (intro w hSw; (try dsimp only at hSw); go_simp; try with_reducible rfl)
    try simp only [Act.put, List.getElem_toArray, List.getElem_cons_succ, List.getElem_cons_zero, List.setIfInBounds_toArray, List.set_cons_zero, List.set_cons_succ]
    refine wpAnyH_take (i := 1) (v := ?m22_v1) rfl (by kernel_rfl) (by kernel_rfl) (by kernel_rfl) (by intro _ _ _ h; exact h) (Or.inl ⟨by rfl, ?m22_hy1⟩) (by assumption) ?m22_rest1
    case m22_hy1 => (intro w hSw; (try dsimp only at hSw); go_simp; try with_reducible rfl)
    try simp only [Act.put, List.getElem_toArray, List.getElem_cons_succ, List.getElem_cons_zero, List.setIfInBounds_toArray, List.set_cons_zero, List.set_cons_succ]
    refine wpAnyH_take (i := 2) (v := ?m23_v2) rfl (by kernel_rfl) (by kernel_rfl) (by kernel_rfl) (by intro _ _ _ h; exact h) (Or.inl ⟨by rfl, ?m23_hy2⟩) (by assumption) ?m23_rest2
    case m23_hy2 => (intro w hSw; (try dsimp only at hSw); go_simp; try with_reducible rfl)
    try simp only [Act.put, List.getElem_toArray, List.getElem_cons_succ, List.getElem_cons_zero, List.setIfInBounds_toArray, List.set_cons_zero, List.set_cons_succ]
    refine wpAnyH_take (i := 3) (v := ?m24_v3) rfl (by kernel_rfl) (by kernel_rfl) (by kernel_rfl) (by intro _ _ _ h; exact h) (Or.inl ⟨by rfl, ?m24_hy3⟩) (by assumption) ?m24_rest3
    case m24_hy3 => (intro w hSw; (try dsimp only at hSw); go_simp; try with_reducible rfl)
    try simp only [Act.put, List.getElem_toArray, List.getElem_cons_succ, List.getElem_cons_zero, List.setIfInBounds_toArray, List.set_cons_zero, List.set_cons_succ]
    refine wpAnyH_take (i := 4) (v := ?m25_v4) rfl (by kernel_rfl) (by kernel_rfl) (by kernel_rfl) (by intro _ _ _ h; exact h) (Or.inl ⟨by rfl, ?m25_hy4⟩) (by assumption) ?m25_rest4
    case m25_hy4 => (intro w hSw; (try dsimp only at hSw); go_simp; try with_reducible rfl)
    try simp only [Act.put, List.getElem_toArray, List.getElem_cons_succ, List.getElem_cons_zero, List.setIfInBounds_toArray, List.set_cons_zero, List.set_cons_succ]
    refine wpAnyH_take (i := 5) (v := ?m26_v5) rfl (by kernel_rfl) (by kernel_rfl) (by kernel_rfl) (by intro _ _ _ h; exact h) (Or.inl ⟨by rfl, ?m26_hy5⟩) (by assumption) ?m26_rest5
    case m26_hy5 => (intro w hSw; (try dsimp only at hSw); go_simp; try with_reducible rfl)
    try simp only [Act.put, List.getElem_toArray, List.getElem_cons_succ, List.getElem_cons_zero, List.setIfInBounds_toArray, List.set_cons_zero, List.set_cons_succ]
    refine wpAnyH_take (i := 6) (v := ?m27_v6) rfl (by kernel_rfl) (by kernel_rfl) (by kernel_rfl) (by intro _ _ _ h; exact h) (Or.inl ⟨by rfl, ?m27_hy6⟩) (by assumption) ?m27_rest6
    case m27_hy6 => (intro w hSw; (try dsimp only at hSw); go_simp; try with_reducible rfl)
    try simp only [Act.put, List.getElem_toArray, List.getElem_cons_succ, List.getElem_cons_zero, List.setIfInBounds_toArray, List.set_cons_zero, List.set_cons_succ]
    refine wpAnyH_take (i := 7) (v := ?m28_v7) rfl (by kernel_rfl) (by kernel_rfl) (by kernel_rfl) (by intro _ _ _ h; exact h) (Or.inl ⟨by rfl, ?m28_hy7⟩) (by assumption) ?m28_rest7
    case m28_hy7 => (intro w hSw; (try dsimp only at hSw); go_simp; try with_reducible rfl)
    try simp only [Act.put, List.getElem_toArray, List.getElem_cons_succ, List.getElem_cons_zero, List.setIfInBounds_toArray, List.set_cons_zero, List.set_cons_succ]
    refine wpAnyH_take (i := 8) (v := ?m29_v8) rfl (by kernel_rfl) (by kernel_rfl) (by kernel_rfl) (by intro _ _ _ h; exact h) (Or.inl ⟨by rfl, ?m29_hy8⟩) (by assumption) ?m29_rest8
    case m29_hy8 => (intro w hSw; (try dsimp only at hSw); go_simp; try with_reducible rfl)
    try simp only [Act.put, List.getElem_toArray, List.getElem_cons_succ, List.getElem_cons_zero, List.setIfInBounds_toArray, List.set_cons_zero, List.set_cons_succ]
    refine wpAnyH_take (i := 9) (v := ?m30_v9) rfl (by kernel_rfl) (by kernel_rfl) (by kernel_rfl) (by intro _ _ _ h; exact h) (Or.inl ⟨by rfl, ?m30_hy9⟩) (by assumption) ?m30_rest9
    case m30_hy9 => (intro w hSw; (try dsimp only at hSw); go_simp; try with_reducible rfl)
    try simp only [Act.put, List.getElem_toArray, List.getElem_cons_succ, List.getElem_cons_zero, List.setIfInBounds_toArray, List.set_cons_zero, List.set_cons_succ]
    refine wpAnyH_ready (rs := [10]) (by kernel_rfl) (by simp) ?_
    refine AllReadyH.cons rfl (fun K hK => ?_) AllReadyH.nil
    go_simp
    go_wp2_with ((go_at_call 82; refine (HU2.out _ rd).mono ?_; rintro _ w4 ⟨rfl, r4, g4⟩; obtain ⟨w8, hw8, hret, ⟨s0, s1_, s2_, s3, s4⟩, hb4⟩ := HEND.out w4 r4 g4; have k6 := hb4.cell 6; have k13 := hb4.cell 13; have k14 := hb4.cell 14; have k8 := hb4.cell 8; have f6 := hb4.frozen 6; have f13 := hb4.frozen 13; have f14 := hb4.frozen 14; have f8 := hb4.frozen 8; have HW8 := Lib.hid hw8; have HRET := Lib.hid hret; clear hw8 hret hb4 r4 g4))
    refine hK.out _ _ ?_ (fun hHeld => ?_)
    · try dsimp only
      exact s0
    clear hK K
    refine wpAnyH_take (i := 11) (v := ?m31_v11) rfl (by kernel_rfl) (by kernel_rfl) (by kernel_rfl) (by intro _ _ _ h; exact h) (Or.inl ⟨by rfl, ?m31_hy11⟩) (by assumption) ?m31_rest11
    case m31_hy11 => (intro w hSw; (try dsimp only at hSw); go_simp; try with_reducible rfl)
    try simp only [Act.put, List.getElem_toArray, List.getElem_cons_succ, List.getElem_cons_zero, List.setIfInBounds_toArray, List.set_cons_zero, List.set_cons_succ]
    refine wpAnyH_take (i := 12) (v := ?m32_v12) rfl (by kernel_rfl) (by kernel_rfl) (by kernel_rfl) (by intro _ _ _ h; exact h) (Or.inl ⟨by rfl, ?m32_hy12⟩) (by assumption) ?m32_rest12
    case m32_hy12 => (intro w hSw; (try dsimp only at hSw); go_simp; try with_reducible rfl)
    try simp only [Act.put, List.getElem_toArray, List.getElem_cons_succ, List.getElem_cons_zero, List.setIfInBounds_toArray, List.set_cons_zero, List.set_cons_succ]
    refine wpAnyH_take (i := 13) (v := ?m33_v13) rfl (by kernel_rfl) (by kernel_rfl) (by kernel_rfl) (by intro _ _ _ h; exact h) (Or.inl ⟨by rfl, ?m33_hy13⟩) (by assumption) ?m33_rest13
    case m33_hy13 => (intro w hSw; (try dsimp only at hSw); go_simp; try with_reducible rfl)
    try simp only [Act.put, List.getElem_toArray, List.getElem_cons_succ, List.getElem_cons_zero, List.setIfInBounds_toArray, List.set_cons_zero, List.set_cons_succ]
    refine wpAnyH_ready (rs := [14]) (by kernel_rfl) (by simp) ?_
    refine AllReadyH.cons rfl (fun K hK => ?_) AllReadyH.nil
    go_simp
    go_wp2_with (fail)
    refine hK.out _ _ ?_ (fun hHeld => ?_)
    · try dsimp only
      exact s1_
    clear hK K
    refine wpAnyH_take (i := 15) (v := ?m34_v15) rfl (by kernel_rfl) (by kernel_rfl) (by kernel_rfl) (by intro _ _ _ h; exact h) (Or.inl ⟨by rfl, ?m34_hy15⟩) (by assumption) ?m34_rest15
    case m34_hy15 => (intro w hSw; (try dsimp only at hSw); go_simp; try with_reducible rfl)
    try simp only [Act.put, List.getElem_toArray, List.getElem_cons_succ, List.getElem_cons_zero, List.setIfInBounds_toArray, List.set_cons_zero, List.set_cons_succ]
    refine wpAnyH_take (i := 16) (v := ?m35_v16) rfl (by kernel_rfl) (by kernel_rfl) (by kernel_rfl) (by intro _ _ _ h; exact h) (Or.inl ⟨by rfl, ?m35_hy16⟩) (by assumption) ?m35_rest16
    case m35_hy16 => (intro w hSw; (try dsimp only at hSw); go_simp; try with_reducible rfl)
    try simp only [Act.put, List.getElem_toArray, List.getElem_cons_succ, List.getElem_cons_zero, List.setIfInBounds_toArray, List.set_cons_zero, List.set_cons_succ]
    refine wpAnyH_ready (rs := [17]) (by kernel_rfl) (by simp) ?_
    refine AllReadyH.cons rfl (fun K hK => ?_) AllReadyH.nil
    go_simp
    go_wp2_with (fail)
    refine hK.out _ _ ?_ (fun hHeld => ?_)
    · try dsimp only
      exact s2_
    clear hK K
    refine wpAnyH_take (i := 18) (v := ?m36_v18) rfl (by kernel_rfl) (by kernel_rfl) (by kernel_rfl) (by intro _ _ _ h; exact h) (Or.inl ⟨by rfl, ?m36_hy18⟩) (by assumption) ?m36_rest18
    case m36_hy18 => (intro w hSw; (try dsimp only at hSw); go_simp; try with_reducible rfl)
    try simp only [Act.put, List.getElem_toArray, List.getElem_cons_succ, List.getElem_cons_zero, List.setIfInBounds_toArray, List.set_cons_zero, List.set_cons_succ]
    refine wpAnyH_take (i := 19) (v := ?m37_v19) rfl (by kernel_rfl) (by kernel_rfl) (by kernel_rfl) (by intro _ _ _ h; exact h) (Or.inl ⟨by rfl, ?m37_hy19⟩) (by assumption) ?m37_rest19
    case m37_hy19 => (intro w hSw; (try dsimp only at hSw); go_simp; try with_reducible rfl)
    try simp only [Act.put, List.getElem_toArray, List.getElem_cons_succ, List.getElem_cons_zero, List.setIfInBounds_toArray, List.set_cons_zero, List.set_cons_succ]
    refine wpAnyH_ready (rs := [20]) (by kernel_rfl) (by simp) ?_
    refine AllReadyH.cons rfl (fun K hK => ?_) AllReadyH.nil
    go_simp
    go_wp2_with (fail)
    refine hK.out _ _ ?_ (fun hHeld => ?_)
    · try dsimp only
      exact s3
    clear hK K
    refine wpAnyH_take (i := 21) (v := ?m38_v21) rfl (by kernel_rfl) (by kernel_rfl) (by kernel_rfl) (by intro _ _ _ h; exact h) (Or.inl ⟨by rfl, ?m38_hy21⟩) (by assumption) ?m38_rest21
    case m38_hy21 => (intro w hSw; (try dsimp only at hSw); go_simp; try with_reducible rfl)
    try simp only [Act.put, List.getElem_toArray, List.getElem_cons_succ, List.getElem_cons_zero, List.setIfInBounds_toArray, List.set_cons_zero, List.set_cons_succ]
    refine wpAnyH_take (i := 22) (v := ?m39_v22) rfl (by kernel_rfl) (by kernel_rfl) (by kernel_rfl) (by intro _ _ _ h; exact h) (Or.inl ⟨by rfl, ?m39_hy22⟩) (by assumption) ?m39_rest22
    case m39_hy22 => (intro w hSw; (try dsimp only at hSw); go_simp; try with_reducible rfl)
    try simp only [Act.put, List.getElem_toArray, List.getElem_cons_succ, List.getElem_cons_zero, List.setIfInBounds_toArray, List.set_cons_zero, List.set_cons_succ]
    refine wpAnyH_take (i := 23) (v := ?m40_v23) rfl (by kernel_rfl) (by kernel_rfl) (by kernel_rfl) (by intro _ _ _ h; exact h) (Or.inl ⟨by rfl, ?m40_hy23⟩) (by assumption) ?m40_rest23
    case m40_hy23 => (intro w hSw; (try dsimp only at hSw); go_simp; try with_reducible rfl)
    try simp only [Act.put, List.getElem_toArray, List.getElem_cons_succ, List.getElem_cons_zero, List.setIfInBounds_toArray, List.set_cons_zero, List.set_cons_succ]
    refine wpAnyH_ready (rs := [24]) (by kernel_rfl) (by simp) ?_
    refine AllReadyH.cons rfl (fun K hK => ?_) AllReadyH.nil
    go_simp
    go_wp2_with (fail)
    refine hK.out _ _ ?_ (fun hHeld => ?_)
    · try dsimp only
      rw [HW8.out]; exact s4
    clear hK K
    refine wpAnyH_done (by kernel_rfl) ?_ _
    rw [HW8.out]
    go_wp2_with fail
    go_returns
    rw [HF1.out, HF2.out]
    exact HRET.out
theorem one_u32 {w : World} {V : Nat} (h : V < 4294967296) : (Lit.int .u32 (V : Int)).wf = true := un32 h
set_option maxHeartbeats 8000000 in
set_option maxRecDepth 100000 in
theorem attList (B g : Nat) (gs : List Nat) (h : GH) (v : Gr) (wide : Bool) (fl kind : Int) (A : Option Addr) (n c : Nat) (all : List UInt8) (A' : Option Addr) (n' c' : Nat) (val : List UInt8) (w : World) (P : GP w B g gs wide h v) (hall : BF w (h.qt w gs) A n all) (hnc : n ≤ c) (hval : BF w (h.qt w gs) A' n' val) (hn' : n' ≤ 100000) (hmod : n' % 4 = 0) (hc0 : h.cb = none) (hcm : v.a.comms = []) :
    Calls Tryd.prog 129 #[.pointer (some ⟨g, 0, none⟩), .agg #[.int .i64 fl, .int .i64 kind, .slice A n c, .slice A' n' c']] w (RetG w B g gs wide h (if 32 < val.length / 4 then .error (9, all) else .ok { v with a := { v.a with comms := v.a.comms ++ commsA val } })) := by
  obtain ⟨W, hW, hX, hR, b0⟩ := boxes2 w #[.int .i64 fl, .int .i64 kind, .slice A n c, .slice A' n' c'] #[.int .i64 0, .int .i64 0, .slice none 0 0] 117 69
  obtain ⟨q, hq⟩ : ∃ q, w.heap.size = q := ⟨_, rfl⟩
  obtain ⟨Bz, hBz⟩ : ∃ x, q + 1 = x := ⟨_, rfl⟩
  rw [hq] at hX hR
  rw [hBz] at hR
  obtain ⟨res, hres⟩ : ∃ r, (if 32 < val.length / 4 then Except.error (9, all) else .ok { v with a := { v.a with comms := v.a.comms ++ commsA val } } : Except FtA Gr) = r := ⟨_, rfl⟩
  rw [hres]
  have hXl := hX.lt
  have hRl := hR.lt
  have hgq : g < q := by rw [← hq]; exact P.q.hi
  have hgm := P.q.mem
  have hqz : q < Bz := by omega
  have PW := P.add b0 (q := Bz) (by omega) hRl
  have KW : Kp w W (h.qt w gs) (h.qt W (Bz :: gs)) := GQ.kadd h b0 (by omega)
  have KG : Kp w W (h.qt w [g]) (h.qt W [Bz, g]) := GQ.kadd h b0 (by omega)
  have hwz : w.heap.size ≤ Bz := by omega
  have hallW := hall.keep KW
  have hvW := (hval.keep KW).bsq
  have bB := b0.mono P.lo
  have hBq : B ≤ Bz := by have := P.lo; omega
  have hvl : val.length ≤ 140737488355320 := by rw [← hval.1]; omega
  obtain ⟨M, hM⟩ : ∃ x, n' / 4 = x := ⟨_, rfl⟩
  have HMV := Lib.hid (show M = val.length / 4 by rw [← hM, hval.1])
  have HLV := Lib.hid (show val.length = 4 * M by rw [← hval.1]; omega)
  have e4 : (n' : Int).tdiv 4 = (M : Int) := by rw [Int.tdiv_eq_ediv_of_nonneg (by omega)]; omega
  have e5 : IntKind.i64.wrap (M : Int) = (M : Int) := IntWalk.i64_in _ ⟨by omega, by omega⟩
  have hMb : M ≤ 100000 := by omega
  have HK := Lib.hid KG
  have HC0 := Lib.hid hc0
  have HCM := Lib.hid hcm
  have x2 := hX.cell 2
  have x3 := hX.cell 3
  have HRES := Lib.hid hres
  clear hall hval KW KG hc0 hcm hmod hM hres
  go_enter Tryd.func129, Tryd.ntmps129
  go_upto_region 1 with fail
  try rw [hW]
  try rw [hq]
  try rw [hBz]
  clear hW hBz hq
  by_cases c1 : 32 < M
  case pos =>
    have t1 : decide ((32 : Int) < (M : Int)) = true := decide_eq_true (by omega)
    have t1' : decide (32 < M) = true := decide_eq_true c1
    have HE := Lib.hid (show res = .error (9, all) by rw [← HRES.out, if_pos (by rw [← HMV.out]; exact c1)])
    clear c1
    go_wp2_with fail
    refine (attFault 9 A n c W).mono ?_
    rintro _ w4 ⟨rfl, b4⟩
    have hR4 := hR.below b4 hRl
    have fe0 := hR4.cell 0
    have ff0 := hR4.frozen 0
    have fe1 := hR4.cell 1
    have ff1 := hR4.frozen 1
    have fe2 := hR4.cell 2
    have ff2 := hR4.frozen 2
    go_wp2_with fail
    exact bodyPost_ret (fltA_ret rfl _ _ Bz _ _ _ rfl (flt_store hR4)) rfl (RetG.err (btr bB b4 (by omega)) hBq hwz (fun b hb => (btr b0 b4 b0.size).block b hb.1) hR4 (hallW.keep (GQ.kcall h b4)) hnc HE.out)
  have t1 : decide ((32 : Int) < (M : Int)) = false := decide_eq_false (by omega)
  have t1' : decide (32 < M) = false := decide_eq_false c1
  have HE := Lib.hid (show res = .ok { v with a := { v.a with comms := commsA val } } by rw [← HRES.out, if_neg (by rw [← HMV.out]; exact c1), HCM.out, List.nil_append])
  have HMb := Lib.hid hMb
  clear c1
  go_upto_region 3 with fail
  clear t1 t1' e4 e5 x2 hMb
  go_wp2_with fail
  refine (rbNew A' n' c' val W hvW (by omega)).mono ?_
  rintro _ w1 ⟨g1, rfl, hg, r1, b1⟩
  have P1 := PW.add b1 (q := g1) hg r1.lt
  have K1 : Kp w w1 (h.qt w [g]) (h.qt w1 [g1, Bz, g]) := HK.out.trans (GQ.kadd h b1 hg)
  have b01 := btr bB b1 (PW.lo)
  have hgg : g ≠ g1 := by omega
  have hzg : Bz ≠ g1 := by omega
  have hgm1 : g ∈ Bz :: gs := List.mem_cons_of_mem _ hgm
  have hm1 : g1 ∈ g1 :: Bz :: gs := List.mem_cons_self ..
  have hR1 := hR.below b1 hRl
  obtain ⟨Bd, hBd⟩ : ∃ x, w1.heap.size = x := ⟨_, rfl⟩
  rw [hBd] at r1
  have HBd := Lib.hid hBd
  have hwBd : w.heap.size ≤ Bd := by have := b1.size; have := b0.size; omega
  clear hBd x3 hX hR
  go_wp2_with fail
  go_loopg [] M (fun gg wr => ∃ (h' : GH) (acc : List Int) (t : List UInt8), GP wr B g (g1 :: Bz :: gs) wide h' { v with a := { v.a with comms := acc } } ∧ RB Bd wr g1 t false ∧ Kp w wr (h.qt w [g]) (h'.qt wr [g1, Bz, g]) ∧ Below B w wr ∧ (∀ k, h'.cb = some k → Bd ≤ k) ∧ Blk wr Bz 69 #[.int .i64 0, .int .i64 0, .slice none 0 0] ∧ Hid (t.length = 4 * gg ∧ gg ≤ M ∧ InvN 4 M val false acc gg t false ∧ (h'.cb = h.cb ∨ acc ≠ [])))
  case atStart => exact ⟨h, [], val, by have := HCM.out; rw [← this]; exact P1, r1, K1, b01, fun k hk => by rw [HC0.out] at hk; (cases hk), hR1, Lib.hid ⟨HLV.out, Nat.le_refl _, InvN.start _ _ _ _, .inl rfl⟩⟩
  case round =>
    obtain ⟨h1, acc, t, Pr, rr, Kr, br, hcb, hRr, HI⟩ := hrel
    have hBr := Pr.lo
    obtain ⟨T, hT⟩ : ∃ T, t.length = T := ⟨_, rfl⟩
    have HLF := Lib.hid (show ∀ w', RB Bd w' g1 t false → Calls Tryd.prog 79 #[.pointer (some ⟨g1, 0, none⟩)] w' fun en w'' => en = .returned (.int .i64 (T : Nat)) ∧ w' = w'' from fun w' h => by rw [← hT]; exact rbLeft g1 t false w' h)
    have HTL := Lib.hid hT
    clear hT
    cases gk with
    | zero =>
      have hT0 : T = 0 := by have := HI.out.1; have := HTL.out; omega
      subst hT0
      have HA := Lib.hid (show commsA val = acc by
        have := HI.out.2.2.1.done
        unfold commsA
        rw [← HMV.out, this])
      go_wp2_with fail
      refine (HLF.out _ rr).mono ?_
      rintro _ _ ⟨rfl, rfl⟩
      have fe0 := hRr.cell 0
      have ff0 := hRr.frozen 0
      have fe1 := hRr.cell 1
      have ff1 := hRr.frozen 1
      have fe2 := hRr.cell 2
      have ff2 := hRr.frozen 2
      go_wp2_with fail
      exact bodyPost_ret (fltA_ret rfl _ _ Bz _ _ _ rfl (flt_store hRr)) rfl (RetG.fin br hBq hRr (Pr.drop hgm1) hgm (by omega) (Kr.trans (GQ.kdrop _ h1)) (HI.out.2.2.2) (by rw [HE.out, HA.out]))
    | succ f =>
      have hTp : 0 < T := by have := HI.out.1; have := HTL.out; omega
      have d1 : decide (0 < T) = true := decide_eq_true hTp
      have HTP := Lib.hid hTp
      clear hTp
      obtain ⟨V, t4, s4, E3⟩ : ∃ v1 l1 s', numL (tkOut t false (4 : Nat)) = v1 ∧ tkLeft t false (4 : Nat) = l1 ∧ tkShort t false (4 : Nat) = s' := ⟨_, _, _, rfl, rfl, rfl⟩
      have hs4 : s4 = false := by rw [← E3.2.2, (tk_ok (l := t) (k := 4) (by have := HI.out.1; omega)).2.2]
      subst hs4
      have hV : V < 4294967296 := by rw [← E3.1]; have := tkOut_num t false 4; omega
      have hvw : (Lit.int .u32 (V : Int)).wf = true := un32 hV
      have HT4 := Lib.hid (show t4.length = 4 * f by rw [← E3.2.1, (tk_ok (l := t) (k := 4) (by have := HI.out.1; omega)).2.1, List.length_drop]; have := HI.out.1; omega)
      have HIN := Lib.hid (show InvN 4 M val false (acc ++ [(V : Int)]) f t4 false by have := HI.out.2.2.1.step; rw [E3.1, E3.2.1, E3.2.2] at this; exact this)
      have HB3 := Lib.hid (show ∀ w', RB Bd w' g1 t false → Calls Tryd.prog 82 #[.pointer (some ⟨g1, 0, none⟩)] w' fun en w'' => en = .returned (.int .u32 (V : Nat)) ∧ RB Bd w'' g1 t4 false ∧ w'.grownBy w'' (some g1) from fun w' h => by have := rbU32 g1 t false w' h (by have := HI.out.1; have := HI.out.2.1; have := HMb.out; omega); rw [E3.1, E3.2.1, E3.2.2] at this; exact this)
      have HAL := Lib.hid (show acc.length ≤ 100000 by have := HI.out.2.2.1.1; have := HMb.out; omega)
      clear E3 hV
      go_wp2_with fail
      refine (HLF.out _ rr).mono ?_
      rintro _ _ ⟨rfl, rfl⟩
      have Pd := Pr.call ((Below.refl wr.heap.size wr).drew)
      have rd : RB Bd wr.drew g1 t false := rr
      have Kd := Kr.trans (GQ.kcall h1 ((Below.refl wr.heap.size wr).drew))
      have bd : Below B w wr.drew := btr br ((Below.refl wr.heap.size wr).drew) hBr
      have Rd := hRr.below ((Below.refl wr.heap.size wr).drew) hRr.lt
      go_upto_region 5 with fail
      rename_i hkk
      have HKK := Lib.hid hkk
      clear hkk
      obtain ⟨wd, hwd⟩ : ∃ x, wr.drew = x := ⟨_, rfl⟩
      rw [hwd] at Pd rd Kd bd Rd
      have HWD := Lib.hid hwd
      clear hwd Pr rr Kr br hRr
      have c9 : wd.cell? ⟨g, 9, none⟩ = some (.slice h1.ca h1.cn h1.cc) := Pd.blk.cell 9
      obtain ⟨cs1, hrb1⟩ := rd.blk
      have HU := Lib.hid (show ∀ w5, RB Bd w5 g1 t4 false → wd.grownBy w5 (some g1) → w5.cell? ⟨g, 9, none⟩ = some (.slice h1.ca h1.cn h1.cc) ∧ (w5.alloc (.cells #[.int .u32 (V : Int)] 33)).cell? ⟨g, 9, none⟩ = some (.slice h1.ca h1.cn h1.cc) ∧ OU (w5.alloc (.cells #[.int .u32 (V : Int)] 33)) B h1.ca h1.cn h1.cc acc ∧ B ≤ (w5.alloc (.cells #[.int .u32 (V : Int)] 33)).heap.size ∧ ∀ (A6 : Option Addr) (n6 c6 : Nat) (w6 : World), OU w6 B A6 n6 c6 (acc ++ [(V : Int)]) → (w5.alloc (.cells #[.int .u32 (V : Int)] 33)).grownBy w6 (Value.ownBlock (.slice h1.ca h1.cn h1.cc)) → (Value.ownBlock (.slice A6 n6 c6) = Value.ownBlock (.slice h1.ca h1.cn h1.cc) ∨ Value.ownBlock (.slice A6 n6 c6) = some (w5.alloc (.cells #[.int .u32 (V : Int)] 33)).heap.size) → w6.frozen? ⟨g, 9, none⟩ = false ∧ w6.cell? ⟨g, 9, none⟩ = some (.slice h1.ca h1.cn h1.cc) ∧ ∃ w7 h2, w6.setCell ⟨g, 9, none⟩ (.slice A6 n6 c6) = w7 ∧ GP w7 B g (g1 :: Bz :: gs) wide h2 { v with a := { v.a with comms := acc ++ [(V : Int)] } } ∧ RB Bd w7 g1 t4 false ∧ Kp w w7 (h.qt w [g]) (h2.qt w7 [g1, Bz, g]) ∧ Below B w w7 ∧ (∀ k, h2.cb = some k → Bd ≤ k) ∧ Blk w7 Bz 69 #[.int .i64 0, .int .i64 0, .slice none 0 0] from by
        intro w5 r5 g5
        have P5 := Pd.at_ hrb1 hm1 hgg (by decide) (by decide) (by decide) g5
        have K5 := Kd.trans (GQ.kat h1 (List.mem_cons_self ..) g5)
        have b5 : Below B w w5 := bd.grown g5 Pd.lo (fun k hk => by injection hk with hk; subst hk; omega)
        have R5 := Rd.grown g5 (by intro e; injection e with e; exact hzg e)
        have ba := (Below.refl w5.heap.size w5).alloc (Nat.le_refl _) (.cells #[.int .u32 (V : Int)] 33)
        have P6 := P5.call ba
        have r6 := r5.below ba (by have := r5.lt; have := g5.size; obtain ⟨_, _, _, _, ⟨_, hx⟩, _⟩ := r5; exact hx) r5.lt
        have R6 := R5.below ba R5.lt
        refine ⟨P5.blk.cell 9, P6.blk.cell 9, P6.q.comms, P6.lo, ?_⟩
        intro A6 n6 c6 w6 o6 g6 hat
        obtain ⟨Q6, K6⟩ := P6.q.comms_push o6 g6 hat
        have ne : ∀ {b : Nat} {T : TypeId} {cs : Array Value}, Blk (w5.alloc (.cells #[.int .u32 (V : Int)] 33)) b T cs → 33 ≠ T → some b ≠ Value.ownBlock (.slice h1.ca h1.cn h1.cc) := fun hb hne e => own_blk_ne P6.q.comms.2.1 hb hne e.symm
        have hb6 := P6.blk.grown g6 (ne P6.blk (by decide))
        have R7 := R6.grown g6 (ne R6 (by decide))
        obtain ⟨cs6, hrb6⟩ := r6.blk
        have r7 := r6.grown g6 (fun k hk => ⟨hcb k hk, fun e => ne hrb6 (by decide) (by rw [← e]; exact hk.symm)⟩)
        have b6 : Below B w w6 := (btr b5 ba P5.lo).grown g6 P6.lo (fun k hk => (P6.q.cbl k hk).1)
        obtain ⟨P7, K7, b7⟩ := GP.head (i := 9) (u := .slice A6 n6 c6) (v' := { v with a := { v.a with comms := acc ++ [(V : Int)] } }) hb6 Q6 rfl
        refine ⟨hb6.frozen 9, hb6.cell 9, _, _, rfl, P7, r7.at_ hb6 gc_no (by decide) (set_g w6), (((K5.trans (GQ.kcall h1 ba)).trans (K6 _)).trans (K7 _ (by simp))), b6.trans b7, fun k hk => ?_, R7.far (p := ⟨g, 9, none⟩) (by show Bz ≠ g; omega) _⟩
        rcases hat with e | e
        · exact hcb k (e.symm.trans hk)
        · have hk' : Value.ownBlock (.slice A6 n6 c6) = some k := hk
          rw [e] at hk'
          injection hk' with hk'
          have h2 : Bd ≤ w5.heap.size := by obtain ⟨_, _, _, _, ⟨_, hx⟩, _⟩ := r5; exact hx
          have h3 := ba.size
          omega)
      clear Pd Kd bd Rd hrb1
      refine wp_region_held_drew (S := (fun _ => True)) (by kernel_rfl) ?_ (fun hHeld => ?_)
      · first | done | trivial
      rw [HWD.out]
      refine wpAnyH_take (i := 0) (v := ?m41_v0) rfl (by kernel_rfl) (by kernel_rfl) (by kernel_rfl) (by intro _ _ _ h; exact h) (Or.inl ⟨by rfl, ?m41_hy0⟩) (by assumption) ?m41_rest0
      case m41_hy0 => (intro w hSw; (try dsimp only at hSw); go_simp; try with_reducible rfl)
      try simp only [Act.put, List.getElem_toArray, List.getElem_cons_succ, List.getElem_cons_zero, List.setIfInBounds_toArray, List.set_cons_zero, List.set_cons_succ]
      refine wpAnyH_take (i := 1) (v := ?m42_v1) rfl (by kernel_rfl) (by kernel_rfl) (by kernel_rfl) (by intro _ _ _ h; exact h) (Or.inl ⟨by rfl, ?m42_hy1⟩) (by assumption) ?m42_rest1
      case m42_hy1 => (intro w hSw; (try dsimp only at hSw); go_simp; try with_reducible rfl)
      try simp only [Act.put, List.getElem_toArray, List.getElem_cons_succ, List.getElem_cons_zero, List.setIfInBounds_toArray, List.set_cons_zero, List.set_cons_succ]
      refine wpAnyH_take (i := 2) (v := ?m43_v2) rfl (by kernel_rfl) (by kernel_rfl) (by kernel_rfl) (by intro _ _ _ h; exact h) (Or.inl ⟨by rfl, ?m43_hy2⟩) (by assumption) ?m43_rest2
      case m43_hy2 => (intro w hSw; (try dsimp only at hSw); go_simp; try with_reducible rfl)
      try simp only [Act.put, List.getElem_toArray, List.getElem_cons_succ, List.getElem_cons_zero, List.setIfInBounds_toArray, List.set_cons_zero, List.set_cons_succ]
      refine wpAnyH_take (i := 3) (v := ?m44_v3) rfl (by kernel_rfl) (by kernel_rfl) (by kernel_rfl) (by intro _ _ _ h; exact h) (Or.inl ⟨by rfl, ?m44_hy3⟩) (by assumption) ?m44_rest3
      case m44_hy3 => (intro w hSw; (try dsimp only at hSw); go_simp; try with_reducible rfl)
      try simp only [Act.put, List.getElem_toArray, List.getElem_cons_succ, List.getElem_cons_zero, List.setIfInBounds_toArray, List.set_cons_zero, List.set_cons_succ]
      refine wpAnyH_take (i := 4) (v := ?m45_v4) rfl (by kernel_rfl) (by kernel_rfl) (by kernel_rfl) (by intro _ _ _ h; exact h) (Or.inl ⟨by rfl, ?m45_hy4⟩) (by assumption) ?m45_rest4
      case m45_hy4 => (intro w hSw; (try dsimp only at hSw); go_simp; try with_reducible rfl)
      try simp only [Act.put, List.getElem_toArray, List.getElem_cons_succ, List.getElem_cons_zero, List.setIfInBounds_toArray, List.set_cons_zero, List.set_cons_succ]
      refine wpAnyH_take (i := 6) (v := ?m46_v6) rfl (by kernel_rfl) (by kernel_rfl) (by kernel_rfl) (by intro _ _ _ h; exact h) (Or.inl ⟨by rfl, ?m46_hy6⟩) (by assumption) ?m46_rest6
      case m46_hy6 => (intro w hSw; (try dsimp only at hSw); go_simp; try with_reducible rfl)
      try simp only [Act.put, List.getElem_toArray, List.getElem_cons_succ, List.getElem_cons_zero, List.setIfInBounds_toArray, List.set_cons_zero, List.set_cons_succ]
      refine wpAnyH_ready (rs := [5, 7]) (by kernel_rfl) (by simp) ?_
      refine AllReadyH.cons rfl (fun K hK => ?_) (AllReadyH.cons rfl (fun K hK => ?_) AllReadyH.nil)
      · skip
        go_simp
        go_wp2_with (fail)
        refine hK.out _ _ trivial (fun hHeld => ?_)
        clear hK K
        refine wpAnyH_ready (rs := [7]) (by kernel_rfl) (by simp) ?_
        refine AllReadyH.cons rfl (fun K hK => ?_) AllReadyH.nil
        go_simp
        go_wp2_with ((go_at_call 82; refine (HB3.out _ rd).mono ?_; rintro _ w5 ⟨rfl, r5, g5⟩; obtain ⟨u1, u2, u3, u4, u50⟩ := HU.out w5 r5 g5; have u5 := Lib.hid u50; clear u50 r5 g5))
        refine hK.out _ _ trivial (fun hHeld => ?_)
        clear hK K
        refine wpAnyH_ready (rs := [8]) (by kernel_rfl) (by simp) ?_
        refine AllReadyH.cons rfl (fun K hK => ?_) AllReadyH.nil
        go_simp
        go_wp2_with (fail)
        refine hK.out _ _ trivial (fun hHeld => ?_)
        clear hK K
        refine wpAnyH_ready (rs := [9]) (by kernel_rfl) (by simp) ?_
        refine AllReadyH.cons rfl (fun K hK => ?_) AllReadyH.nil
        refine step_appU rfl (.tmp 25) (.tmp 28) rfl B h1.ca h1.cn h1.cc acc (by rfl) u3 (w5.heap.size + 1) (some ⟨w5.heap.size, 0, none⟩) 1 1 [(V : Int)] (by rfl) (NS.one w5 hvw rfl) (by have := HAL.out; simp; omega) u4 ?_; intro A6 n6 c6 w6 o6 b6 g6 hat; obtain ⟨f9, d9, w7, h2, hw7, HH⟩ := u5.out A6 n6 c6 w6 o6 g6 hat; have HW7 := Lib.hid hw7; have HHH := Lib.hid HH; clear hw7 HH o6 b6 g6 hat
        refine hK.out _ _ trivial (fun hHeld => ?_)
        clear hK K
        refine wpAnyH_take (i := 10) (v := ?m47_v10) rfl (by kernel_rfl) (by kernel_rfl) (by kernel_rfl) (by intro _ _ _ h; exact h) (Or.inl ⟨by rfl, ?m47_hy10⟩) (by assumption) ?m47_rest10
        case m47_hy10 => (intro w hSw; (try dsimp only at hSw); go_simp; try with_reducible rfl)
        try simp only [Act.put, List.getElem_toArray, List.getElem_cons_succ, List.getElem_cons_zero, List.setIfInBounds_toArray, List.set_cons_zero, List.set_cons_succ]
        refine wpAnyH_take (i := 11) (v := ?m48_v11) rfl (by kernel_rfl) (by kernel_rfl) (by kernel_rfl) (by intro _ _ _ h; exact h) (Or.inl ⟨by rfl, ?m48_hy11⟩) (by assumption) ?m48_rest11
        case m48_hy11 => (intro w hSw; (try dsimp only at hSw); go_simp; try with_reducible rfl)
        try simp only [Act.put, List.getElem_toArray, List.getElem_cons_succ, List.getElem_cons_zero, List.setIfInBounds_toArray, List.set_cons_zero, List.set_cons_succ]
        refine wpAnyH_take (i := 12) (v := ?m49_v12) rfl (by kernel_rfl) (by kernel_rfl) (by kernel_rfl) (by intro _ _ _ h; exact h) (Or.inl ⟨by rfl, ?m49_hy12⟩) (by assumption) ?m49_rest12
        case m49_hy12 => (intro w hSw; (try dsimp only at hSw); go_simp; try with_reducible rfl)
        try simp only [Act.put, List.getElem_toArray, List.getElem_cons_succ, List.getElem_cons_zero, List.setIfInBounds_toArray, List.set_cons_zero, List.set_cons_succ]
        refine wpAnyH_ready (rs := [13]) (by kernel_rfl) (by simp) ?_
        refine AllReadyH.cons rfl (fun K hK => ?_) AllReadyH.nil
        go_simp
        go_wp2_with (fail)
        refine hK.out _ _ trivial (fun hHeld => ?_)
        clear hK K
        refine wpAnyH_done (by kernel_rfl) ?_ _
        rw [HW7.out]
        obtain ⟨P7, r7, K7, b7, c7, R7⟩ := HHH.out
        refine HKK.out _ _ ?_
        go_roundg f
        case measure => omega
        case rel => exact ⟨h2, acc ++ [(V : Int)], t4, P7, r7, K7, b7, c7, R7, Lib.hid ⟨HT4.out, by have := HI.out.2.1; omega, HIN.out, .inr (by simp)⟩⟩
      · skip
        go_simp
        go_wp2_with ((go_at_call 82; refine (HB3.out _ rd).mono ?_; rintro _ w5 ⟨rfl, r5, g5⟩; obtain ⟨u1, u2, u3, u4, u50⟩ := HU.out w5 r5 g5; have u5 := Lib.hid u50; clear u50 r5 g5))
        refine hK.out _ _ trivial (fun hHeld => ?_)
        clear hK K
        refine wpAnyH_ready (rs := [5, 8]) (by kernel_rfl) (by simp) ?_
        refine AllReadyH.cons rfl (fun K hK => ?_) (AllReadyH.cons rfl (fun K hK => ?_) AllReadyH.nil)
        · skip
          go_simp
          go_wp2_with (fail)
          refine hK.out _ _ trivial (fun hHeld => ?_)
          clear hK K
          refine wpAnyH_ready (rs := [8]) (by kernel_rfl) (by simp) ?_
          refine AllReadyH.cons rfl (fun K hK => ?_) AllReadyH.nil
          go_simp
          go_wp2_with (fail)
          refine hK.out _ _ trivial (fun hHeld => ?_)
          clear hK K
          refine wpAnyH_ready (rs := [9]) (by kernel_rfl) (by simp) ?_
          refine AllReadyH.cons rfl (fun K hK => ?_) AllReadyH.nil
          refine step_appU rfl (.tmp 25) (.tmp 28) rfl B h1.ca h1.cn h1.cc acc (by rfl) u3 (w5.heap.size + 1) (some ⟨w5.heap.size, 0, none⟩) 1 1 [(V : Int)] (by rfl) (NS.one w5 hvw rfl) (by have := HAL.out; simp; omega) u4 ?_; intro A6 n6 c6 w6 o6 b6 g6 hat; obtain ⟨f9, d9, w7, h2, hw7, HH⟩ := u5.out A6 n6 c6 w6 o6 g6 hat; have HW7 := Lib.hid hw7; have HHH := Lib.hid HH; clear hw7 HH o6 b6 g6 hat
          refine hK.out _ _ trivial (fun hHeld => ?_)
          clear hK K
          refine wpAnyH_take (i := 10) (v := ?m50_v10) rfl (by kernel_rfl) (by kernel_rfl) (by kernel_rfl) (by intro _ _ _ h; exact h) (Or.inl ⟨by rfl, ?m50_hy10⟩) (by assumption) ?m50_rest10
          case m50_hy10 => (intro w hSw; (try dsimp only at hSw); go_simp; try with_reducible rfl)
          try simp only [Act.put, List.getElem_toArray, List.getElem_cons_succ, List.getElem_cons_zero, List.setIfInBounds_toArray, List.set_cons_zero, List.set_cons_succ]
          refine wpAnyH_take (i := 11) (v := ?m51_v11) rfl (by kernel_rfl) (by kernel_rfl) (by kernel_rfl) (by intro _ _ _ h; exact h) (Or.inl ⟨by rfl, ?m51_hy11⟩) (by assumption) ?m51_rest11
          case m51_hy11 => (intro w hSw; (try dsimp only at hSw); go_simp; try with_reducible rfl)
          try simp only [Act.put, List.getElem_toArray, List.getElem_cons_succ, List.getElem_cons_zero, List.setIfInBounds_toArray, List.set_cons_zero, List.set_cons_succ]
          refine wpAnyH_take (i := 12) (v := ?m52_v12) rfl (by kernel_rfl) (by kernel_rfl) (by kernel_rfl) (by intro _ _ _ h; exact h) (Or.inl ⟨by rfl, ?m52_hy12⟩) (by assumption) ?m52_rest12
          case m52_hy12 => (intro w hSw; (try dsimp only at hSw); go_simp; try with_reducible rfl)
          try simp only [Act.put, List.getElem_toArray, List.getElem_cons_succ, List.getElem_cons_zero, List.setIfInBounds_toArray, List.set_cons_zero, List.set_cons_succ]
          refine wpAnyH_ready (rs := [13]) (by kernel_rfl) (by simp) ?_
          refine AllReadyH.cons rfl (fun K hK => ?_) AllReadyH.nil
          go_simp
          go_wp2_with (fail)
          refine hK.out _ _ trivial (fun hHeld => ?_)
          clear hK K
          refine wpAnyH_done (by kernel_rfl) ?_ _
          rw [HW7.out]
          obtain ⟨P7, r7, K7, b7, c7, R7⟩ := HHH.out
          refine HKK.out _ _ ?_
          go_roundg f
          case measure => omega
          case rel => exact ⟨h2, acc ++ [(V : Int)], t4, P7, r7, K7, b7, c7, R7, Lib.hid ⟨HT4.out, by have := HI.out.2.1; omega, HIN.out, .inr (by simp)⟩⟩
        · skip
          go_simp
          go_wp2_with (fail)
          refine hK.out _ _ trivial (fun hHeld => ?_)
          clear hK K
          refine wpAnyH_ready (rs := [5]) (by kernel_rfl) (by simp) ?_
          refine AllReadyH.cons rfl (fun K hK => ?_) AllReadyH.nil
          go_simp
          go_wp2_with (fail)
          refine hK.out _ _ trivial (fun hHeld => ?_)
          clear hK K
          refine wpAnyH_ready (rs := [9]) (by kernel_rfl) (by simp) ?_
          refine AllReadyH.cons rfl (fun K hK => ?_) AllReadyH.nil
          refine step_appU rfl (.tmp 25) (.tmp 28) rfl B h1.ca h1.cn h1.cc acc (by rfl) u3 (w5.heap.size + 1) (some ⟨w5.heap.size, 0, none⟩) 1 1 [(V : Int)] (by rfl) (NS.one w5 hvw rfl) (by have := HAL.out; simp; omega) u4 ?_; intro A6 n6 c6 w6 o6 b6 g6 hat; obtain ⟨f9, d9, w7, h2, hw7, HH⟩ := u5.out A6 n6 c6 w6 o6 g6 hat; have HW7 := Lib.hid hw7; have HHH := Lib.hid HH; clear hw7 HH o6 b6 g6 hat
          refine hK.out _ _ trivial (fun hHeld => ?_)
          clear hK K
          refine wpAnyH_take (i := 10) (v := ?m53_v10) rfl (by kernel_rfl) (by kernel_rfl) (by kernel_rfl) (by intro _ _ _ h; exact h) (Or.inl ⟨by rfl, ?m53_hy10⟩) (by assumption) ?m53_rest10
          case m53_hy10 => (intro w hSw; (try dsimp only at hSw); go_simp; try with_reducible rfl)
          try simp only [Act.put, List.getElem_toArray, List.getElem_cons_succ, List.getElem_cons_zero, List.setIfInBounds_toArray, List.set_cons_zero, List.set_cons_succ]
          refine wpAnyH_take (i := 11) (v := ?m54_v11) rfl (by kernel_rfl) (by kernel_rfl) (by kernel_rfl) (by intro _ _ _ h; exact h) (Or.inl ⟨by rfl, ?m54_hy11⟩) (by assumption) ?m54_rest11
          case m54_hy11 => (intro w hSw; (try dsimp only at hSw); go_simp; try with_reducible rfl)
          try simp only [Act.put, List.getElem_toArray, List.getElem_cons_succ, List.getElem_cons_zero, List.setIfInBounds_toArray, List.set_cons_zero, List.set_cons_succ]
          refine wpAnyH_take (i := 12) (v := ?m55_v12) rfl (by kernel_rfl) (by kernel_rfl) (by kernel_rfl) (by intro _ _ _ h; exact h) (Or.inl ⟨by rfl, ?m55_hy12⟩) (by assumption) ?m55_rest12
          case m55_hy12 => (intro w hSw; (try dsimp only at hSw); go_simp; try with_reducible rfl)
          try simp only [Act.put, List.getElem_toArray, List.getElem_cons_succ, List.getElem_cons_zero, List.setIfInBounds_toArray, List.set_cons_zero, List.set_cons_succ]
          refine wpAnyH_ready (rs := [13]) (by kernel_rfl) (by simp) ?_
          refine AllReadyH.cons rfl (fun K hK => ?_) AllReadyH.nil
          go_simp
          go_wp2_with (fail)
          refine hK.out _ _ trivial (fun hHeld => ?_)
          clear hK K
          refine wpAnyH_done (by kernel_rfl) ?_ _
          rw [HW7.out]
          obtain ⟨P7, r7, K7, b7, c7, R7⟩ := HHH.out
          refine HKK.out _ _ ?_
          go_roundg f
          case measure => omega
          case rel => exact ⟨h2, acc ++ [(V : Int)], t4, P7, r7, K7, b7, c7, R7, Lib.hid ⟨HT4.out, by have := HI.out.2.1; omega, HIN.out, .inr (by simp)⟩⟩
end Go.Proofs.YtlpkngjeihoknaaDoor
