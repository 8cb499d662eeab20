/- Walks of layer 4 (attributes): an attribute that is not known; an aggregator; communities; the end of a reading. No conditions but sizes. -/
import Derived.Test.YtlpkngjeihoknaaDoorProg
import Derived.WalkKit
import Derived.WalkSpells
import Derived.WalkLawsBesides
import Derived.Outline
import Derived.Deep.QuietTactic
import Derived.BigQuiet
import Derived.Handy
import Derived.Lib.Hide
import Derived.Laws.Cover4
import Derived.OrdersHeld
import Derived.Deep.RegionHeld
import Derived.Deep.LoopGhost
import Derived.Deep.DeepCutAuto
import Derived.Deep.CutBlock
import Derived.Test.YtlpkngjeihoknaaDoorAttN
import Derived.Test.YtlpkngjeihoknaaDoorAspQ
namespace Go.Proofs.YtlpkngjeihoknaaDoor
open Go.RowKit
set_option linter.unusedSimpArgs false
set_option linter.unusedVariables false
/-- A reading's cells. -/
abbrev GC (h : GH) (v : Gr) (wide : Bool) : Array Value := #[.int .i64 v.a.origin, .slice h.pa h.pn h.pc, .int .u32 v.a.next, .int .i64 v.a.med, .int .i64 v.a.pref, .bool v.a.atomic, .bool v.a.hasAggr, .int .u32 v.a.aggrAS, .int .u32 v.a.aggrAddr, .slice h.ca h.cn h.cc, .slice h.ra h.rn h.rc, .slice h.ka h.kn h.kc, .slice h.ma h.mn h.mc, .bool v.hasOld, .int .u32 v.oldAS, .slice h.na h.nn h.nc, .bool wide]
/-- A reading on its way. -/
structure GP (w : World) (B g : Nat) (gs : List Nat) (wide : Bool) (h : GH) (v : Gr) : Prop where
  blk : Blk w g 114 (GC h v wide)
  q : GQ w B g gs h v.a.path v.more v.a.comms v.kinds v.a.raws v.newAS
/-- Sizes of a reading. -/
structure BdG (v : Gr) : Prop where
  path : rightA v.a.path = true ∨ v.a.path = []
  more : rightA v.more = true ∨ v.more = []
  raws : v.a.raws.length ≤ 8
  comms : v.a.comms.length ≤ 32 * v.kinds.length
  data : ∀ x ∈ v.a.raws, x.2.2.length ≤ 64
/-- The blocks but some. -/
def Ex (w : World) (gs : List Nat) : Nat → Prop := fun b => b < w.heap.size ∧ b ∉ gs
/-- What a step of a reading hands back: a fault, or the reading goes on. -/
def RetG (w : World) (B g : Nat) (gs : List Nat) (wide : Bool) (h : GH) (r : Except FtA Gr) (e : Ending) (w' : World) : Prop := Below B w w' ∧ (∀ b, h.qt w [g] b → w'.heap[b]? = w.heap[b]?) ∧ match r with
  | .error f => ∃ (A : Option Addr) (n c : Nat), e = .returned (.agg #[.int .i64 3, .int .i64 f.1, .slice A n c]) ∧ BF w' (Ex w' gs) A n f.2 ∧ n ≤ c
  | .ok v' => e = .returned (.agg #[.int .i64 0, .int .i64 0, .slice none 0 0]) ∧ ∃ h', GP w' B g gs wide h' v' ∧ Kp w w' (h.qt w [g]) (h'.qt w' [g]) ∧ (h'.cb = h.cb ∨ v'.a.comms ≠ [])
section
variable {w w' : World} {B g : Nat} {gs : List Nat} {wide : Bool} {h h' : GH} {v v' : Gr}
theorem GP.call (P : GP w B g gs wide h v) (hb : Below w.heap.size w w') : GP w' B g gs wide h v := ⟨P.blk.below hb P.blk.lt, P.q.call hb⟩
theorem GP.add {q : Nat} (P : GP w B g gs wide h v) (hb : Below w.heap.size w w') (hq : w.heap.size ≤ q) (hq' : q < w'.heap.size) : GP w' B g (q :: gs) wide h v := ⟨P.blk.below hb P.blk.lt, P.q.add hb hq hq'⟩
theorem GP.drop {q : Nat} (P : GP w B g (q :: gs) wide h v) (hm : g ∈ gs) : GP w B g gs wide h v := ⟨P.blk, P.q.drop hm⟩
theorem GP.lo (P : GP w B g gs wide h v) : B ≤ w.heap.size := Nat.le_of_lt (Nat.lt_of_le_of_lt P.q.lo P.q.hi)
theorem GP.cells (P : GP w B g gs wide h v) : w.cell? ⟨g, 0, none⟩ = some (.int .i64 v.a.origin) ∧ w.cell? ⟨g, 1, none⟩ = some (.slice h.pa h.pn h.pc) ∧ w.cell? ⟨g, 2, none⟩ = some (.int .u32 v.a.next) ∧ w.cell? ⟨g, 7, none⟩ = some (.int .u32 v.a.aggrAS) ∧ w.cell? ⟨g, 9, none⟩ = some (.slice h.ca h.cn h.cc) ∧ w.cell? ⟨g, 10, none⟩ = some (.slice h.ra h.rn h.rc) ∧ w.cell? ⟨g, 11, none⟩ = some (.slice h.ka h.kn h.kc) ∧ w.cell? ⟨g, 12, none⟩ = some (.slice h.ma h.mn h.mc) ∧ w.cell? ⟨g, 13, none⟩ = some (.bool v.hasOld) ∧ w.cell? ⟨g, 14, none⟩ = some (.int .u32 v.oldAS) ∧ w.cell? ⟨g, 15, none⟩ = some (.slice h.na h.nn h.nc) ∧ w.cell? ⟨g, 16, none⟩ = some (.bool wide) :=
  ⟨P.blk.cell 0, P.blk.cell 1, P.blk.cell 2, P.blk.cell 7, P.blk.cell 9, P.blk.cell 10, P.blk.cell 11, P.blk.cell 12, P.blk.cell 13, P.blk.cell 14, P.blk.cell 15, P.blk.cell 16⟩
/-- A store of a slice's head into the reading. -/
theorem GP.head {i : Nat} {u : Value} (hb : Blk w g 114 (GC h v wide)) (Q : GQ w B g gs h' v'.a.path v'.more v'.a.comms v'.kinds v'.a.raws v'.newAS) (hc : (GC h v wide).setIfInBounds i u = GC h' v' wide) :
    GP (w.setCell ⟨g, i, none⟩ u) B g gs wide h' v' ∧ (∀ ks, g ∈ ks → Kp w (w.setCell ⟨g, i, none⟩ u) (h'.qt w ks) (h'.qt (w.setCell ⟨g, i, none⟩ u) ks)) ∧ Below B w (w.setCell ⟨g, i, none⟩ u) := by
  have hg := only_setCell (World.grownBy.refl w (some g)) (p := ⟨g, i, none⟩) (.inl rfl) u
  have hb2 := hb.set_ i u
  rw [hc] at hb2
  exact ⟨⟨hb2, Q.at_ hb Q.mem (by decide) (by decide) (by decide) hg⟩, fun ks hks => GQ.kat h' hks hg, (Below.refl B w).setCell (p := ⟨g, i, none⟩) Q.lo u⟩
/-- A store into the reading: the slices are as they were. -/
theorem GP.store {i : Nat} {u : Value} (P : GP w B g gs wide h v) (hc : (GC h v wide).setIfInBounds i u = GC h v' wide) (e1 : v'.a.path = v.a.path) (e2 : v'.more = v.more) (e3 : v'.a.comms = v.a.comms) (e4 : v'.kinds = v.kinds) (e5 : v'.a.raws = v.a.raws) (e6 : v'.newAS = v.newAS) :
    GP (w.setCell ⟨g, i, none⟩ u) B g gs wide h v' ∧ (∀ ks, g ∈ ks → Kp w (w.setCell ⟨g, i, none⟩ u) (h.qt w ks) (h.qt (w.setCell ⟨g, i, none⟩ u) ks)) ∧ Below B w (w.setCell ⟨g, i, none⟩ u) :=
  GP.head P.blk (by rw [e1, e2, e3, e4, e5, e6]; exact P.q) hc
/-- A step that writes a block beside it. -/
theorem GP.at_ {p : Nat} {T : TypeId} {cs : Array Value} (P : GP w B g gs wide h v) (hb : Blk w p T cs) (hp : p ∈ gs) (hne : g ≠ p) (t1 : 33 ≠ T) (t2 : 100 ≠ T) (t3 : 3 ≠ T) (hg : w.grownBy w' (some p)) : GP w' B g gs wide h v :=
  ⟨P.blk.grown hg (by intro e; injection e with e; exact hne e), P.q.at_ hb hp t1 t2 t3 hg⟩
theorem BF.bsq {n : Nat} {A : Option Addr} {l : List UInt8} (hb : BF w (h.qt w gs) A n l) : BS w w.heap.size A n l := hb.bs fun b hb => hb.1
theorem flt_grown {q : Nat} {x y z : Value} (w : World) : w.grownBy (((w.setCell ⟨q, 0, none⟩ x).setCell ⟨q, 1, none⟩ y).setCell ⟨q, 2, none⟩ z) (some q) :=
  only_setCell (only_setCell (only_setCell (World.grownBy.refl w (some q)) (p := ⟨q, 0, none⟩) (.inl rfl) x) (p := ⟨q, 1, none⟩) (.inl rfl) y) (p := ⟨q, 2, none⟩) (.inl rfl) z
/-- The end with a fault. -/
theorem RetG.err {w0 w1 : World} {q : Nat} {A : Option Addr} {n c : Nat} {l : List UInt8} {r : Except FtA Gr} {k : Int} {a b d : Value} (hB : Below B w0 w1) (hq : B ≤ q) (hq0 : w0.heap.size ≤ q) (hs : ∀ b, h.qt w0 [g] b → w1.heap[b]? = w0.heap[b]?) (hR : Blk w1 q 69 #[a, b, d]) (hl : BF w1 (h'.qt w1 (q :: gs)) A n l) (hnc : n ≤ c) (hr : r = .error (k, l)) :
    RetG w0 B g gs wide h r (.returned (.agg #[.int .i64 3, .int .i64 k, .slice A n c])) (((w1.setCell ⟨q, 0, none⟩ (.int .i64 3)).setCell ⟨q, 1, none⟩ (.int .i64 k)).setCell ⟨q, 2, none⟩ (.slice A n c)) := by
  refine ⟨flt_below hB hq, fun b hb => ((flt_grown w1).block b (Nat.lt_of_lt_of_le hb.1 hB.size) (fun e => by injection e with e; have := hb.1; omega)).trans (hs b hb), ?_⟩
  rw [hr]
  exact ⟨A, n, c, rfl, (hl.keep (GQ.kat h' (List.mem_cons_self ..) (flt_grown w1))).keep (Kp.sub fun b hb => ⟨hb.1, fun hm => hb.2.1 (List.mem_cons_of_mem _ hm)⟩), hnc⟩
/-- The end without one. -/
theorem RetG.fin {w0 w1 : World} {q : Nat} {r : Except FtA Gr} {a b d : Value} (hB : Below B w0 w1) (hq : B ≤ q) (hR : Blk w1 q 69 #[a, b, d]) (P : GP w1 B g (q :: gs) wide h' v') (hm : g ∈ gs) (hne : g ≠ q) (hK : Kp w0 w1 (h.qt w0 [g]) (h'.qt w1 [q, g])) (hcb : h'.cb = h.cb ∨ v'.a.comms ≠ []) (hr : r = .ok v') :
    RetG w0 B g gs wide h r (.returned (.agg #[.int .i64 0, .int .i64 0, .slice none 0 0])) (((w1.setCell ⟨q, 0, none⟩ (.int .i64 0)).setCell ⟨q, 1, none⟩ (.int .i64 0)).setCell ⟨q, 2, none⟩ (.slice none 0 0)) := by
  have hK2 := (hK.trans (GQ.kat h' (p := q) (List.mem_cons_self ..) (flt_grown (q := q) (x := .int .i64 0) (y := .int .i64 0) (z := .slice none 0 0) w1))).trans (GQ.kdrop (q := q) (gs := [g]) _ h')
  refine ⟨flt_below hB hq, fun b hb => (hK2 b hb).2, ?_⟩
  rw [hr]
  exact ⟨rfl, h', (P.at_ hR (List.mem_cons_self ..) hne (by decide) (by decide) (by decide) (flt_grown w1)).drop hm, hK2, hcb⟩
end
set_option maxHeartbeats 8000000 in
set_option maxRecDepth 100000 in
theorem attUnk (B g : Nat) (gs : List Nat) (h : GH) (v : Gr) (wide : Bool) (fl kind : Int) (A : Option Addr) (n c : Nat) (all : List UInt8) (A' : Option Addr) (n' c' : Nat) (val : List UInt8) (w : World) (P : GP w B g gs wide h v) (D : BdG v) (hall : BF w (h.qt w gs) A n all) (hnc : n ≤ c) (hval : BF w (h.qt w gs) A' n' val) (hnc' : n' ≤ c') (hf : 0 ≤ fl ∧ fl ≤ 255) (hk : 0 ≤ kind ∧ kind ≤ 255) :
    Calls Tryd.prog 103 #[.pointer (some ⟨g, 0, none⟩), .agg #[.int .i64 fl, .int .i64 kind, .slice A n c, .slice A' n' c']] w (RetG w B g gs wide h (unkA v ⟨fl, kind, all, val⟩)) := by
  obtain ⟨W, hW, hX, hR, b0⟩ := boxes2 w #[.int .i64 fl, .int .i64 kind, .slice A n c, .slice A' n' c'] #[.int .i64 0, .int .i64 0, .slice none 0 0] 117 69
  obtain ⟨q, hq⟩ : ∃ q, w.heap.size = q := ⟨_, rfl⟩
  obtain ⟨Bz, hBz⟩ : ∃ x, q + 1 = x := ⟨_, rfl⟩
  rw [hq] at hX hR
  rw [hBz] at hR
  have hXl := hX.lt
  have hRl := hR.lt
  have hgq : g < q := by rw [← hq]; exact P.q.hi
  have hgm := P.q.mem
  have hqz : q < Bz := by omega
  have PW := P.add b0 (q := Bz) (by omega) hRl
  have KW : Kp w W (h.qt w gs) (h.qt W (Bz :: gs)) := GQ.kadd h b0 (by omega)
  have KG : Kp w W (h.qt w [g]) (h.qt W [Bz, g]) := GQ.kadd h b0 (by omega)
  have hwz : w.heap.size ≤ Bz := by omega
  have hallW := hall.keep KW
  have hvalW := hval.keep KW
  have bB := b0.mono P.lo
  have hBq : B ≤ Bz := by have := P.lo; omega
  have g10 : W.cell? ⟨g, 10, none⟩ = some (.slice h.ra h.rn h.rc) := PW.blk.cell 10
  have a3 := (andK hf.1 hf.2).2.2.1
  have a4 := (andK hf.1 hf.2).2.2.2
  obtain ⟨F, hF⟩ : ∃ x, fl / 128 % 2 * 128 = x := ⟨_, rfl⟩
  obtain ⟨G, hG⟩ : ∃ x, fl / 64 % 2 * 64 = x := ⟨_, rfl⟩
  rw [hF] at a3
  rw [hG] at a4
  have HOP := Lib.hid (show optF fl = true ↔ F ≠ 0 by rw [← hF]; unfold optF; rw [decide_eq_true_eq]; omega)
  have HTR := Lib.hid (show trF fl = true ↔ G ≠ 0 by rw [← hG]; unfold trF; rw [decide_eq_true_eq]; omega)
  have HNV := Lib.hid hval.1
  have HRN := Lib.hid P.q.raws.len
  have HK := Lib.hid KG
  have x0 := hX.cell 0
  have x1 := hX.cell 1
  have x2 := hX.cell 2
  have x3 := hX.cell 3
  clear hF hG hall hval KW KG
  go_enter Tryd.func103, Tryd.ntmps103
  go_upto_region 1 with fail
  try rw [hW]
  try rw [hq]
  try rw [hBz]
  clear hW hBz hq
  by_cases c1 : F = 0
  case pos =>
    have t1 : (F == 0) = true := by simpa using c1
    have HE := Lib.hid (show unkA v ⟨fl, kind, all, val⟩ = .error (2, all) by
      have : optF fl = false := Bool.eq_false_iff.2 fun ho => HOP.out.1 ho c1
      unfold unkA; simp only; rw [if_pos this])
    clear c1
    go_wp2_with fail
    refine (attFault 2 A n c W).mono ?_
    rintro _ w4 ⟨rfl, b4⟩
    have hR4 := hR.below b4 hRl
    have fe0 := hR4.cell 0
    have ff0 := hR4.frozen 0
    have fe1 := hR4.cell 1
    have ff1 := hR4.frozen 1
    have fe2 := hR4.cell 2
    have ff2 := hR4.frozen 2
    go_wp2_with fail
    exact bodyPost_ret (fltA_ret rfl _ _ Bz _ _ _ rfl (flt_store hR4)) rfl (RetG.err (btr bB b4 (by omega)) hBq hwz (fun b hb => (btr b0 b4 b0.size).block b hb.1) hR4 (hallW.keep (GQ.kcall h b4)) hnc HE.out)
  have t1 : (F == 0) = false := by simpa using c1
  have HO1 := Lib.hid (show ¬ optF fl = false from fun ho => by rw [HOP.out.2 c1] at ho; cases ho)
  clear c1
  by_cases c2 : G = 0
  case pos =>
    have t2 : (G == 0) = true := by simpa using c2
    have HE := Lib.hid (show unkA v ⟨fl, kind, all, val⟩ = .ok v by
      have : trF fl = false := Bool.eq_false_iff.2 fun ho => HTR.out.1 ho c2
      unfold unkA; simp only; rw [if_neg HO1.out, if_pos this])
    clear c2
    have fe0 := hR.cell 0
    have ff0 := hR.frozen 0
    have fe1 := hR.cell 1
    have ff1 := hR.frozen 1
    have fe2 := hR.cell 2
    have ff2 := hR.frozen 2
    go_wp2_with fail
    exact bodyPost_ret (fltA_ret rfl _ _ Bz _ _ _ rfl (flt_store hR)) rfl (RetG.fin bB hBq hR PW hgm (by omega) HK.out (.inl rfl) HE.out)
  have t2 : (G == 0) = false := by simpa using c2
  have HT1 := Lib.hid (show ¬ trF fl = false from fun ho => by rw [HTR.out.2 c2] at ho; cases ho)
  clear c2
  -- UNK
  by_cases c3 : 64 < n' ∨ 8 ≤ h.rn
  case pos =>
    have HE := Lib.hid (show unkA v ⟨fl, kind, all, val⟩ = .error (9, all) by
      unfold unkA; simp only; rw [if_neg HO1.out, if_neg HT1.out, if_pos (by rw [← HNV.out, ← HRN.out]; exact c3)])
    by_cases c4 : 64 < n'
    case pos =>
      have t3 : decide ((64 : Int) < (n' : Int)) = true := decide_eq_true (by omega)
      have t3' : decide (64 < n') = true := decide_eq_true c4
      clear c3 c4
      go_wp2_with fail
      refine (attFault 9 A n c W).mono ?_
      rintro _ w4 ⟨rfl, b4⟩
      have hR4 := hR.below b4 hRl
      have fe0 := hR4.cell 0
      have ff0 := hR4.frozen 0
      have fe1 := hR4.cell 1
      have ff1 := hR4.frozen 1
      have fe2 := hR4.cell 2
      have ff2 := hR4.frozen 2
      go_wp2_with fail
      exact bodyPost_ret (fltA_ret rfl _ _ Bz _ _ _ rfl (flt_store hR4)) rfl (RetG.err (btr bB b4 (by omega)) hBq hwz (fun b hb => (btr b0 b4 b0.size).block b hb.1) hR4 (hallW.keep (GQ.kcall h b4)) hnc HE.out)
    have c5 : 8 ≤ h.rn := by omega
    have t3 : decide ((64 : Int) < (n' : Int)) = false := decide_eq_false (by omega)
    have t3' : decide (64 < n') = false := decide_eq_false c4
    have t4 : decide ((8 : Int) ≤ (h.rn : Int)) = true := decide_eq_true (by omega)
    have t4' : decide (8 ≤ h.rn) = true := decide_eq_true c5
    clear c3 c4 c5
    go_wp2_with fail
    refine (attFault 9 A n c W).mono ?_
    rintro _ w4 ⟨rfl, b4⟩
    have hR4 := hR.below b4 hRl
    have fe0 := hR4.cell 0
    have ff0 := hR4.frozen 0
    have fe1 := hR4.cell 1
    have ff1 := hR4.frozen 1
    have fe2 := hR4.cell 2
    have ff2 := hR4.frozen 2
    go_wp2_with fail
    exact bodyPost_ret (fltA_ret rfl _ _ Bz _ _ _ rfl (flt_store hR4)) rfl (RetG.err (btr bB b4 (by omega)) hBq hwz (fun b hb => (btr b0 b4 b0.size).block b hb.1) hR4 (hallW.keep (GQ.kcall h b4)) hnc HE.out)
  have t3 : decide ((64 : Int) < (n' : Int)) = false := decide_eq_false (by omega)
  have t3' : decide (64 < n') = false := decide_eq_false (by omega)
  have t4 : decide ((8 : Int) ≤ (h.rn : Int)) = false := decide_eq_false (by omega)
  have t4' : decide (8 ≤ h.rn) = false := decide_eq_false (by omega)
  have HE0 := Lib.hid (show unkA v ⟨fl, kind, all, val⟩ = .ok { v with a := { v.a with raws := insR v.a.raws ⟨fl, kind, all, val⟩ } } by
    unfold unkA; simp only; rw [if_neg HO1.out, if_neg HT1.out, if_neg (by rw [← HNV.out, ← HRN.out]; exact c3)])
  clear c3
  have HIDX := Lib.hid (idxRaw h.ra h.rn h.rc q v.a.raws kind W (PW.q.raws.dl Qt.lt) (by have := HRN.out; have := D.raws; omega) hXl x1)
  go_wp2_with fail
  refine HIDX.out.mono ?_
  rintro _ w5 ⟨⟨v5, rfl, hv⟩, b5⟩
  have P5 := PW.call b5
  have X5 := hX.below b5 hXl
  have hR5 := hR.below b5 hRl
  have K5 := HK.out.trans (GQ.kcall h b5)
  have b05 := btr bB b5 (by have := PW.lo; omega)
  have b05B : B ≤ w5.heap.size := P5.lo
  obtain ⟨i, hii⟩ : ∃ i, rawPos v.a.raws kind = i := ⟨_, rfl⟩
  rw [hii] at hv
  have HE := Lib.hid (show unkA v ⟨fl, kind, all, val⟩ = .ok { v with a := { v.a with raws := v.a.raws.take i ++ [(224, kind, val)] ++ v.a.raws.drop i } } by
    rw [HE0.out]; unfold insR; simp only; rw [hii])
  have hi : i ≤ h.rn := by
    have := rawPos_le v.a.raws kind
    have := HRN.out
    omega
  have g10' : w5.cell? ⟨g, 10, none⟩ = some (.slice h.ra h.rn h.rc) := P5.blk.cell 10
  clear hii a3 a4 t1 t2 x0 x1 x2 x3 g10
  rcases hv with ⟨h0, rfl, hlt⟩ | ⟨rfl, hlen⟩
  · have u1 : decide ((i : Int) < 0) = false := decide_eq_false (by omega)
    clear h0 hlt
    have hvd := (hvalW.keep (GQ.kcall h b5)).keep (GQ.kcall h ((Below.refl w5.heap.size w5).drew))
    have Pd := P5.call ((Below.refl w5.heap.size w5).drew)
    have Xd := X5.below ((Below.refl w5.heap.size w5).drew) X5.lt
    have Rd := hR5.below ((Below.refl w5.heap.size w5).drew) hR5.lt
    have Kd := K5.trans (GQ.kcall h ((Below.refl w5.heap.size w5).drew))
    have bd : Below B w w5.drew := btr b05 ((Below.refl w5.heap.size w5).drew) b05B
    clear b5 P5 X5 hR5 K5 b05
    go_upto_region 10 with fail
    rename_i hkk
    have HKK := Lib.hid hkk
    clear hkk
    obtain ⟨wd, hwd⟩ : ∃ x, w5.drew = x := ⟨_, rfl⟩
    rw [hwd] at hvd Pd Xd Rd Kd bd
    have HWD := Lib.hid hwd
    clear hwd
    have hzd : B ≤ wd.heap.size := Pd.lo
    obtain ⟨css, cl, crn, co, cr, c3⟩ := Pd.q.raws
    clear crn
    have y1 : wd.cell? ⟨q, 1, none⟩ = some (.int .i64 kind) := Xd.cell 1
    have y3 : wd.cell? ⟨q, 3, none⟩ = some (.slice A' n' c') := Xd.cell 3
    have g10d : wd.cell? ⟨g, 10, none⟩ = some (.slice h.ra h.rn h.rc) := Pd.blk.cell 10
    have hV := Blk.new wd 100 #[.int .i64 224, .int .i64 kind, .slice A' n' c']
    have bV := (Below.refl wd.heap.size wd).alloc (Nat.le_refl _) (.cells #[.int .i64 224, .int .i64 kind, .slice A' n' c'] 100)
    have PV := Pd.call bV
    have XV := Xd.below bV Xd.lt
    have RV := Rd.below bV Rd.lt
    have KV := Kd.trans (GQ.kcall h bV)
    have bdV := btr bd bV hzd
    have yV1 : (wd.alloc (.cells #[.int .i64 224, .int .i64 kind, .slice A' n' c'] 100)).cell? ⟨q, 1, none⟩ = some (.int .i64 kind) := XV.cell 1
    have yV3 : (wd.alloc (.cells #[.int .i64 224, .int .i64 kind, .slice A' n' c'] 100)).cell? ⟨q, 3, none⟩ = some (.slice A' n' c') := XV.cell 3
    have g10V : (wd.alloc (.cells #[.int .i64 224, .int .i64 kind, .slice A' n' c'] 100)).cell? ⟨g, 10, none⟩ = some (.slice h.ra h.rn h.rc) := PV.blk.cell 10
    have coV := own_alloc2 co (.cells #[.int .i64 224, .int .i64 kind, .slice A' n' c'] 100)
    have hnV : Value.ownBlock (.slice h.ra h.rn h.rc) ≠ some wd.heap.size := fun e => by have := (co.lt _ e).2; omega
    have HINS := Lib.hid (insertR B h.ra h.rn h.rc i wd.heap.size 100 css.flatten [.int .i64 224, .int .i64 kind, .slice A' n' c'] _ coV hi hV rfl hnV (by intro u hu; simp at hu; rcases hu with rfl | rfl | rfl <;> rfl) (fun u hu => by
        obtain ⟨cs, hcs, hu⟩ := List.mem_flatten.1 hu
        obtain ⟨m, hm⟩ := List.getElem?_of_mem hcs
        have hml := (List.getElem?_eq_some_iff.1 hm).1
        exact rRaw_ok.one (cr m cs _ hm (List.getElem?_eq_getElem (by omega))) u hu) (by have := HRN.out; have := D.raws; omega) (by have := bV.size; omega))
    have HRAW : ∀ (S' : Nat → Prop), Kp wd (wd.alloc (.cells #[.int .i64 224, .int .i64 kind, .slice A' n' c'] 100)) (h.qt wd (Bz :: gs)) S' → rRaw (wd.alloc (.cells #[.int .i64 224, .int .i64 kind, .slice A' n' c'] 100)) S' [.int .i64 224, .int .i64 kind, .slice A' n' c'] (224, kind, val) := fun S' hk' => rRaw_cells (hvd.keep hk') hnc' hk
    have HFIN := Lib.hid (show ∀ (A2 : Option Addr) (c2 : Nat) (w6 : World), w6.ownsRow B 100 3 (.slice A2 (h.rn + 1) c2) (h.rn + 1) (css.flatten.take (i * 3) ++ [.int .i64 224, .int .i64 kind, .slice A' n' c'] ++ css.flatten.drop (i * 3)) → (wd.alloc (.cells #[.int .i64 224, .int .i64 kind, .slice A' n' c'] 100)).grownBy w6 (Value.ownBlock (.slice h.ra h.rn h.rc)) → (Value.ownBlock (.slice A2 (h.rn + 1) c2) = Value.ownBlock (.slice h.ra h.rn h.rc) ∨ Value.ownBlock (.slice A2 (h.rn + 1) c2) = some (wd.alloc (.cells #[.int .i64 224, .int .i64 kind, .slice A' n' c'] 100)).heap.size) →
        ∃ w7, w6.setCell ⟨g, 10, none⟩ (.slice A2 (h.rn + 1) c2) = w7 ∧ Blk w7 Bz 69 #[.int .i64 0, .int .i64 0, .slice none 0 0] ∧ RetG w B g gs wide h (unkA v ⟨fl, kind, all, val⟩) (.returned (.agg #[.int .i64 0, .int .i64 0, .slice none 0 0])) (((w7.setCell ⟨Bz, 0, none⟩ (.int .i64 0)).setCell ⟨Bz, 1, none⟩ (.int .i64 0)).setCell ⟨Bz, 2, none⟩ (.slice none 0 0)) from by
      intro A2 c2 w6 o6 g6 hat
      obtain ⟨Q6, K6⟩ := PV.q.raws_ins cl (fun m cs a hm ha => rRaw_ok.keep (cr m cs a hm ha) (GQ.kcall h bV)) c3 coV (HRAW _ (GQ.kcall h bV)) (by have := HRN.out; omega) o6 g6 hat
      have nq : ∀ {b : Nat} {T : TypeId} {cs : Array Value}, Blk wd b T cs → 100 ≠ T → some b ≠ Value.ownBlock (.slice h.ra h.rn h.rc) := fun hb hne e => own_blk_ne co hb hne e.symm
      have hb6 := (PV.blk).grown g6 (nq Pd.blk (by decide))
      have hR6 := RV.grown g6 (nq Rd (by decide))
      have b6 : Below B w w6 := bdV.grown g6 (Nat.le_trans hzd bV.size) (fun k hk => (co.lt k hk).1)
      obtain ⟨P7, K7, b7⟩ := GP.head (i := 10) (u := .slice A2 (h.rn + 1) c2) (v' := { v with a := { v.a with raws := v.a.raws.take (i) ++ [(224, kind, val)] ++ v.a.raws.drop (i) } }) hb6 Q6 rfl
      refine ⟨_, rfl, hR6.far (p := ⟨g, 10, none⟩) (by show Bz ≠ g; omega) _, ?_⟩
      refine RetG.fin (b6.trans b7) hBq (hR6.far (p := ⟨g, 10, none⟩) (by show Bz ≠ g; omega) _) P7 hgm (by omega) ((KV.trans (K6 _)).trans (K7 _ (by simp))) (.inl rfl) ?_
      rw [HE.out])
    have nqd : ∀ {b : Nat} {T : TypeId} {cs : Array Value}, Blk wd b T cs → 100 ≠ T → some b ≠ Value.ownBlock (.slice h.ra h.rn h.rc) := fun hb hne e => own_blk_ne co hb hne e.symm
    have HZ1 := Lib.hid (show ∀ w6, (wd.alloc (.cells #[.int .i64 224, .int .i64 kind, .slice A' n' c'] 100)).grownBy w6 (Value.ownBlock (.slice h.ra h.rn h.rc)) → w6.cell? ⟨q, 1, none⟩ = some (.int .i64 kind) ∧ w6.cell? ⟨q, 3, none⟩ = some (.slice A' n' c') ∧ w6.frozen? ⟨g, 10, none⟩ = false ∧ w6.cell? ⟨g, 10, none⟩ = some (.slice h.ra h.rn h.rc) from fun w6 g6 => ⟨(XV.grown g6 (nqd Xd (by decide))).cell 1, (XV.grown g6 (nqd Xd (by decide))).cell 3, (PV.blk.grown g6 (nqd Pd.blk (by decide))).frozen 10, (PV.blk.grown g6 (nqd Pd.blk (by decide))).cell 10⟩)
    have HV1 := Lib.hid (show ∀ (w6 w7 : World) (u : Value), w6.setCell ⟨g, 10, none⟩ u = w7 → w6.cell? ⟨q, 1, none⟩ = some (.int .i64 kind) → w6.cell? ⟨q, 3, none⟩ = some (.slice A' n' c') → w7.cell? ⟨q, 1, none⟩ = some (.int .i64 kind) ∧ w7.cell? ⟨q, 3, none⟩ = some (.slice A' n' c') from by
      rintro w6 w7 u rfl z1 z3
      exact ⟨(World.cell?_setCell_far _ _ _ _ (by show g ≠ q; omega)).trans z1, (World.cell?_setCell_far _ _ _ _ (by show g ≠ q; omega)).trans z3⟩)
    have bdZ := bV.size
    clear co coV cr PV XV RV KV bdV Pd Xd Rd Kd bd hV bV hvd HRAW cl c3 hnV nqd
    refine wp_region_held_drew (S := (fun w' => w'.cell? ⟨q, 1, none⟩ = some (.int .i64 kind) ∧ w'.cell? ⟨q, 3, none⟩ = some (.slice A' n' c'))) (by kernel_rfl) ?_ (fun hHeld => ?_)
    · rw [HWD.out]; exact ⟨y1, y3⟩
    rw [HWD.out]
    rw [HWD.out] at hHeld
    refine wpAnyH_take (i := 0) (v := ?pav0) rfl (by kernel_rfl) (by kernel_rfl) (by kernel_rfl) (by intro _ _ _ h; exact h) (Or.inl ⟨by rfl, ?pahy0⟩) (by assumption) ?parest0
    case pahy0 => (intro w hSw; (try dsimp only at hSw); go_simp; try with_reducible rfl)
    try simp only [Act.put, List.getElem_toArray, List.getElem_cons_succ, List.getElem_cons_zero, List.setIfInBounds_toArray, List.set_cons_zero, List.set_cons_succ]
    refine wpAnyH_take (i := 1) (v := ?pav1) rfl (by kernel_rfl) (by kernel_rfl) (by kernel_rfl) (by intro _ _ _ h; exact h) (Or.inl ⟨by rfl, ?pahy1⟩) (by assumption) ?parest1
    case pahy1 => (intro w hSw; (try dsimp only at hSw); go_simp; try with_reducible rfl)
    try simp only [Act.put, List.getElem_toArray, List.getElem_cons_succ, List.getElem_cons_zero, List.setIfInBounds_toArray, List.set_cons_zero, List.set_cons_succ]
    refine wpAnyH_take (i := 2) (v := ?pav2) rfl (by kernel_rfl) (by kernel_rfl) (by kernel_rfl) (by intro _ _ _ h; exact h) (Or.inl ⟨by rfl, ?pahy2⟩) (by assumption) ?parest2
    case pahy2 => (intro w hSw; (try dsimp only at hSw); go_simp; try with_reducible rfl)
    try simp only [Act.put, List.getElem_toArray, List.getElem_cons_succ, List.getElem_cons_zero, List.setIfInBounds_toArray, List.set_cons_zero, List.set_cons_succ]
    refine wpAnyH_take (i := 3) (v := ?pav3) rfl (by kernel_rfl) (by kernel_rfl) (by kernel_rfl) (by intro _ _ _ h; exact h) (Or.inl ⟨by rfl, ?pahy3⟩) (by assumption) ?parest3
    case pahy3 => (intro w hSw; (try dsimp only at hSw); go_simp; try with_reducible rfl)
    try simp only [Act.put, List.getElem_toArray, List.getElem_cons_succ, List.getElem_cons_zero, List.setIfInBounds_toArray, List.set_cons_zero, List.set_cons_succ]
    refine wpAnyH_take (i := 4) (v := ?pav4) rfl (by kernel_rfl) (by kernel_rfl) (by kernel_rfl) (by intro _ _ _ h; exact h) (Or.inl ⟨by rfl, ?pahy4⟩) (by assumption) ?parest4
    case pahy4 => (intro w hSw; (try dsimp only at hSw); go_simp; try with_reducible rfl)
    try simp only [Act.put, List.getElem_toArray, List.getElem_cons_succ, List.getElem_cons_zero, List.setIfInBounds_toArray, List.set_cons_zero, List.set_cons_succ]
    refine wpAnyH_take (i := 6) (v := ?pav6) rfl (by kernel_rfl) (by kernel_rfl) (by kernel_rfl) (by intro _ _ _ h; exact h) (Or.inl ⟨by rfl, ?pahy6⟩) (by assumption) ?parest6
    case pahy6 => (intro w hSw; (try dsimp only at hSw); go_simp; try with_reducible rfl)
    try simp only [Act.put, List.getElem_toArray, List.getElem_cons_succ, List.getElem_cons_zero, List.setIfInBounds_toArray, List.set_cons_zero, List.set_cons_succ]
    refine wpAnyH_take (i := 7) (v := ?pav7) rfl (by kernel_rfl) (by kernel_rfl) (by kernel_rfl) (by intro _ _ _ h; exact h) (Or.inl ⟨by rfl, ?pahy7⟩) (by assumption) ?parest7
    case pahy7 => (intro w hSw; (try dsimp only at hSw); go_simp; try with_reducible rfl)
    try simp only [Act.put, List.getElem_toArray, List.getElem_cons_succ, List.getElem_cons_zero, List.setIfInBounds_toArray, List.set_cons_zero, List.set_cons_succ]
    refine wpAnyH_take (i := 8) (v := ?pav8) rfl (by kernel_rfl) (by kernel_rfl) (by kernel_rfl) (by intro _ _ _ h; exact h) (Or.inl ⟨by rfl, ?pahy8⟩) (by assumption) ?parest8
    case pahy8 => (intro w hSw; (try dsimp only at hSw); go_simp; try with_reducible rfl)
    try simp only [Act.put, List.getElem_toArray, List.getElem_cons_succ, List.getElem_cons_zero, List.setIfInBounds_toArray, List.set_cons_zero, List.set_cons_succ]
    refine wpAnyH_take (i := 9) (v := ?pav9) rfl (by kernel_rfl) (by kernel_rfl) (by kernel_rfl) (by intro _ _ _ h; exact h) (Or.inl ⟨by rfl, ?pahy9⟩) (by assumption) ?parest9
    case pahy9 => (intro w hSw; (try dsimp only at hSw); go_simp; try with_reducible rfl)
    try simp only [Act.put, List.getElem_toArray, List.getElem_cons_succ, List.getElem_cons_zero, List.setIfInBounds_toArray, List.set_cons_zero, List.set_cons_succ]
    refine wpAnyH_take (i := 10) (v := ?pav10) rfl (by kernel_rfl) (by kernel_rfl) (by kernel_rfl) (by intro _ _ _ h; exact h) (Or.inl ⟨by rfl, ?pahy10⟩) (by assumption) ?parest10
    case pahy10 => (intro w hSw; (try dsimp only at hSw); go_simp; try with_reducible rfl)
    try simp only [Act.put, List.getElem_toArray, List.getElem_cons_succ, List.getElem_cons_zero, List.setIfInBounds_toArray, List.set_cons_zero, List.set_cons_succ]
    refine wpAnyH_take (i := 11) (v := ?pav11) rfl (by kernel_rfl) (by kernel_rfl) (by kernel_rfl) (by intro _ _ _ h; exact h) (Or.inl ⟨by rfl, ?pahy11⟩) (by assumption) ?parest11
    case pahy11 => (intro w hSw; (try dsimp only at hSw); go_simp; try with_reducible rfl)
    try simp only [Act.put, List.getElem_toArray, List.getElem_cons_succ, List.getElem_cons_zero, List.setIfInBounds_toArray, List.set_cons_zero, List.set_cons_succ]
    refine wpAnyH_ready (rs := [5, 12]) (by kernel_rfl) (by simp) ?_
    refine AllReadyH.cons rfl (fun K hK => ?_) (AllReadyH.cons rfl (fun K hK => ?_) AllReadyH.nil)
    · skip
      go_simp
      go_wp2_with (fail)
      refine hK.out _ _ ?_ (fun hHeld => ?_)
      · try dsimp only
        first | exact ⟨yV1, yV3⟩ | exact ⟨y1, y3⟩
      clear hK K
      refine wpAnyH_ready (rs := [12]) (by kernel_rfl) (by simp) ?_
      refine AllReadyH.cons rfl (fun K hK => ?_) AllReadyH.nil
      go_simp
      go_wp2_with (fail)
      refine hK.out _ _ ?_ (fun hHeld => ?_)
      · try dsimp only
        first | exact ⟨yV1, yV3⟩ | exact ⟨y1, y3⟩
      clear hK K
      refine wpAnyH_ready (rs := [13]) (by kernel_rfl) (by simp) ?_
      refine AllReadyH.cons rfl (fun K hK => ?_) AllReadyH.nil
      go_simp
      go_wp2_with ((go_at_call 127; refine HINS.out.mono ?_; rintro _ w6 ⟨A2, c2, rfl, o6, g6, hat⟩; obtain ⟨w7, hw7, hR7, HE7⟩ := HFIN.out A2 c2 w6 o6 g6 hat; obtain ⟨z1, z3, gf, gc⟩ := HZ1.out w6 g6; clear o6 g6 hat; have HW7 := Lib.hid hw7; have HR7 := Lib.hid hR7; clear hw7 hR7))
      refine hK.out _ _ ?_ (fun hHeld => ?_)
      · try dsimp only
        exact ⟨z1, z3⟩
      clear hK K
      refine wpAnyH_take (i := 14) (v := ?paxv14) rfl (by kernel_rfl) (by kernel_rfl) (by kernel_rfl) (by intro _ _ _ h; exact h) (Or.inl ⟨by rfl, ?paxhy14⟩) (by assumption) ?paxrest14
      case paxhy14 => (intro w hSw; (try dsimp only at hSw); go_simp; try with_reducible rfl)
      try simp only [Act.put, List.getElem_toArray, List.getElem_cons_succ, List.getElem_cons_zero, List.setIfInBounds_toArray, List.set_cons_zero, List.set_cons_succ]
      refine wpAnyH_take (i := 15) (v := ?paxv15) rfl (by kernel_rfl) (by kernel_rfl) (by kernel_rfl) (by intro _ _ _ h; exact h) (Or.inl ⟨by rfl, ?paxhy15⟩) (by assumption) ?paxrest15
      case paxhy15 => (intro w hSw; (try dsimp only at hSw); go_simp; try with_reducible rfl)
      try simp only [Act.put, List.getElem_toArray, List.getElem_cons_succ, List.getElem_cons_zero, List.setIfInBounds_toArray, List.set_cons_zero, List.set_cons_succ]
      refine wpAnyH_take (i := 16) (v := ?paxv16) rfl (by kernel_rfl) (by kernel_rfl) (by kernel_rfl) (by intro _ _ _ h; exact h) (Or.inl ⟨by rfl, ?paxhy16⟩) (by assumption) ?paxrest16
      case paxhy16 => (intro w hSw; (try dsimp only at hSw); go_simp; try with_reducible rfl)
      try simp only [Act.put, List.getElem_toArray, List.getElem_cons_succ, List.getElem_cons_zero, List.setIfInBounds_toArray, List.set_cons_zero, List.set_cons_succ]
      refine wpAnyH_ready (rs := [17]) (by kernel_rfl) (by simp) ?_
      refine AllReadyH.cons rfl (fun K hK => ?_) AllReadyH.nil
      go_simp
      go_wp2_with (fail)
      rw [HW7.out]
      refine hK.out _ _ ?_ (fun hHeld => ?_)
      · try dsimp only
        exact HV1.out w6 w7 _ HW7.out z1 z3
      clear hK K
      refine wpAnyH_done (by kernel_rfl) ?_ _
      refine HKK.out _ _ ?_
      clear hHeld z1 z3 gf gc HZ1 HFIN HINS HV1 y1 y3 yV1 yV3 g10d g10V
      have fe0 := HR7.out.cell 0
      have ff0 := HR7.out.frozen 0
      have fe1 := HR7.out.cell 1
      have ff1 := HR7.out.frozen 1
      have fe2 := HR7.out.cell 2
      have ff2 := HR7.out.frozen 2
      go_wp2_with fail
      exact bodyPost_ret (fltA_ret rfl _ _ Bz _ _ _ rfl (flt_store HR7.out)) rfl HE7
    · skip
      go_simp
      go_wp2_with (fail)
      refine hK.out _ _ ?_ (fun hHeld => ?_)
      · try dsimp only
        first | exact ⟨yV1, yV3⟩ | exact ⟨y1, y3⟩
      clear hK K
      refine wpAnyH_ready (rs := [5]) (by kernel_rfl) (by simp) ?_
      refine AllReadyH.cons rfl (fun K hK => ?_) AllReadyH.nil
      go_simp
      go_wp2_with (fail)
      refine hK.out _ _ ?_ (fun hHeld => ?_)
      · try dsimp only
        first | exact ⟨yV1, yV3⟩ | exact ⟨y1, y3⟩
      clear hK K
      refine wpAnyH_ready (rs := [13]) (by kernel_rfl) (by simp) ?_
      refine AllReadyH.cons rfl (fun K hK => ?_) AllReadyH.nil
      go_simp
      go_wp2_with ((go_at_call 127; refine HINS.out.mono ?_; rintro _ w6 ⟨A2, c2, rfl, o6, g6, hat⟩; obtain ⟨w7, hw7, hR7, HE7⟩ := HFIN.out A2 c2 w6 o6 g6 hat; obtain ⟨z1, z3, gf, gc⟩ := HZ1.out w6 g6; clear o6 g6 hat; have HW7 := Lib.hid hw7; have HR7 := Lib.hid hR7; clear hw7 hR7))
      refine hK.out _ _ ?_ (fun hHeld => ?_)
      · try dsimp only
        exact ⟨z1, z3⟩
      clear hK K
      refine wpAnyH_take (i := 14) (v := ?payv14) rfl (by kernel_rfl) (by kernel_rfl) (by kernel_rfl) (by intro _ _ _ h; exact h) (Or.inl ⟨by rfl, ?payhy14⟩) (by assumption) ?payrest14
      case payhy14 => (intro w hSw; (try dsimp only at hSw); go_simp; try with_reducible rfl)
      try simp only [Act.put, List.getElem_toArray, List.getElem_cons_succ, List.getElem_cons_zero, List.setIfInBounds_toArray, List.set_cons_zero, List.set_cons_succ]
      refine wpAnyH_take (i := 15) (v := ?payv15) rfl (by kernel_rfl) (by kernel_rfl) (by kernel_rfl) (by intro _ _ _ h; exact h) (Or.inl ⟨by rfl, ?payhy15⟩) (by assumption) ?payrest15
      case payhy15 => (intro w hSw; (try dsimp only at hSw); go_simp; try with_reducible rfl)
      try simp only [Act.put, List.getElem_toArray, List.getElem_cons_succ, List.getElem_cons_zero, List.setIfInBounds_toArray, List.set_cons_zero, List.set_cons_succ]
      refine wpAnyH_take (i := 16) (v := ?payv16) rfl (by kernel_rfl) (by kernel_rfl) (by kernel_rfl) (by intro _ _ _ h; exact h) (Or.inl ⟨by rfl, ?payhy16⟩) (by assumption) ?payrest16
      case payhy16 => (intro w hSw; (try dsimp only at hSw); go_simp; try with_reducible rfl)
      try simp only [Act.put, List.getElem_toArray, List.getElem_cons_succ, List.getElem_cons_zero, List.setIfInBounds_toArray, List.set_cons_zero, List.set_cons_succ]
      refine wpAnyH_ready (rs := [17]) (by kernel_rfl) (by simp) ?_
      refine AllReadyH.cons rfl (fun K hK => ?_) AllReadyH.nil
      go_simp
      go_wp2_with (fail)
      rw [HW7.out]
      refine hK.out _ _ ?_ (fun hHeld => ?_)
      · try dsimp only
        exact HV1.out w6 w7 _ HW7.out z1 z3
      clear hK K
      refine wpAnyH_done (by kernel_rfl) ?_ _
      refine HKK.out _ _ ?_
      clear hHeld z1 z3 gf gc HZ1 HFIN HINS HV1 y1 y3 yV1 yV3 g10d g10V
      have fe0 := HR7.out.cell 0
      have ff0 := HR7.out.frozen 0
      have fe1 := HR7.out.cell 1
      have ff1 := HR7.out.frozen 1
      have fe2 := HR7.out.cell 2
      have ff2 := HR7.out.frozen 2
      go_wp2_with fail
      exact bodyPost_ret (fltA_ret rfl _ _ Bz _ _ _ rfl (flt_store HR7.out)) rfl HE7
  · have hir : i = h.rn := by have := HRN.out; omega
    subst hir
    clear hlen
    have hvd := (hvalW.keep (GQ.kcall h b5)).keep (GQ.kcall h ((Below.refl w5.heap.size w5).drew))
    have Pd := P5.call ((Below.refl w5.heap.size w5).drew)
    have Xd := X5.below ((Below.refl w5.heap.size w5).drew) X5.lt
    have Rd := hR5.below ((Below.refl w5.heap.size w5).drew) hR5.lt
    have Kd := K5.trans (GQ.kcall h ((Below.refl w5.heap.size w5).drew))
    have bd : Below B w w5.drew := btr b05 ((Below.refl w5.heap.size w5).drew) b05B
    clear b5 P5 X5 hR5 K5 b05
    go_upto_region 10 with fail
    rename_i hkk
    have HKK := Lib.hid hkk
    clear hkk
    obtain ⟨wd, hwd⟩ : ∃ x, w5.drew = x := ⟨_, rfl⟩
    rw [hwd] at hvd Pd Xd Rd Kd bd
    have HWD := Lib.hid hwd
    clear hwd
    have hzd : B ≤ wd.heap.size := Pd.lo
    obtain ⟨css, cl, crn, co, cr, c3⟩ := Pd.q.raws
    clear crn
    have y1 : wd.cell? ⟨q, 1, none⟩ = some (.int .i64 kind) := Xd.cell 1
    have y3 : wd.cell? ⟨q, 3, none⟩ = some (.slice A' n' c') := Xd.cell 3
    have g10d : wd.cell? ⟨g, 10, none⟩ = some (.slice h.ra h.rn h.rc) := Pd.blk.cell 10
    have hV := Blk.new wd 100 #[.int .i64 224, .int .i64 kind, .slice A' n' c']
    have bV := (Below.refl wd.heap.size wd).alloc (Nat.le_refl _) (.cells #[.int .i64 224, .int .i64 kind, .slice A' n' c'] 100)
    have PV := Pd.call bV
    have XV := Xd.below bV Xd.lt
    have RV := Rd.below bV Rd.lt
    have KV := Kd.trans (GQ.kcall h bV)
    have bdV := btr bd bV hzd
    have yV1 : (wd.alloc (.cells #[.int .i64 224, .int .i64 kind, .slice A' n' c'] 100)).cell? ⟨q, 1, none⟩ = some (.int .i64 kind) := XV.cell 1
    have yV3 : (wd.alloc (.cells #[.int .i64 224, .int .i64 kind, .slice A' n' c'] 100)).cell? ⟨q, 3, none⟩ = some (.slice A' n' c') := XV.cell 3
    have g10V : (wd.alloc (.cells #[.int .i64 224, .int .i64 kind, .slice A' n' c'] 100)).cell? ⟨g, 10, none⟩ = some (.slice h.ra h.rn h.rc) := PV.blk.cell 10
    have coV := own_alloc2 co (.cells #[.int .i64 224, .int .i64 kind, .slice A' n' c'] 100)
    have hnV : Value.ownBlock (.slice h.ra h.rn h.rc) ≠ some wd.heap.size := fun e => by have := (co.lt _ e).2; omega
    have HINS := Lib.hid (insertR B h.ra h.rn h.rc h.rn wd.heap.size 100 css.flatten [.int .i64 224, .int .i64 kind, .slice A' n' c'] _ coV hi hV rfl hnV (by intro u hu; simp at hu; rcases hu with rfl | rfl | rfl <;> rfl) (fun u hu => by
        obtain ⟨cs, hcs, hu⟩ := List.mem_flatten.1 hu
        obtain ⟨m, hm⟩ := List.getElem?_of_mem hcs
        have hml := (List.getElem?_eq_some_iff.1 hm).1
        exact rRaw_ok.one (cr m cs _ hm (List.getElem?_eq_getElem (by omega))) u hu) (by have := HRN.out; have := D.raws; omega) (by have := bV.size; omega))
    have HRAW : ∀ (S' : Nat → Prop), Kp wd (wd.alloc (.cells #[.int .i64 224, .int .i64 kind, .slice A' n' c'] 100)) (h.qt wd (Bz :: gs)) S' → rRaw (wd.alloc (.cells #[.int .i64 224, .int .i64 kind, .slice A' n' c'] 100)) S' [.int .i64 224, .int .i64 kind, .slice A' n' c'] (224, kind, val) := fun S' hk' => rRaw_cells (hvd.keep hk') hnc' hk
    have HFIN := Lib.hid (show ∀ (A2 : Option Addr) (c2 : Nat) (w6 : World), w6.ownsRow B 100 3 (.slice A2 (h.rn + 1) c2) (h.rn + 1) (css.flatten.take (h.rn * 3) ++ [.int .i64 224, .int .i64 kind, .slice A' n' c'] ++ css.flatten.drop (h.rn * 3)) → (wd.alloc (.cells #[.int .i64 224, .int .i64 kind, .slice A' n' c'] 100)).grownBy w6 (Value.ownBlock (.slice h.ra h.rn h.rc)) → (Value.ownBlock (.slice A2 (h.rn + 1) c2) = Value.ownBlock (.slice h.ra h.rn h.rc) ∨ Value.ownBlock (.slice A2 (h.rn + 1) c2) = some (wd.alloc (.cells #[.int .i64 224, .int .i64 kind, .slice A' n' c'] 100)).heap.size) →
        ∃ w7, w6.setCell ⟨g, 10, none⟩ (.slice A2 (h.rn + 1) c2) = w7 ∧ Blk w7 Bz 69 #[.int .i64 0, .int .i64 0, .slice none 0 0] ∧ RetG w B g gs wide h (unkA v ⟨fl, kind, all, val⟩) (.returned (.agg #[.int .i64 0, .int .i64 0, .slice none 0 0])) (((w7.setCell ⟨Bz, 0, none⟩ (.int .i64 0)).setCell ⟨Bz, 1, none⟩ (.int .i64 0)).setCell ⟨Bz, 2, none⟩ (.slice none 0 0)) from by
      intro A2 c2 w6 o6 g6 hat
      obtain ⟨Q6, K6⟩ := PV.q.raws_ins cl (fun m cs a hm ha => rRaw_ok.keep (cr m cs a hm ha) (GQ.kcall h bV)) c3 coV (HRAW _ (GQ.kcall h bV)) (by have := HRN.out; omega) o6 g6 hat
      have nq : ∀ {b : Nat} {T : TypeId} {cs : Array Value}, Blk wd b T cs → 100 ≠ T → some b ≠ Value.ownBlock (.slice h.ra h.rn h.rc) := fun hb hne e => own_blk_ne co hb hne e.symm
      have hb6 := (PV.blk).grown g6 (nq Pd.blk (by decide))
      have hR6 := RV.grown g6 (nq Rd (by decide))
      have b6 : Below B w w6 := bdV.grown g6 (Nat.le_trans hzd bV.size) (fun k hk => (co.lt k hk).1)
      obtain ⟨P7, K7, b7⟩ := GP.head (i := 10) (u := .slice A2 (h.rn + 1) c2) (v' := { v with a := { v.a with raws := v.a.raws.take (h.rn) ++ [(224, kind, val)] ++ v.a.raws.drop (h.rn) } }) hb6 Q6 rfl
      refine ⟨_, rfl, hR6.far (p := ⟨g, 10, none⟩) (by show Bz ≠ g; omega) _, ?_⟩
      refine RetG.fin (b6.trans b7) hBq (hR6.far (p := ⟨g, 10, none⟩) (by show Bz ≠ g; omega) _) P7 hgm (by omega) ((KV.trans (K6 _)).trans (K7 _ (by simp))) (.inl rfl) ?_
      rw [HE.out])
    have nqd : ∀ {b : Nat} {T : TypeId} {cs : Array Value}, Blk wd b T cs → 100 ≠ T → some b ≠ Value.ownBlock (.slice h.ra h.rn h.rc) := fun hb hne e => own_blk_ne co hb hne e.symm
    have HZ1 := Lib.hid (show ∀ w6, (wd.alloc (.cells #[.int .i64 224, .int .i64 kind, .slice A' n' c'] 100)).grownBy w6 (Value.ownBlock (.slice h.ra h.rn h.rc)) → w6.cell? ⟨q, 1, none⟩ = some (.int .i64 kind) ∧ w6.cell? ⟨q, 3, none⟩ = some (.slice A' n' c') ∧ w6.frozen? ⟨g, 10, none⟩ = false ∧ w6.cell? ⟨g, 10, none⟩ = some (.slice h.ra h.rn h.rc) from fun w6 g6 => ⟨(XV.grown g6 (nqd Xd (by decide))).cell 1, (XV.grown g6 (nqd Xd (by decide))).cell 3, (PV.blk.grown g6 (nqd Pd.blk (by decide))).frozen 10, (PV.blk.grown g6 (nqd Pd.blk (by decide))).cell 10⟩)
    have HV1 := Lib.hid (show ∀ (w6 w7 : World) (u : Value), w6.setCell ⟨g, 10, none⟩ u = w7 → w6.cell? ⟨q, 1, none⟩ = some (.int .i64 kind) → w6.cell? ⟨q, 3, none⟩ = some (.slice A' n' c') → w7.cell? ⟨q, 1, none⟩ = some (.int .i64 kind) ∧ w7.cell? ⟨q, 3, none⟩ = some (.slice A' n' c') from by
      rintro w6 w7 u rfl z1 z3
      exact ⟨(World.cell?_setCell_far _ _ _ _ (by show g ≠ q; omega)).trans z1, (World.cell?_setCell_far _ _ _ _ (by show g ≠ q; omega)).trans z3⟩)
    have bdZ := bV.size
    clear co coV cr PV XV RV KV bdV Pd Xd Rd Kd bd hV bV hvd HRAW cl c3 hnV nqd
    refine wp_region_held_drew (S := (fun w' => w'.cell? ⟨q, 1, none⟩ = some (.int .i64 kind) ∧ w'.cell? ⟨q, 3, none⟩ = some (.slice A' n' c'))) (by kernel_rfl) ?_ (fun hHeld => ?_)
    · rw [HWD.out]; exact ⟨y1, y3⟩
    rw [HWD.out]
    rw [HWD.out] at hHeld
    refine wpAnyH_take (i := 0) (v := ?pbv0) rfl (by kernel_rfl) (by kernel_rfl) (by kernel_rfl) (by intro _ _ _ h; exact h) (Or.inl ⟨by rfl, ?pbhy0⟩) (by assumption) ?pbrest0
    case pbhy0 => (intro w hSw; (try dsimp only at hSw); go_simp; try with_reducible rfl)
    try simp only [Act.put, List.getElem_toArray, List.getElem_cons_succ, List.getElem_cons_zero, List.setIfInBounds_toArray, List.set_cons_zero, List.set_cons_succ]
    refine wpAnyH_take (i := 1) (v := ?pbv1) rfl (by kernel_rfl) (by kernel_rfl) (by kernel_rfl) (by intro _ _ _ h; exact h) (Or.inl ⟨by rfl, ?pbhy1⟩) (by assumption) ?pbrest1
    case pbhy1 => (intro w hSw; (try dsimp only at hSw); go_simp; try with_reducible rfl)
    try simp only [Act.put, List.getElem_toArray, List.getElem_cons_succ, List.getElem_cons_zero, List.setIfInBounds_toArray, List.set_cons_zero, List.set_cons_succ]
    refine wpAnyH_take (i := 2) (v := ?pbv2) rfl (by kernel_rfl) (by kernel_rfl) (by kernel_rfl) (by intro _ _ _ h; exact h) (Or.inl ⟨by rfl, ?pbhy2⟩) (by assumption) ?pbrest2
    case pbhy2 => (intro w hSw; (try dsimp only at hSw); go_simp; try with_reducible rfl)
    try simp only [Act.put, List.getElem_toArray, List.getElem_cons_succ, List.getElem_cons_zero, List.setIfInBounds_toArray, List.set_cons_zero, List.set_cons_succ]
    refine wpAnyH_take (i := 3) (v := ?pbv3) rfl (by kernel_rfl) (by kernel_rfl) (by kernel_rfl) (by intro _ _ _ h; exact h) (Or.inl ⟨by rfl, ?pbhy3⟩) (by assumption) ?pbrest3
    case pbhy3 => (intro w hSw; (try dsimp only at hSw); go_simp; try with_reducible rfl)
    try simp only [Act.put, List.getElem_toArray, List.getElem_cons_succ, List.getElem_cons_zero, List.setIfInBounds_toArray, List.set_cons_zero, List.set_cons_succ]
    refine wpAnyH_take (i := 4) (v := ?pbv4) rfl (by kernel_rfl) (by kernel_rfl) (by kernel_rfl) (by intro _ _ _ h; exact h) (Or.inl ⟨by rfl, ?pbhy4⟩) (by assumption) ?pbrest4
    case pbhy4 => (intro w hSw; (try dsimp only at hSw); go_simp; try with_reducible rfl)
    try simp only [Act.put, List.getElem_toArray, List.getElem_cons_succ, List.getElem_cons_zero, List.setIfInBounds_toArray, List.set_cons_zero, List.set_cons_succ]
    refine wpAnyH_take (i := 6) (v := ?pbv6) rfl (by kernel_rfl) (by kernel_rfl) (by kernel_rfl) (by intro _ _ _ h; exact h) (Or.inl ⟨by rfl, ?pbhy6⟩) (by assumption) ?pbrest6
    case pbhy6 => (intro w hSw; (try dsimp only at hSw); go_simp; try with_reducible rfl)
    try simp only [Act.put, List.getElem_toArray, List.getElem_cons_succ, List.getElem_cons_zero, List.setIfInBounds_toArray, List.set_cons_zero, List.set_cons_succ]
    refine wpAnyH_take (i := 7) (v := ?pbv7) rfl (by kernel_rfl) (by kernel_rfl) (by kernel_rfl) (by intro _ _ _ h; exact h) (Or.inl ⟨by rfl, ?pbhy7⟩) (by assumption) ?pbrest7
    case pbhy7 => (intro w hSw; (try dsimp only at hSw); go_simp; try with_reducible rfl)
    try simp only [Act.put, List.getElem_toArray, List.getElem_cons_succ, List.getElem_cons_zero, List.setIfInBounds_toArray, List.set_cons_zero, List.set_cons_succ]
    refine wpAnyH_take (i := 8) (v := ?pbv8) rfl (by kernel_rfl) (by kernel_rfl) (by kernel_rfl) (by intro _ _ _ h; exact h) (Or.inl ⟨by rfl, ?pbhy8⟩) (by assumption) ?pbrest8
    case pbhy8 => (intro w hSw; (try dsimp only at hSw); go_simp; try with_reducible rfl)
    try simp only [Act.put, List.getElem_toArray, List.getElem_cons_succ, List.getElem_cons_zero, List.setIfInBounds_toArray, List.set_cons_zero, List.set_cons_succ]
    refine wpAnyH_take (i := 9) (v := ?pbv9) rfl (by kernel_rfl) (by kernel_rfl) (by kernel_rfl) (by intro _ _ _ h; exact h) (Or.inl ⟨by rfl, ?pbhy9⟩) (by assumption) ?pbrest9
    case pbhy9 => (intro w hSw; (try dsimp only at hSw); go_simp; try with_reducible rfl)
    try simp only [Act.put, List.getElem_toArray, List.getElem_cons_succ, List.getElem_cons_zero, List.setIfInBounds_toArray, List.set_cons_zero, List.set_cons_succ]
    refine wpAnyH_take (i := 10) (v := ?pbv10) rfl (by kernel_rfl) (by kernel_rfl) (by kernel_rfl) (by intro _ _ _ h; exact h) (Or.inl ⟨by rfl, ?pbhy10⟩) (by assumption) ?pbrest10
    case pbhy10 => (intro w hSw; (try dsimp only at hSw); go_simp; try with_reducible rfl)
    try simp only [Act.put, List.getElem_toArray, List.getElem_cons_succ, List.getElem_cons_zero, List.setIfInBounds_toArray, List.set_cons_zero, List.set_cons_succ]
    refine wpAnyH_take (i := 11) (v := ?pbv11) rfl (by kernel_rfl) (by kernel_rfl) (by kernel_rfl) (by intro _ _ _ h; exact h) (Or.inl ⟨by rfl, ?pbhy11⟩) (by assumption) ?pbrest11
    case pbhy11 => (intro w hSw; (try dsimp only at hSw); go_simp; try with_reducible rfl)
    try simp only [Act.put, List.getElem_toArray, List.getElem_cons_succ, List.getElem_cons_zero, List.setIfInBounds_toArray, List.set_cons_zero, List.set_cons_succ]
    refine wpAnyH_ready (rs := [5, 12]) (by kernel_rfl) (by simp) ?_
    refine AllReadyH.cons rfl (fun K hK => ?_) (AllReadyH.cons rfl (fun K hK => ?_) AllReadyH.nil)
    · skip
      go_simp
      go_wp2_with (fail)
      refine hK.out _ _ ?_ (fun hHeld => ?_)
      · try dsimp only
        first | exact ⟨yV1, yV3⟩ | exact ⟨y1, y3⟩
      clear hK K
      refine wpAnyH_ready (rs := [12]) (by kernel_rfl) (by simp) ?_
      refine AllReadyH.cons rfl (fun K hK => ?_) AllReadyH.nil
      go_simp
      go_wp2_with (fail)
      refine hK.out _ _ ?_ (fun hHeld => ?_)
      · try dsimp only
        first | exact ⟨yV1, yV3⟩ | exact ⟨y1, y3⟩
      clear hK K
      refine wpAnyH_ready (rs := [13]) (by kernel_rfl) (by simp) ?_
      refine AllReadyH.cons rfl (fun K hK => ?_) AllReadyH.nil
      go_simp
      go_wp2_with ((go_at_call 127; refine HINS.out.mono ?_; rintro _ w6 ⟨A2, c2, rfl, o6, g6, hat⟩; obtain ⟨w7, hw7, hR7, HE7⟩ := HFIN.out A2 c2 w6 o6 g6 hat; obtain ⟨z1, z3, gf, gc⟩ := HZ1.out w6 g6; clear o6 g6 hat; have HW7 := Lib.hid hw7; have HR7 := Lib.hid hR7; clear hw7 hR7))
      refine hK.out _ _ ?_ (fun hHeld => ?_)
      · try dsimp only
        exact ⟨z1, z3⟩
      clear hK K
      refine wpAnyH_take (i := 14) (v := ?pbxv14) rfl (by kernel_rfl) (by kernel_rfl) (by kernel_rfl) (by intro _ _ _ h; exact h) (Or.inl ⟨by rfl, ?pbxhy14⟩) (by assumption) ?pbxrest14
      case pbxhy14 => (intro w hSw; (try dsimp only at hSw); go_simp; try with_reducible rfl)
      try simp only [Act.put, List.getElem_toArray, List.getElem_cons_succ, List.getElem_cons_zero, List.setIfInBounds_toArray, List.set_cons_zero, List.set_cons_succ]
      refine wpAnyH_take (i := 15) (v := ?pbxv15) rfl (by kernel_rfl) (by kernel_rfl) (by kernel_rfl) (by intro _ _ _ h; exact h) (Or.inl ⟨by rfl, ?pbxhy15⟩) (by assumption) ?pbxrest15
      case pbxhy15 => (intro w hSw; (try dsimp only at hSw); go_simp; try with_reducible rfl)
      try simp only [Act.put, List.getElem_toArray, List.getElem_cons_succ, List.getElem_cons_zero, List.setIfInBounds_toArray, List.set_cons_zero, List.set_cons_succ]
      refine wpAnyH_take (i := 16) (v := ?pbxv16) rfl (by kernel_rfl) (by kernel_rfl) (by kernel_rfl) (by intro _ _ _ h; exact h) (Or.inl ⟨by rfl, ?pbxhy16⟩) (by assumption) ?pbxrest16
      case pbxhy16 => (intro w hSw; (try dsimp only at hSw); go_simp; try with_reducible rfl)
      try simp only [Act.put, List.getElem_toArray, List.getElem_cons_succ, List.getElem_cons_zero, List.setIfInBounds_toArray, List.set_cons_zero, List.set_cons_succ]
      refine wpAnyH_ready (rs := [17]) (by kernel_rfl) (by simp) ?_
      refine AllReadyH.cons rfl (fun K hK => ?_) AllReadyH.nil
      go_simp
      go_wp2_with (fail)
      rw [HW7.out]
      refine hK.out _ _ ?_ (fun hHeld => ?_)
      · try dsimp only
        exact HV1.out w6 w7 _ HW7.out z1 z3
      clear hK K
      refine wpAnyH_done (by kernel_rfl) ?_ _
      refine HKK.out _ _ ?_
      clear hHeld z1 z3 gf gc HZ1 HFIN HINS HV1 y1 y3 yV1 yV3 g10d g10V
      have fe0 := HR7.out.cell 0
      have ff0 := HR7.out.frozen 0
      have fe1 := HR7.out.cell 1
      have ff1 := HR7.out.frozen 1
      have fe2 := HR7.out.cell 2
      have ff2 := HR7.out.frozen 2
      go_wp2_with fail
      exact bodyPost_ret (fltA_ret rfl _ _ Bz _ _ _ rfl (flt_store HR7.out)) rfl HE7
    · skip
      go_simp
      go_wp2_with (fail)
      refine hK.out _ _ ?_ (fun hHeld => ?_)
      · try dsimp only
        first | exact ⟨yV1, yV3⟩ | exact ⟨y1, y3⟩
      clear hK K
      refine wpAnyH_ready (rs := [5]) (by kernel_rfl) (by simp) ?_
      refine AllReadyH.cons rfl (fun K hK => ?_) AllReadyH.nil
      go_simp
      go_wp2_with (fail)
      refine hK.out _ _ ?_ (fun hHeld => ?_)
      · try dsimp only
        first | exact ⟨yV1, yV3⟩ | exact ⟨y1, y3⟩
      clear hK K
      refine wpAnyH_ready (rs := [13]) (by kernel_rfl) (by simp) ?_
      refine AllReadyH.cons rfl (fun K hK => ?_) AllReadyH.nil
      go_simp
      go_wp2_with ((go_at_call 127; refine HINS.out.mono ?_; rintro _ w6 ⟨A2, c2, rfl, o6, g6, hat⟩; obtain ⟨w7, hw7, hR7, HE7⟩ := HFIN.out A2 c2 w6 o6 g6 hat; obtain ⟨z1, z3, gf, gc⟩ := HZ1.out w6 g6; clear o6 g6 hat; have HW7 := Lib.hid hw7; have HR7 := Lib.hid hR7; clear hw7 hR7))
      refine hK.out _ _ ?_ (fun hHeld => ?_)
      · try dsimp only
        exact ⟨z1, z3⟩
      clear hK K
      refine wpAnyH_take (i := 14) (v := ?pbyv14) rfl (by kernel_rfl) (by kernel_rfl) (by kernel_rfl) (by intro _ _ _ h; exact h) (Or.inl ⟨by rfl, ?pbyhy14⟩) (by assumption) ?pbyrest14
      case pbyhy14 => (intro w hSw; (try dsimp only at hSw); go_simp; try with_reducible rfl)
      try simp only [Act.put, List.getElem_toArray, List.getElem_cons_succ, List.getElem_cons_zero, List.setIfInBounds_toArray, List.set_cons_zero, List.set_cons_succ]
      refine wpAnyH_take (i := 15) (v := ?pbyv15) rfl (by kernel_rfl) (by kernel_rfl) (by kernel_rfl) (by intro _ _ _ h; exact h) (Or.inl ⟨by rfl, ?pbyhy15⟩) (by assumption) ?pbyrest15
      case pbyhy15 => (intro w hSw; (try dsimp only at hSw); go_simp; try with_reducible rfl)
      try simp only [Act.put, List.getElem_toArray, List.getElem_cons_succ, List.getElem_cons_zero, List.setIfInBounds_toArray, List.set_cons_zero, List.set_cons_succ]
      refine wpAnyH_take (i := 16) (v := ?pbyv16) rfl (by kernel_rfl) (by kernel_rfl) (by kernel_rfl) (by intro _ _ _ h; exact h) (Or.inl ⟨by rfl, ?pbyhy16⟩) (by assumption) ?pbyrest16
      case pbyhy16 => (intro w hSw; (try dsimp only at hSw); go_simp; try with_reducible rfl)
      try simp only [Act.put, List.getElem_toArray, List.getElem_cons_succ, List.getElem_cons_zero, List.setIfInBounds_toArray, List.set_cons_zero, List.set_cons_succ]
      refine wpAnyH_ready (rs := [17]) (by kernel_rfl) (by simp) ?_
      refine AllReadyH.cons rfl (fun K hK => ?_) AllReadyH.nil
      go_simp
      go_wp2_with (fail)
      rw [HW7.out]
      refine hK.out _ _ ?_ (fun hHeld => ?_)
      · try dsimp only
        exact HV1.out w6 w7 _ HW7.out z1 z3
      clear hK K
      refine wpAnyH_done (by kernel_rfl) ?_ _
      refine HKK.out _ _ ?_
      clear hHeld z1 z3 gf gc HZ1 HFIN HINS HV1 y1 y3 yV1 yV3 g10d g10V
      have fe0 := HR7.out.cell 0
      have ff0 := HR7.out.frozen 0
      have fe1 := HR7.out.cell 1
      have ff1 := HR7.out.frozen 1
      have fe2 := HR7.out.cell 2
      have ff2 := HR7.out.frozen 2
      go_wp2_with fail
      exact bodyPost_ret (fltA_ret rfl _ _ Bz _ _ _ rfl (flt_store HR7.out)) rfl HE7
-- UNKEND
end Go.Proofs.YtlpkngjeihoknaaDoor
