/- Walks of layer 23 (session): a tick. No conditions but the tables and where the session lies. -/
import Derived.Test.YthgjknmfghjioaaDoorProg
import Derived.WalkKit
import Derived.WalkSpells
import Derived.WalkLawsBesides
import Derived.Outline
import Derived.Deep.QuietTactic
import Derived.BigQuiet
import Derived.Handy
import Derived.Lib.Hide
import Derived.Deep.DeepCutAuto
import Derived.Deep.CutBlock
import Derived.Deep.LoopGhost
import Derived.Laws.Cover4
import Derived.OrdersHeld
import Derived.Deep.RegionHeld
import Derived.Test.YthgjknmfghjioaaDoorSesH
namespace Go.Proofs.YthgjknmfghjioaaDoor
open Go.RowKit
set_option linter.unusedSimpArgs false
set_option linter.unusedVariables false
/-- How what comes of an event stands in cells, by a footprint. -/
def rOutZ : Rep OutV := fun w S cs O => ∃ (At : Option Addr) (nt ct : Nat) (Af : Option Addr) (nf cf : Nat) (As : Option Addr) (ns ks : Nat), cs = (outA O At nt ct Af nf cf As ns ks).toList ∧ (nt = O.kinds.length ∧ Rw w S 1 At nt (iv O.kinds)) ∧ BF w S Af nf O.flt.2.2 ∧ BF w S As ns O.sent
theorem rOutZ_ok : rOutZ.Ok 26 where
  len := by rintro w S cs O ⟨At, nt, ct, Af, nf, cf, As, ns, ks, rfl, _⟩; rfl
  one := by
    rintro w S cs O ⟨At, nt, ct, Af, nf, cf, As, ns, ks, rfl, _⟩ u hu
    have h : ((outA O At nt ct Af nf cf As ns ks).toList.all (·.oneCell')) = true := by kernel_rfl
    exact List.all_eq_true.1 h u hu
  keep := by
    rintro w w' S S' cs O ⟨At, nt, ct, Af, nf, cf, As, ns, ks, rfl, h1, h2, h3⟩ hk
    exact ⟨At, nt, ct, Af, nf, cf, As, ns, ks, rfl, ⟨h1.1, h1.2.keep hk⟩, h2.keep hk, h3.keep hk⟩
theorem OI.fr {w : World} {base n c : Nat} {A : Option Addr} {l : List Int} (h : OI w base A n c l) : Rw w (Fr base w) 1 A n (iv l) := by
  refine ⟨(iv_length l).trans (by have := h.1; omega), fun hn => ?_⟩
  obtain ⟨g, cap, hv, hg, hlt⟩ := h.2.form hn
  have hA : A = some ⟨g, 0, none⟩ := by injection hv
  subst hA
  exact ⟨g, 0, rfl, ⟨hg, hlt⟩, fun j u hu => by have := h.2.cells (g := g) rfl j u hu; rwa [addr_add] at this⟩
theorem Rw.at1 {w : World} {S : Nat → Prop} {A : Option Addr} {n : Nat} {l : List Int} (h : Rw w S 1 A n (iv l)) {j : Nat} {x : Int} (hj : l[j]? = some x) : ∃ b off, A = some ⟨b, off, none⟩ ∧ S b ∧ w.cell? ⟨b, off + j, none⟩ = some (.int .i64 x) := by
  have hl := (List.getElem?_eq_some_iff.1 hj).1
  have hn : 0 < n := by have := h.1; rw [iv_length] at this; omega
  obtain ⟨b, off, e, hb, hc⟩ := h.2 hn
  exact ⟨b, off, e, hb, hc j _ (by rw [iv, List.getElem?_map, hj]; rfl)⟩
theorem BF.zero_ {w : World} {S : Nat → Prop} {A : Option Addr} : BF w S A 0 [] := ⟨rfl, rfl, fun h => absurd h (by omega)⟩
theorem doFlt_nil (d e : Int) : (doFlt d e (0, 0, [])).2.2 = [] := by
  unfold doFlt fltE
  repeat' split
  all_goals rfl
theorem doOut_flt (K : SesK) (V : SesV) (e : Int) : (doOut K V e (0, 0, [])).flt.2.2 = [] := doFlt_nil _ _
theorem out_infoB : (Tryd.prog.info? 48).map (fun i => (i.zero, i.size, i.bytes)) = some (some (.agg #[.int .i64 0, .int .i64 0, .int .i64 0, .slice none 0 0, .int .i64 0, .int .i64 0, .slice none 0 0, .slice none 0 0, .slice none 0 0, .int .i64 0, .slice none 0 0, .int .u32 0, .int .i64 0, .int .i64 0, .bool false, .bool false, .int .u32 0, .int .u32 0, .slice none 0 0, .slice none 0 0, .slice none 0 0, .bool false, .bool false, .bool false, .bool false, .bool false]), 26, 288) := by kernel_rfl
theorem outA_fold (O : OutV) (At : Option Addr) (nt ct : Nat) (Af : Option Addr) (nf cf : Nat) (As : Option Addr) (ns ks : Nat) : Array.foldl (fun (cs : Array Value) (x : Value × Nat) => cs.setIfInBounds x.snd x.fst) #[.int .i64 0, .int .i64 0, .int .i64 0, .slice none 0 0, .int .i64 0, .int .i64 0, .slice none 0 0, .slice none 0 0, .slice none 0 0, .int .i64 0, .slice none 0 0, .int .u32 0, .int .i64 0, .int .i64 0, .bool false, .bool false, .int .u32 0, .int .u32 0, .slice none 0 0, .slice none 0 0, .slice none 0 0, .bool false, .bool false, .bool false, .bool false, .bool false] ((outA O At nt ct Af nf cf As ns ks).zipIdx 0) 0 (outA O At nt ct Af nf cf As ns ks).size = outA O At nt ct Af nf cf As ns ks := by kernel_rfl
theorem evs_0 (W : World) : (Instr.index 56 (.agg #[.int .i64 4, .int .i64 5, .int .i64 6]) (.int .i64 0)).run Tryd.prog W = .ok (.int .i64 4) W := by kernel_rfl
theorem evs_1 (W : World) : (Instr.index 56 (.agg #[.int .i64 4, .int .i64 5, .int .i64 6]) (.int .i64 1)).run Tryd.prog W = .ok (.int .i64 5) W := by kernel_rfl
theorem evs_2 (W : World) : (Instr.index 56 (.agg #[.int .i64 4, .int .i64 5, .int .i64 6]) (.int .i64 2)).run Tryd.prog W = .ok (.int .i64 6) W := by kernel_rfl
theorem ovAt_is (a b c : Int) (K : SesK) (V : SesV) (ha : V.t0 = a) (hb : V.t1 = b) (hc : V.t2 = c) : ovAt a b c 3 = sesOver V := by subst ha hb hc; rfl
theorem ovAt_in (a b c x : Int) (h : x ∈ ovAt a b c 3) : x = 0 ∨ x = 1 ∨ x = 2 := by
  unfold ovAt one1 at h
  simp only [List.mem_append] at h
  rcases h with (h | h) | h <;> split at h <;> simp at h <;> omega
theorem ovAt_len (a b c : Int) : (ovAt a b c 3).length ≤ 3 := by
  have h1 := one1_len a 0
  have h2 := one1_len b 1
  have h3 := one1_len c 2
  show (one1 a 0 ++ one1 b 1 ++ one1 c 2).length ≤ 3
  rw [List.length_append, List.length_append]; omega
/-- What a tick hands back. -/
def RetTick (w : World) (g : Nat) (K : SesK) (V : SesV) (os : List OutV) (e : Ending) (w' : World) : Prop :=
  ∃ (A : Option Addr) (n k : Nat), e = .returned (.slice A n k) ∧ OL rOutZ 26 w' w.heap.size 48 w.heap.size w'.heap.size [g] A n k os ∧ Sm w.heap.size [g] w w' ∧ Blk w' g 70 (sesC K V)
set_option maxHeartbeats 8000000 in
set_option maxRecDepth 100000 in
theorem sesTickC (KS : SesK) (V : SesV) (g : Nat) (w : World) (hS : Blk w g 70 (sesC KS V)) (hV : Hid (SesOk V)) (hK : Hid (KS.la < 4294967296 ∧ KS.li < 4294967296)) (ht : FsmTab w) (hlt : LeaTab w) :
    Calls Tryd.prog 6 #[.pointer (some ⟨g, 0, none⟩)] w (RetTick w g KS (sesTick KS V).1 (sesTick KS V).2) := by
  have hgl := hS.lt
  have i0 := evs_0
  have i1 := evs_1
  have i2 := evs_2
  have I0 := Lib.hid i0
  have I1 := Lib.hid i1
  have I2 := Lib.hid i2
  clear i0 i1 i2
  have s11 : w.cell? ⟨g, 11, none⟩ = some (.int .i64 V.t0) := hS.cell 11
  have s12 : w.cell? ⟨g, 12, none⟩ = some (.int .i64 V.t1) := hS.cell 12
  have s13 : w.cell? ⟨g, 13, none⟩ = some (.int .i64 V.t2) := hS.cell 13
  go_enter Tryd.func6, Tryd.ntmps6
  go_wp2_with fail
  refine (clockTick V.t0 V.t1 V.t2 (Lib.hid ⟨hV.out.a0, hV.out.a1⟩) (Lib.hid ⟨hV.out.b0, hV.out.b1⟩) (Lib.hid ⟨hV.out.c0, hV.out.c1⟩) w).mono ?_
  rintro _ w1 ⟨A0, n0, k0, rfl, o1, b1⟩
  clear s11 s12 s13
  go_upto_region 5 with fail
  obtain ⟨w2, hw2, hX, b2⟩ := box1c w1 #[.int .i64 (tkD V.t0), .int .i64 (tkD V.t1), .int .i64 (tkD V.t2)] 58
  have b12 := btr b1 b2 b1.size
  have z1 := b1.size
  have z2 := b2.size
  obtain ⟨x, hx⟩ : ∃ x, w1.heap.size = x := ⟨_, rfl⟩
  have hxw : x < w2.heap.size := by have := hX.lt; omega
  rw [hx] at hX
  rw [hw2]
  have HX := Lib.hid hx
  clear hw2
  have hS2 := hS.below b12 hS.lt
  have x0 : w2.cell? ⟨x, 0, none⟩ = some (.int .i64 (tkD V.t0)) := hX.cell 0
  have x1 : w2.cell? ⟨x, 1, none⟩ = some (.int .i64 (tkD V.t1)) := hX.cell 1
  have x2 : w2.cell? ⟨x, 2, none⟩ = some (.int .i64 (tkD V.t2)) := hX.cell 2
  have s11 : w2.cell? ⟨g, 11, none⟩ = some (.int .i64 V.t0) := hS2.cell 11
  have s12 : w2.cell? ⟨g, 12, none⟩ = some (.int .i64 V.t1) := hS2.cell 12
  have s13 : w2.cell? ⟨g, 13, none⟩ = some (.int .i64 V.t2) := hS2.cell 13
  have f11 := hS2.frozen 11
  have f12 := hS2.frozen 12
  have f13 := hS2.frozen 13
  try rw [hx]
  clear hx
  go_upto_region 6 with fail
  obtain ⟨w3, hw3⟩ : ∃ y, ((w2.setCell ⟨g, 11, none⟩ (.int .i64 (tkD V.t0))).setCell ⟨g, 12, none⟩ (.int .i64 (tkD V.t1))).setCell ⟨g, 13, none⟩ (.int .i64 (tkD V.t2)) = y := ⟨_, rfl⟩
  have hS3 : Blk w3 g 70 (sesC KS (sesDown V)) := by
    have := ((hS2.set_ 11 (.int .i64 (tkD V.t0))).set_ 12 (.int .i64 (tkD V.t1))).set_ 13 (.int .i64 (tkD V.t2))
    rw [hw3] at this
    exact this
  have m3 : Sm w.heap.size [g] w w3 := by
    rw [← hw3]
    exact (((Sm.of_below b12 (Nat.le_refl _)).setCell (p := ⟨g, 11, none⟩) (.inr (by simp)) _).setCell (p := ⟨g, 12, none⟩) (.inr (by simp)) _).setCell (p := ⟨g, 13, none⟩) (.inr (by simp)) _
  have z23 : w2.heap.size ≤ w3.heap.size := by rw [← hw3]; simp [World.setCell]
  have hR3 : Rw w3 (fun b => w.heap.size ≤ b ∧ b < w3.heap.size) 1 A0 n0 (iv (ovAt V.t0 V.t1 V.t2 3)) := (o1.fr).keep (fun b hb => ⟨⟨hb.1, by have := hb.2; omega⟩, by
    rw [← hw3]
    have hbg : b ≠ g := by have := hb.1; omega
    rw [Below.heap_setCell _ _ _ _ hbg, Below.heap_setCell _ _ _ _ hbg, Below.heap_setCell _ _ _ _ hbg]
    exact b2.block b hb.2⟩)
  have hn0 : n0 = (ovAt V.t0 V.t1 V.t2 3).length := o1.1
  have hn3 : n0 ≤ 3 := by rw [hn0]; exact ovAt_len _ _ _
  rw [hw3]
  obtain ⟨L, hL⟩ : ∃ L, ovAt V.t0 V.t1 V.t2 3 = L := ⟨_, rfl⟩
  have HLi : Hid (∀ y ∈ L, y = 0 ∨ y = 1 ∨ y = 2) := Lib.hid (by rw [← hL]; exact fun y hy => ovAt_in _ _ _ y hy)
  have HT : Hid (sesTick KS V = tickGo KS (sesDown V) L) := Lib.hid (by rw [← hL]; rfl)
  rw [hL] at hR3 hn0
  obtain ⟨V1, hV1⟩ : ∃ V1, sesDown V = V1 := ⟨_, rfl⟩
  have hV1k : Hid (SesOk V1) := Lib.hid (by rw [← hV1]; exact hV.out.down)
  rw [hV1] at hS3 HT
  have HN0 := Lib.hid hn0
  clear hL hV1 hn0 hw3 x0 x1 x2 s11 s12 s13 f11 f12 f13 hS2 hX b12 b1 b2 o1 z1
  have z3 := m3.size
  go_wp2_with fail
  go_loopw [3, 7, 24] (fun s3 s7 s24 wr => ∃ (j : Nat) (A : Option Addr) (n k : Nat), j ≤ n0 ∧ s24 = .int .i64 (j : Int) ∧ s3 = .slice A n k ∧ OL rOutZ 26 wr w3.heap.size 48 w.heap.size wr.heap.size [g] A n k (tickGo KS V1 (L.take j)).2 ∧ Blk wr g 70 (sesC KS (tickGo KS V1 (L.take j)).1) ∧ Rw wr (fun b => w.heap.size ≤ b ∧ b < w3.heap.size) 1 A0 n0 (iv L) ∧ Sm w.heap.size [g] w wr ∧ w3.heap.size ≤ wr.heap.size) (fun _ _ i _ => n0 - (intOf i).toNat)
  case atStart => exact ⟨0, none, 0, 0, by omega, rfl, rfl, OL.nil_, hS3, hR3, m3, Nat.le_refl _⟩
  case round =>
    obtain ⟨j, A, n, k, hj, rfl, rfl, o, hSj, hRj, mj, zj⟩ := hrel
    have hVj : Hid (SesOk (tickGo KS V1 (L.take j)).1) := Lib.hid (SesOk.go KS _ hV1k.out)
    have HOL := Lib.hid (tickGo_len KS (L.take j) V1)
    by_cases hlt2 : j < n0
    case neg =>
      have t0 : decide (j < n0) = false := decide_eq_false hlt2
      have HE := Lib.hid (show RetTick w g KS (sesTick KS V).1 (sesTick KS V).2 (.returned (.slice A n k)) wr by
        have ej : L.take j = L := List.take_of_length_le (by have := HN0.out; omega)
        rw [ej] at o hSj
        rw [HT.out]
        exact ⟨A, n, k, rfl, o.low (by omega), mj, hSj⟩)
      clear hlt2
      go_wp2_with fail
      go_ret
      exact HE.out
    have t0 : decide (j < n0) = true := decide_eq_true hlt2
    obtain ⟨y, hy⟩ : ∃ y, L[j]? = some y := ⟨_, List.getElem?_eq_getElem (by have := HN0.out; omega)⟩
    have hyi := HLi.out y (List.mem_of_getElem? hy)
    have HTK := Lib.hid (show L.take (j + 1) = L.take j ++ [y] by
      obtain ⟨h1, h2⟩ := List.getElem?_eq_some_iff.1 hy
      rw [List.take_succ_eq_append_getElem h1, h2])
    obtain ⟨b, off, hA0, hb, hcell⟩ := hRj.at1 hy
    have HSN := Lib.hid (tickGo_snoc KS (L.take j) V1 y)
    have HOL2 := Lib.hid (show (L.take j).length ≤ 3 by rw [List.length_take]; have := HN0.out; omega)
    clear hy
    obtain ⟨P, hP⟩ : ∃ P, tickGo KS V1 (L.take j) = P := ⟨_, rfl⟩
    rw [hP] at o hSj hVj HOL HSN
    clear hP
    obtain ⟨Vj, Oj⟩ := P
    simp only at o hSj hVj HOL HSN
    subst hA0
    have s10 : wr.cell? ⟨g, 10, none⟩ = some (.int .i64 Vj.st) := hSj.cell 10
    by_cases hst : Vj.st = 0
    · have t1 : (Vj.st != 0) = false := by simpa using hst
      have HE := Lib.hid (show tickGo KS V1 (L.take (j + 1)) = (Vj, Oj) by rw [HTK.out, HSN.out, if_pos hst])
      clear hst
      go_wp2_with fail
      go_roundw
      case rel => exact ⟨j + 1, A, n, k, by omega, by go_num, rfl, by rw [HE.out]; exact o, by rw [HE.out]; exact hSj, hRj, mj, zj⟩
      case measure => simp [intOf]; omega
    have t1 : (Vj.st != 0) = true := by simpa using hst
    have HE := Lib.hid (show tickGo KS V1 (L.take (j + 1)) = (sesV KS.ps Vj (4 + y), Oj ++ [doOut KS Vj (4 + y) (0, 0, [])]) by rw [HTK.out, HSN.out, if_neg hst])
    clear hst
    have htj := ht.sm mj hS
    have hltj := hlt.sm mj hlt.lt (hlt.ne hS)
    have hhoj : Hid (0 ≤ Vj.ho ∧ Vj.ho ≤ 65535) := Lib.hid ⟨hVj.out.h0, hVj.out.h1⟩
    have HW := Lib.hid (show j ≤ 3 by omega)
    obtain rfl | rfl | rfl := hyi
    · have ix := I0.out
      go_wp2_with fail
      refine (sesStep KS Vj 4 0 0 none 0 0 [] g wr hSj BS.none_ (by omega) hhoj hK htj hltj).mono ?_
      rintro _ w5 ⟨At, nt, ct, Af, nf, cf, As, ns, cs, rfl, o2, o3, o4, m5, S5⟩
      clear s10 ix hcell
      have hnf : nf = 0 := by have := o4.1; rw [doOut_flt] at this; exact this
      have HNF := Lib.hid hnf
      clear hnf
      have zr := m5.size
      have zw := mj.size
      have hown := Lib.hid o.own_
      have S7 := m5.alloc zr (.cells (outA (doOut KS Vj 4 (0, 0, [])) At nt ct Af nf cf As ns cs) 48)
      have o7 := o.sm rOutZ_ok S7
      have hal := ((Below.refl w5.heap.size w5).alloc (Nat.le_refl _) (.cells (outA (doOut KS Vj 4 (0, 0, [])) At nt ct Af nf cf As ns cs) 48))
      have hdl : DL rOutZ 26 (w5.alloc (.cells (outA (doOut KS Vj 4 (0, 0, [])) At nt ct Af nf cf As ns cs) 48)) (fun b => wr.heap.size ≤ b ∧ b < w5.heap.size + 1) (some ⟨w5.heap.size, 0, none⟩) 1 [doOut KS Vj 4 (0, 0, [])] :=
        DL.one rOutZ_ok (cs := (outA (doOut KS Vj 4 (0, 0, [])) At nt ct Af nf cf As ns cs).toList) (Blk.new w5 48 _) ⟨by omega, by omega⟩ ⟨At, nt, ct, Af, nf, cf, As, ns, cs, rfl, ⟨o2.1, o2.fr.keep (fun b hb => ⟨⟨hb.1, by have := hb.2; omega⟩, hal.block b hb.2⟩)⟩, by rw [doOut_flt, HNF.out]; exact BF.zero_, (BF.own o3).keep (fun b hb => ⟨⟨hb.1, by have := hb.2; omega⟩, hal.block b hb.2⟩)⟩
      have hOl : Oj.length ≤ 3 := Nat.le_trans HOL.out HOL2.out
      have hdlH := Lib.hid hdl
      have o7H := Lib.hid o7
      clear hdl o7
      go_wp2_with (at_builtin; rw [outA_fold]; refine wpl_appL rfl (.tmp 33) (.tmp 40) _ rfl rOutZ_ok _ 288 Tryd.underlying31 out_infoB rfl (by omega) (by rfl) o7H.out (by simp; omega) (by intro x hx; simp at hx; subst hx; simp; omega) (by simp; omega) (some ⟨w5.heap.size, 0, none⟩) 1 1 [doOut KS Vj 4 (0, 0, [])] (by rfl) hdlH.out (by intro b hb; simp; exact hb.2) (fun cs x _ hx => rOutZ_ok.keep hx (Kp.sub fun b hb => ⟨⟨by have := hb.1; omega, by simp; exact hb.2, by have := hb.1; simp; omega⟩, fun e => by have := hown.out b e.symm; have := hb.1; omega⟩)) (by simp; omega) (by simp; omega) (by simp; omega) ?_; intro A8 n8 c8 w8 o8 b8 g8)
      case inl h =>
        exfalso
        have e : (outA (doOut KS Vj 4 (0, 0, [])) At nt ct Af nf cf As ns cs).size = 26 := rfl
        rcases h with h | h
        · exact (of_decide_eq_true h) e
        · rw [e] at h; omega
      have S8 := (S5.alloc (.cells (outA (doOut KS Vj 4 (0, 0, [])) At nt ct Af nf cf As ns cs) 48)).below b8 (by omega)
      have m8 := (((mj.trans (m5.less zw)).alloc (by omega) (.cells (outA (doOut KS Vj 4 (0, 0, [])) At nt ct Af nf cf As ns cs) 48))).below b8 z3
      have z8 := b8.size
      have hR8 := hRj.keep (w' := w8) (S' := fun b => w.heap.size ≤ b ∧ b < w3.heap.size) (fun b hb => ⟨hb, by
        rw [b8.block b hb.2, hal.block b (by have := hb.2; omega)]
        exact m5.block b (by have := hb.2; omega) (by have := hb.1; simp; omega)⟩)
      go_roundw
      case rel => exact ⟨j + 1, A8, n8, c8, by omega, by go_num, rfl, by rw [HE.out]; exact o8, by rw [HE.out]; exact S8, hR8, m8, by simp at z8; omega⟩
      case measure => simp [intOf]; omega
    · have ix := I1.out
      go_wp2_with fail
      refine (sesStep KS Vj 5 0 0 none 0 0 [] g wr hSj BS.none_ (by omega) hhoj hK htj hltj).mono ?_
      rintro _ w5 ⟨At, nt, ct, Af, nf, cf, As, ns, cs, rfl, o2, o3, o4, m5, S5⟩
      clear s10 ix hcell
      have hnf : nf = 0 := by have := o4.1; rw [doOut_flt] at this; exact this
      have HNF := Lib.hid hnf
      clear hnf
      have zr := m5.size
      have zw := mj.size
      have hown := Lib.hid o.own_
      have S7 := m5.alloc zr (.cells (outA (doOut KS Vj 5 (0, 0, [])) At nt ct Af nf cf As ns cs) 48)
      have o7 := o.sm rOutZ_ok S7
      have hal := ((Below.refl w5.heap.size w5).alloc (Nat.le_refl _) (.cells (outA (doOut KS Vj 5 (0, 0, [])) At nt ct Af nf cf As ns cs) 48))
      have hdl : DL rOutZ 26 (w5.alloc (.cells (outA (doOut KS Vj 5 (0, 0, [])) At nt ct Af nf cf As ns cs) 48)) (fun b => wr.heap.size ≤ b ∧ b < w5.heap.size + 1) (some ⟨w5.heap.size, 0, none⟩) 1 [doOut KS Vj 5 (0, 0, [])] :=
        DL.one rOutZ_ok (cs := (outA (doOut KS Vj 5 (0, 0, [])) At nt ct Af nf cf As ns cs).toList) (Blk.new w5 48 _) ⟨by omega, by omega⟩ ⟨At, nt, ct, Af, nf, cf, As, ns, cs, rfl, ⟨o2.1, o2.fr.keep (fun b hb => ⟨⟨hb.1, by have := hb.2; omega⟩, hal.block b hb.2⟩)⟩, by rw [doOut_flt, HNF.out]; exact BF.zero_, (BF.own o3).keep (fun b hb => ⟨⟨hb.1, by have := hb.2; omega⟩, hal.block b hb.2⟩)⟩
      have hOl : Oj.length ≤ 3 := Nat.le_trans HOL.out HOL2.out
      have hdlH := Lib.hid hdl
      have o7H := Lib.hid o7
      clear hdl o7
      go_wp2_with (at_builtin; rw [outA_fold]; refine wpl_appL rfl (.tmp 33) (.tmp 40) _ rfl rOutZ_ok _ 288 Tryd.underlying31 out_infoB rfl (by omega) (by rfl) o7H.out (by simp; omega) (by intro x hx; simp at hx; subst hx; simp; omega) (by simp; omega) (some ⟨w5.heap.size, 0, none⟩) 1 1 [doOut KS Vj 5 (0, 0, [])] (by rfl) hdlH.out (by intro b hb; simp; exact hb.2) (fun cs x _ hx => rOutZ_ok.keep hx (Kp.sub fun b hb => ⟨⟨by have := hb.1; omega, by simp; exact hb.2, by have := hb.1; simp; omega⟩, fun e => by have := hown.out b e.symm; have := hb.1; omega⟩)) (by simp; omega) (by simp; omega) (by simp; omega) ?_; intro A8 n8 c8 w8 o8 b8 g8)
      case inl h =>
        exfalso
        have e : (outA (doOut KS Vj 5 (0, 0, [])) At nt ct Af nf cf As ns cs).size = 26 := rfl
        rcases h with h | h
        · exact (of_decide_eq_true h) e
        · rw [e] at h; omega
      have S8 := (S5.alloc (.cells (outA (doOut KS Vj 5 (0, 0, [])) At nt ct Af nf cf As ns cs) 48)).below b8 (by omega)
      have m8 := (((mj.trans (m5.less zw)).alloc (by omega) (.cells (outA (doOut KS Vj 5 (0, 0, [])) At nt ct Af nf cf As ns cs) 48))).below b8 z3
      have z8 := b8.size
      have hR8 := hRj.keep (w' := w8) (S' := fun b => w.heap.size ≤ b ∧ b < w3.heap.size) (fun b hb => ⟨hb, by
        rw [b8.block b hb.2, hal.block b (by have := hb.2; omega)]
        exact m5.block b (by have := hb.2; omega) (by have := hb.1; simp; omega)⟩)
      go_roundw
      case rel => exact ⟨j + 1, A8, n8, c8, by omega, by go_num, rfl, by rw [HE.out]; exact o8, by rw [HE.out]; exact S8, hR8, m8, by simp at z8; omega⟩
      case measure => simp [intOf]; omega
    · have ix := I2.out
      go_wp2_with fail
      refine (sesStep KS Vj 6 0 0 none 0 0 [] g wr hSj BS.none_ (by omega) hhoj hK htj hltj).mono ?_
      rintro _ w5 ⟨At, nt, ct, Af, nf, cf, As, ns, cs, rfl, o2, o3, o4, m5, S5⟩
      clear s10 ix hcell
      have hnf : nf = 0 := by have := o4.1; rw [doOut_flt] at this; exact this
      have HNF := Lib.hid hnf
      clear hnf
      have zr := m5.size
      have zw := mj.size
      have hown := Lib.hid o.own_
      have S7 := m5.alloc zr (.cells (outA (doOut KS Vj 6 (0, 0, [])) At nt ct Af nf cf As ns cs) 48)
      have o7 := o.sm rOutZ_ok S7
      have hal := ((Below.refl w5.heap.size w5).alloc (Nat.le_refl _) (.cells (outA (doOut KS Vj 6 (0, 0, [])) At nt ct Af nf cf As ns cs) 48))
      have hdl : DL rOutZ 26 (w5.alloc (.cells (outA (doOut KS Vj 6 (0, 0, [])) At nt ct Af nf cf As ns cs) 48)) (fun b => wr.heap.size ≤ b ∧ b < w5.heap.size + 1) (some ⟨w5.heap.size, 0, none⟩) 1 [doOut KS Vj 6 (0, 0, [])] :=
        DL.one rOutZ_ok (cs := (outA (doOut KS Vj 6 (0, 0, [])) At nt ct Af nf cf As ns cs).toList) (Blk.new w5 48 _) ⟨by omega, by omega⟩ ⟨At, nt, ct, Af, nf, cf, As, ns, cs, rfl, ⟨o2.1, o2.fr.keep (fun b hb => ⟨⟨hb.1, by have := hb.2; omega⟩, hal.block b hb.2⟩)⟩, by rw [doOut_flt, HNF.out]; exact BF.zero_, (BF.own o3).keep (fun b hb => ⟨⟨hb.1, by have := hb.2; omega⟩, hal.block b hb.2⟩)⟩
      have hOl : Oj.length ≤ 3 := Nat.le_trans HOL.out HOL2.out
      have hdlH := Lib.hid hdl
      have o7H := Lib.hid o7
      clear hdl o7
      go_wp2_with (at_builtin; rw [outA_fold]; refine wpl_appL rfl (.tmp 33) (.tmp 40) _ rfl rOutZ_ok _ 288 Tryd.underlying31 out_infoB rfl (by omega) (by rfl) o7H.out (by simp; omega) (by intro x hx; simp at hx; subst hx; simp; omega) (by simp; omega) (some ⟨w5.heap.size, 0, none⟩) 1 1 [doOut KS Vj 6 (0, 0, [])] (by rfl) hdlH.out (by intro b hb; simp; exact hb.2) (fun cs x _ hx => rOutZ_ok.keep hx (Kp.sub fun b hb => ⟨⟨by have := hb.1; omega, by simp; exact hb.2, by have := hb.1; simp; omega⟩, fun e => by have := hown.out b e.symm; have := hb.1; omega⟩)) (by simp; omega) (by simp; omega) (by simp; omega) ?_; intro A8 n8 c8 w8 o8 b8 g8)
      case inl h =>
        exfalso
        have e : (outA (doOut KS Vj 6 (0, 0, [])) At nt ct Af nf cf As ns cs).size = 26 := rfl
        rcases h with h | h
        · exact (of_decide_eq_true h) e
        · rw [e] at h; omega
      have S8 := (S5.alloc (.cells (outA (doOut KS Vj 6 (0, 0, [])) At nt ct Af nf cf As ns cs) 48)).below b8 (by omega)
      have m8 := (((mj.trans (m5.less zw)).alloc (by omega) (.cells (outA (doOut KS Vj 6 (0, 0, [])) At nt ct Af nf cf As ns cs) 48))).below b8 z3
      have z8 := b8.size
      have hR8 := hRj.keep (w' := w8) (S' := fun b => w.heap.size ≤ b ∧ b < w3.heap.size) (fun b hb => ⟨hb, by
        rw [b8.block b hb.2, hal.block b (by have := hb.2; omega)]
        exact m5.block b (by have := hb.2; omega) (by have := hb.1; simp; omega)⟩)
      go_roundw
      case rel => exact ⟨j + 1, A8, n8, c8, by omega, by go_num, rfl, by rw [HE.out]; exact o8, by rw [HE.out]; exact S8, hR8, m8, by simp at z8; omega⟩
      case measure => simp [intOf]; omega
end Go.Proofs.YthgjknmfghjioaaDoor
