/- Walks of layer 3 (paths): what reading one does at a number's end. No conditions but sizes. -/
import Derived.Test.YtlpkngjeihoknaaDoorProg
import Derived.WalkKit
import Derived.WalkSpells
import Derived.WalkLawsBesides
import Derived.Outline
import Derived.Deep.QuietTactic
import Derived.BigQuiet
import Derived.Handy
import Derived.Lib.Hide
import Derived.Laws.Cover4
import Derived.OrdersHeld
import Derived.Deep.RegionHeld
import Derived.Deep.DeepCutAuto
import Derived.Deep.CutBlock
import Derived.Test.YtlpkngjeihoknaaDoorAspE
namespace Go.Proofs.YtlpkngjeihoknaaDoor
open Go.RowKit
set_option linter.unusedSimpArgs false
set_option linter.unusedVariables false
/-- Each iterator stands where it stood. -/
def ItK (w w' : World) : Prop := ∀ (k : Nat) (s : ByteArray) (q : Nat), w.heap[k]? = some (.stringIter s q) → w'.heap[k]? = some (.stringIter s q)
theorem ItK.refl (w : World) : ItK w w := fun _ _ _ h => h
theorem ItK.trans {a b c : World} (h : ItK a b) (h' : ItK b c) : ItK a c := fun k s q hk => h' k s q (h k s q hk)
theorem ItK.below {w w' : World} (hb : Below w.heap.size w w') : ItK w w' := fun k s q hk => (hb.block k (Array.getElem?_eq_some_iff.1 hk).1).trans hk
theorem ItK.set {w : World} {g : Nat} {t : TypeId} {cs : Array Value} (h : Blk w g t cs) (i : Nat) (u : Value) : ItK w (w.setCell ⟨g, i, none⟩ u) := fun k s q hk => by
  refine (Below.heap_setCell w ⟨g, i, none⟩ u k ?_).trans hk
  intro e
  rw [show k = g from e] at hk
  have h2 : w.heap[g]? = some (.cells cs t (0, 0)) := h
  rw [h2] at hk
  cases hk
theorem ItK.own {w w' : World} {base : Nat} {e : TypeId} {size n : Nat} {v : Value} {xs : List Value} (h : w.ownsRow base e size v n xs) (hg : w.grownBy w' v.ownBlock) : ItK w w' := fun k s q hk => by
  refine (hg.block k (Array.getElem?_eq_some_iff.1 hk).1 ?_).trans hk
  intro e1
  rcases h.2 with ⟨h3, _⟩ | ⟨g2, _, _, hv2, _, hh2, _⟩
  · rw [h3] at e1; cases e1
  · rw [hv2] at e1
    injection e1 with e1
    have e1 : k = g2 := e1
    rw [e1, hh2] at hk
    cases hk
theorem OP.setAt {w w' : World} {base n c g : Nat} {A : Option Addr} {L : List (Seg × Hd)} {t : TypeId} {cs : Array Value} (h : OP w base A n c L) (hb : Blk w g t cs) (h1 : 73 ≠ t) (h2 : 33 ≠ t) (hg : w.grownBy w' (some g)) : OP w' base A n c L :=
  ⟨h.1, own_at h.2.1 hb h1 hg, fun y hy => ⟨(h.2.2.1 y hy).1, own_at (h.2.2.1 y hy).2.1 hb h2 hg, (h.2.2.1 y hy).2.2⟩, h.2.2.2⟩
/-- What reading a path knows. -/
structure Ps where
  out : List Seg
  n : Int
  within : Bool
def addOut (out : List Seg) (within : Bool) (kind v : Int) : List Seg := if out.getLast?.map (·.1) = some kind ∧ (kind = 2 ∨ within = true) then out.dropLast ++ [(kind, (out.getLast?.map (·.2)).getD [] ++ [v])] else out ++ [(kind, [v])]
def addPs (st : Ps) (kind : Int) : Ps := ⟨addOut st.out st.within kind (IntKind.u32.wrap st.n), 0, st.within⟩
theorem addOut_nil (within : Bool) (kind v : Int) : addOut [] within kind v = [(kind, [v])] := by unfold addOut; simp
theorem addOut_kind {out : List Seg} {x : Seg} {within : Bool} {kind v : Int} (h : x.1 ≠ kind) : addOut (out ++ [x]) within kind v = out ++ [x] ++ [(kind, [v])] := by
  unfold addOut; rw [if_neg (fun h' => h (by simpa using h'.1))]
theorem addOut_no {out : List Seg} {x : Seg} {within : Bool} {kind v : Int} (h : ¬ (kind = 2 ∨ within = true)) : addOut (out ++ [x]) within kind v = out ++ [x] ++ [(kind, [v])] := by
  unfold addOut; rw [if_neg (fun h' => h h'.2)]
theorem addOut_join {out : List Seg} {x : Seg} {within : Bool} {kind v : Int} (hx : x.1 = kind) (h : kind = 2 ∨ within = true) : addOut (out ++ [x]) within kind v = out ++ [(x.1, x.2 ++ [v])] := by
  unfold addOut; rw [if_pos ⟨by simp [hx], h⟩]; simp [hx]
/-- How that stands in cells. -/
def PB (w : World) (base go gw gn : Nat) (st : Ps) : Prop := ∃ (A : Option Addr) (n c : Nat) (L : List (Seg × Hd)), Blk w go 22 #[.slice A n c] ∧ Blk w gn 3 #[.int .i64 st.n] ∧ Blk w gw 4 #[.bool st.within] ∧ OP w base A n c L ∧ L.map (·.1) = st.out ∧ base ≤ go ∧ base ≤ gw ∧ base ≤ gn
def RetAdd (w : World) (base go gw gn : Nat) (st : Ps) (e : Ending) (w' : World) : Prop := e = .returned (.tuple #[]) ∧ PB w' base go gw gn st ∧ Below base w w' ∧ ItK w w'
theorem u32_wf (v : Int) : (Lit.int .u32 (IntKind.u32.wrap v)).wf = true := by
  have h : IntKind.u32.wrap v = v % 4294967296 := IntKind.wrap_u32 v
  rw [h]
  simp [Lit.wf, IntKind.min, IntKind.max, IntKind.signed, IntKind.bits]
  omega
theorem OU.one (w : World) {base : Nat} {v : Int} (hv : (Lit.int .u32 v).wf = true) (hb : base ≤ w.heap.size) {g : Nat} (hg : g = w.heap.size) : OU (w.alloc (.cells #[.int .u32 v] 33)) base (some ⟨g, 0, none⟩) 1 1 [v] := by
  subst hg
  exact ⟨rfl, World.ownsRow_lit w #[.int .u32 v] 1 hb (by unfold maxLen; omega) rfl, fun x hx => by simp at hx; subst hx; exact hv⟩
set_option maxHeartbeats 8000000 in
set_option maxRecDepth 100000 in
theorem parseAdd (kind : Int) (w : World) (base go gw gn : Nat) (st : Ps) (h : PB w base go gw gn st) (hl : st.out.length ≤ 100000) (hs : Hid (sumN st.out ≤ 100000)) (hbase : base ≤ w.heap.size) :
    Calls Tryd.prog 64 #[.int .i64 kind, .pointer (some ⟨go, 0, none⟩), .pointer (some ⟨gw, 0, none⟩), .pointer (some ⟨gn, 0, none⟩)] w (RetAdd w base go gw gn (addPs st kind)) := by
  obtain ⟨out, nn, within⟩ := st
  obtain ⟨A, n, c, L, hO, hN, hW, hop, hL, hbo, hbw, hbn⟩ := h
  simp only at hO hN hW hL hl hs
  have HL := Lib.hid hL
  clear hL
  have hnl : n ≤ 100000 := by have h1 := hop.1; have h2 := congrArg List.length HL.out; rw [List.length_map] at h2; omega
  obtain ⟨v, hv⟩ : ∃ v, IntKind.u32.wrap nn = v := ⟨_, rfl⟩
  have HV := Lib.hid (show (Lit.int .u32 v).wf = true by rw [← hv]; exact u32_wf nn)
  have HVV := Lib.hid hv
  have o0 := hO.cell 0
  have n0 := hN.cell 0
  have w0 := hW.cell 0
  have fo := hO.frozen 0
  have fn := hN.frozen 0
  have hne1 : go ≠ gn := by rintro rfl; have := hO.symm.trans hN; injection this with h; injection h with _ h2 _; exact absurd h2 (by decide)
  have hne2 : gw ≠ gn := by rintro rfl; have := hW.symm.trans hN; injection this with h; injection h with _ h2 _; exact absurd h2 (by decide)
  have hne3 : go ≠ gw := by rintro rfl; have := hO.symm.trans hW; injection this with h; injection h with _ h2 _; exact absurd h2 (by decide)
  by_cases h0 : n = 0
  · subst h0
    have t0 : decide ((0 : Int) ≤ -1) = false := by decide
    have HM := Lib.hid (show List.map Prod.fst (L ++ [(((kind, [v]), ((some ⟨w.heap.size, 0, none⟩ : Option Addr), 1, 1)) : Seg × Hd)]) = addOut out within kind (IntKind.u32.wrap nn) by
      have e : L = [] := List.eq_nil_of_length_eq_zero hop.1.symm
      have h1 := HL.out
      rw [e] at h1
      rw [e, ← h1, HVV.out]
      show _ = addOut [] _ _ _
      rw [addOut_nil]; rfl)
    go_enter Tryd.func64, Tryd.ntmps64
    have oa := own_alloc2 (own_alloc2 hop.2.1 (.cells #[.int .u32 v] 33)) (.cells #[.int .i64 kind, .slice (some ⟨w.heap.size, 0, none⟩) 1 1] 73)
    have b1 := (Below.refl w.heap.size w).alloc (Nat.le_refl _) (.cells #[.int .u32 v] 33)
    have b2 := b1.alloc b1.size (.cells #[.int .i64 kind, .slice (some ⟨w.heap.size, 0, none⟩) 1 1] 73)
    have ou := (OU.one w HV.out (base := base) hbase (g := w.heap.size) rfl).alloc (.cells #[.int .i64 kind, .slice (some ⟨w.heap.size, 0, none⟩) 1 1] 73)
    have ou' := (OU.one w HV.out (base := w.heap.size) (Nat.le_refl _) (g := w.heap.size) rfl).alloc (.cells #[.int .i64 kind, .slice (some ⟨w.heap.size, 0, none⟩) 1 1] 73)
    have HZ2 := Lib.hid b2.size
    have HAP := Lib.hid (hop.apt (y := (((kind, [v]), ((some ⟨w.heap.size, 0, none⟩ : Option Addr), 1, 1)) : Seg × Hd)) ou' (Nat.le_refl _))
    go_upto_region 4 with (at_builtin; refine wpl_appR rfl (.tmp 40) (.tmp 46) 22 rfl 73 _ 2 32 Tryd.underlying22 seg_info rfl (by omega) base _ 0 _ _ (by rfl) oa (w.heap.size + 1 + 1) (some ⟨w.heap.size + 1, 0, none⟩) 1 1 [.int .i64 kind, .slice (some ⟨w.heap.size, 0, none⟩) 1 1] (by rfl) (Reads.two (w.alloc (.cells #[.int .u32 v] 33)) 73 (.int .i64 kind) (.slice (some ⟨w.heap.size, 0, none⟩) 1 1) (by simp)) (by intro u hu; simp at hu; rcases hu with rfl | rfl <;> rfl) (by unfold maxLen; omega) (by omega) (by have := HZ2.out; omega) ?_; intro A6 c6 w6 o6 b6 g6 _; have hO2 := (hO.below b2 hO.lt).grown g6 (by intro e; first | exact own_blk_ne oa (hO.below b2 hO.lt) (by decide) e | exact own_blk_ne oa (hO.below b2 hO.lt) (by decide) e.symm); clear o0 fo; have o0 := hO2.cell 0; have fo := hO2.frozen 0)
    have hop2 := (hop.call b2).push (y := (((kind, [v]), ((some ⟨w.heap.size, 0, none⟩ : Option Addr), 1, 1)) : Seg × Hd)) ou HAP.out o6 g6
    have hN2 := (hN.below b2 hN.lt).grown g6 (by intro e; first | exact own_blk_ne oa (hN.below b2 hN.lt) (by decide) e | exact own_blk_ne oa (hN.below b2 hN.lt) (by decide) e.symm)
    have hW2 := (hW.below b2 hW.lt).grown g6 (by intro e; first | exact own_blk_ne oa (hW.below b2 hW.lt) (by decide) e | exact own_blk_ne oa (hW.below b2 hW.lt) (by decide) e.symm)
    have I2 := (ItK.below b2).trans (ItK.own oa g6)
    have B2 := (b2.mono hbase).trans b6
    have G1 := only_setCell (World.grownBy.refl w6 (some go)) (p := ⟨go, 0, none⟩) (.inl rfl) (.slice A6 (0 + 1) c6)
    have hO3 := hO2.set_ 0 (.slice A6 (0 + 1) c6)
    have hN3 := hN2.grown G1 (by intro e; injection e with e; first | exact hne1 e | exact hne1 e.symm)
    have hW3 := hW2.grown G1 (by intro e; injection e with e; first | exact hne3 e | exact hne3 e.symm)
    have hop3 := hop2.setAt hO2 (by decide) (by decide) G1
    have B3 := B2.setCell (p := ⟨go, 0, none⟩) hbo (.slice A6 (0 + 1) c6)
    have I3 := I2.trans (ItK.set hO2 0 (.slice A6 (0 + 1) c6))
    obtain ⟨w7, hw7⟩ : ∃ W, w6.setCell ⟨go, 0, none⟩ (.slice A6 (0 + 1) c6) = W := ⟨_, rfl⟩
    rw [hw7] at hO3 hN3 hW3 hop3 B3 I3
    try rw [hw7]
    clear hw7 n0 fn G1
    have n0 := hN3.cell 0
    have fn := hN3.frozen 0
    go_wp2_with fail
    have G2 := only_setCell (World.grownBy.refl w7 (some gn)) (p := ⟨gn, 0, none⟩) (.inl rfl) (.int .i64 0)
    have hN4 := hN3.set_ 0 (.int .i64 0)
    have hO4 := hO3.grown G2 (by intro e; injection e with e; first | exact hne1 e | exact hne1 e.symm)
    have hW4 := hW3.grown G2 (by intro e; injection e with e; first | exact hne2 e | exact hne2 e.symm)
    have hop4 := hop3.setAt hN3 (by decide) (by decide) G2
    have B4 := B3.setCell (p := ⟨gn, 0, none⟩) hbn (.int .i64 0)
    have I4 := I3.trans (ItK.set hN3 0 (.int .i64 0))
    simp only [List.setIfInBounds_toArray, List.set_cons_succ, List.set_cons_zero] at hO4 hN4
    go_returns
    exact ⟨rfl, ⟨A6, _, c6, _, hO4, hN4, hW4, hop4, HM.out, hbo, hbw, hbn⟩, B4, I4⟩
  obtain ⟨L0, ⟨y, q⟩, m, rfl, rfl, hm⟩ := last_case hop.1 h0
  have HMM := Lib.hid hm
  have wk : IntKind.i64.wrap ((m : Int) + 1 - 1) = (m : Int) := by rw [IntWalk.i64_in _ ⟨by omega, by omega⟩]; omega
  have wk3 : (m : Int) + 1 - 1 = m := by omega
  have t0 : decide ((0 : Int) ≤ (m : Int)) = true := decide_eq_true (by omega)
  clear hm h0
  obtain ⟨g, rfl, hbg, hgl, c0, c1', fz⟩ := hop.at_ (j := m) (y := (y, q)) (by rw [List.getElem?_append_right (by rw [HMM.out]; exact Nat.le_refl _), ← HMM.out, Nat.sub_self]; rfl)
  simp only at c0 c1'
  have hmi : (m : Int) < (m : Int) + 1 := by omega
  have hm0 : (0 : Int) ≤ (m : Int) := by omega
  obtain ⟨ky, hky⟩ : ∃ ky, y.1 = ky := ⟨_, rfl⟩
  have HKY := Lib.hid hky
  rw [hky] at c0
  clear hky
  by_cases hk : ky = kind
  case neg =>
    have t1 : (ky == kind) = false := by simpa using hk
    have HM := Lib.hid (show List.map Prod.fst (L0 ++ [(y, q)] ++ [(((kind, [v]), ((some ⟨w.heap.size, 0, none⟩ : Option Addr), 1, 1)) : Seg × Hd)]) = addOut out within kind (IntKind.u32.wrap nn) by
      rw [← HL.out, List.map_append (l₂ := [(y, q)]), List.map_singleton, addOut_kind (by rw [HKY.out]; exact hk), HVV.out, List.map_append, List.map_append]; rfl)
    clear hk
    go_enter Tryd.func64, Tryd.ntmps64
    have oa := own_alloc2 (own_alloc2 hop.2.1 (.cells #[.int .u32 v] 33)) (.cells #[.int .i64 kind, .slice (some ⟨w.heap.size, 0, none⟩) 1 1] 73)
    have b1 := (Below.refl w.heap.size w).alloc (Nat.le_refl _) (.cells #[.int .u32 v] 33)
    have b2 := b1.alloc b1.size (.cells #[.int .i64 kind, .slice (some ⟨w.heap.size, 0, none⟩) 1 1] 73)
    have ou := (OU.one w HV.out (base := base) hbase (g := w.heap.size) rfl).alloc (.cells #[.int .i64 kind, .slice (some ⟨w.heap.size, 0, none⟩) 1 1] 73)
    have ou' := (OU.one w HV.out (base := w.heap.size) (Nat.le_refl _) (g := w.heap.size) rfl).alloc (.cells #[.int .i64 kind, .slice (some ⟨w.heap.size, 0, none⟩) 1 1] 73)
    have HZ2 := Lib.hid b2.size
    have HAP := Lib.hid (hop.apt (y := (((kind, [v]), ((some ⟨w.heap.size, 0, none⟩ : Option Addr), 1, 1)) : Seg × Hd)) ou' (Nat.le_refl _))
    go_upto_region 4 with (at_builtin; refine wpl_appR rfl (.tmp 40) (.tmp 46) 22 rfl 73 _ 2 32 Tryd.underlying22 seg_info rfl (by omega) base _ (m + 1) _ _ (by rfl) oa (w.heap.size + 1 + 1) (some ⟨w.heap.size + 1, 0, none⟩) 1 1 [.int .i64 kind, .slice (some ⟨w.heap.size, 0, none⟩) 1 1] (by rfl) (Reads.two (w.alloc (.cells #[.int .u32 v] 33)) 73 (.int .i64 kind) (.slice (some ⟨w.heap.size, 0, none⟩) 1 1) (by simp)) (by intro u hu; simp at hu; rcases hu with rfl | rfl <;> rfl) (by unfold maxLen; omega) (by omega) (by have := HZ2.out; omega) ?_; intro A6 c6 w6 o6 b6 g6 _; have hO2 := (hO.below b2 hO.lt).grown g6 (by intro e; first | exact own_blk_ne oa (hO.below b2 hO.lt) (by decide) e | exact own_blk_ne oa (hO.below b2 hO.lt) (by decide) e.symm); clear o0 fo; have o0 := hO2.cell 0; have fo := hO2.frozen 0)
    have hop2 := (hop.call b2).push (y := (((kind, [v]), ((some ⟨w.heap.size, 0, none⟩ : Option Addr), 1, 1)) : Seg × Hd)) ou HAP.out o6 g6
    have hN2 := (hN.below b2 hN.lt).grown g6 (by intro e; first | exact own_blk_ne oa (hN.below b2 hN.lt) (by decide) e | exact own_blk_ne oa (hN.below b2 hN.lt) (by decide) e.symm)
    have hW2 := (hW.below b2 hW.lt).grown g6 (by intro e; first | exact own_blk_ne oa (hW.below b2 hW.lt) (by decide) e | exact own_blk_ne oa (hW.below b2 hW.lt) (by decide) e.symm)
    have I2 := (ItK.below b2).trans (ItK.own oa g6)
    have B2 := (b2.mono hbase).trans b6
    have G1 := only_setCell (World.grownBy.refl w6 (some go)) (p := ⟨go, 0, none⟩) (.inl rfl) (.slice A6 ((m + 1) + 1) c6)
    have hO3 := hO2.set_ 0 (.slice A6 ((m + 1) + 1) c6)
    have hN3 := hN2.grown G1 (by intro e; injection e with e; first | exact hne1 e | exact hne1 e.symm)
    have hW3 := hW2.grown G1 (by intro e; injection e with e; first | exact hne3 e | exact hne3 e.symm)
    have hop3 := hop2.setAt hO2 (by decide) (by decide) G1
    have B3 := B2.setCell (p := ⟨go, 0, none⟩) hbo (.slice A6 ((m + 1) + 1) c6)
    have I3 := I2.trans (ItK.set hO2 0 (.slice A6 ((m + 1) + 1) c6))
    obtain ⟨w7, hw7⟩ : ∃ W, w6.setCell ⟨go, 0, none⟩ (.slice A6 ((m + 1) + 1) c6) = W := ⟨_, rfl⟩
    rw [hw7] at hO3 hN3 hW3 hop3 B3 I3
    try rw [hw7]
    clear hw7 n0 fn G1
    have n0 := hN3.cell 0
    have fn := hN3.frozen 0
    go_wp2_with fail
    have G2 := only_setCell (World.grownBy.refl w7 (some gn)) (p := ⟨gn, 0, none⟩) (.inl rfl) (.int .i64 0)
    have hN4 := hN3.set_ 0 (.int .i64 0)
    have hO4 := hO3.grown G2 (by intro e; injection e with e; first | exact hne1 e | exact hne1 e.symm)
    have hW4 := hW3.grown G2 (by intro e; injection e with e; first | exact hne2 e | exact hne2 e.symm)
    have hop4 := hop3.setAt hN3 (by decide) (by decide) G2
    have B4 := B3.setCell (p := ⟨gn, 0, none⟩) hbn (.int .i64 0)
    have I4 := I3.trans (ItK.set hN3 0 (.int .i64 0))
    simp only [List.setIfInBounds_toArray, List.set_cons_succ, List.set_cons_zero] at hO4 hN4
    go_returns
    exact ⟨rfl, ⟨A6, _, c6, _, hO4, hN4, hW4, hop4, HM.out, hbo, hbw, hbn⟩, B4, I4⟩
  subst hk
  have t1 : (ky == ky) = true := by simp
  by_cases hk2 : ky = 2 ∨ within = true
  case neg =>
    have t2 : (ky == 2) = false := by simp; exact fun e => hk2 (.inl e)
    have hwi : within = false := by cases within; rfl; exact absurd (.inr rfl) hk2
    have HM := Lib.hid (show List.map Prod.fst (L0 ++ [(y, q)] ++ [(((ky, [v]), ((some ⟨w.heap.size, 0, none⟩ : Option Addr), 1, 1)) : Seg × Hd)]) = addOut out within ky (IntKind.u32.wrap nn) by
      rw [← HL.out, List.map_append (l₂ := [(y, q)]), List.map_singleton, addOut_no hk2, HVV.out, List.map_append, List.map_append]; rfl)
    obtain ⟨kind, rfl⟩ : ∃ k, k = ky := ⟨_, rfl⟩
    clear hk2
    subst hwi
    go_enter Tryd.func64, Tryd.ntmps64
    have oa := own_alloc2 (own_alloc2 hop.2.1 (.cells #[.int .u32 v] 33)) (.cells #[.int .i64 kind, .slice (some ⟨w.heap.size, 0, none⟩) 1 1] 73)
    have b1 := (Below.refl w.heap.size w).alloc (Nat.le_refl _) (.cells #[.int .u32 v] 33)
    have b2 := b1.alloc b1.size (.cells #[.int .i64 kind, .slice (some ⟨w.heap.size, 0, none⟩) 1 1] 73)
    have ou := (OU.one w HV.out (base := base) hbase (g := w.heap.size) rfl).alloc (.cells #[.int .i64 kind, .slice (some ⟨w.heap.size, 0, none⟩) 1 1] 73)
    have ou' := (OU.one w HV.out (base := w.heap.size) (Nat.le_refl _) (g := w.heap.size) rfl).alloc (.cells #[.int .i64 kind, .slice (some ⟨w.heap.size, 0, none⟩) 1 1] 73)
    have HZ2 := Lib.hid b2.size
    have HAP := Lib.hid (hop.apt (y := (((kind, [v]), ((some ⟨w.heap.size, 0, none⟩ : Option Addr), 1, 1)) : Seg × Hd)) ou' (Nat.le_refl _))
    go_upto_region 4 with (at_builtin; refine wpl_appR rfl (.tmp 40) (.tmp 46) 22 rfl 73 _ 2 32 Tryd.underlying22 seg_info rfl (by omega) base _ (m + 1) _ _ (by rfl) oa (w.heap.size + 1 + 1) (some ⟨w.heap.size + 1, 0, none⟩) 1 1 [.int .i64 kind, .slice (some ⟨w.heap.size, 0, none⟩) 1 1] (by rfl) (Reads.two (w.alloc (.cells #[.int .u32 v] 33)) 73 (.int .i64 kind) (.slice (some ⟨w.heap.size, 0, none⟩) 1 1) (by simp)) (by intro u hu; simp at hu; rcases hu with rfl | rfl <;> rfl) (by unfold maxLen; omega) (by omega) (by have := HZ2.out; omega) ?_; intro A6 c6 w6 o6 b6 g6 _; have hO2 := (hO.below b2 hO.lt).grown g6 (by intro e; first | exact own_blk_ne oa (hO.below b2 hO.lt) (by decide) e | exact own_blk_ne oa (hO.below b2 hO.lt) (by decide) e.symm); clear o0 fo; have o0 := hO2.cell 0; have fo := hO2.frozen 0)
    have hop2 := (hop.call b2).push (y := (((kind, [v]), ((some ⟨w.heap.size, 0, none⟩ : Option Addr), 1, 1)) : Seg × Hd)) ou HAP.out o6 g6
    have hN2 := (hN.below b2 hN.lt).grown g6 (by intro e; first | exact own_blk_ne oa (hN.below b2 hN.lt) (by decide) e | exact own_blk_ne oa (hN.below b2 hN.lt) (by decide) e.symm)
    have hW2 := (hW.below b2 hW.lt).grown g6 (by intro e; first | exact own_blk_ne oa (hW.below b2 hW.lt) (by decide) e | exact own_blk_ne oa (hW.below b2 hW.lt) (by decide) e.symm)
    have I2 := (ItK.below b2).trans (ItK.own oa g6)
    have B2 := (b2.mono hbase).trans b6
    have G1 := only_setCell (World.grownBy.refl w6 (some go)) (p := ⟨go, 0, none⟩) (.inl rfl) (.slice A6 ((m + 1) + 1) c6)
    have hO3 := hO2.set_ 0 (.slice A6 ((m + 1) + 1) c6)
    have hN3 := hN2.grown G1 (by intro e; injection e with e; first | exact hne1 e | exact hne1 e.symm)
    have hW3 := hW2.grown G1 (by intro e; injection e with e; first | exact hne3 e | exact hne3 e.symm)
    have hop3 := hop2.setAt hO2 (by decide) (by decide) G1
    have B3 := B2.setCell (p := ⟨go, 0, none⟩) hbo (.slice A6 ((m + 1) + 1) c6)
    have I3 := I2.trans (ItK.set hO2 0 (.slice A6 ((m + 1) + 1) c6))
    obtain ⟨w7, hw7⟩ : ∃ W, w6.setCell ⟨go, 0, none⟩ (.slice A6 ((m + 1) + 1) c6) = W := ⟨_, rfl⟩
    rw [hw7] at hO3 hN3 hW3 hop3 B3 I3
    try rw [hw7]
    clear hw7 n0 fn G1
    have n0 := hN3.cell 0
    have fn := hN3.frozen 0
    go_wp2_with fail
    have G2 := only_setCell (World.grownBy.refl w7 (some gn)) (p := ⟨gn, 0, none⟩) (.inl rfl) (.int .i64 0)
    have hN4 := hN3.set_ 0 (.int .i64 0)
    have hO4 := hO3.grown G2 (by intro e; injection e with e; first | exact hne1 e | exact hne1 e.symm)
    have hW4 := hW3.grown G2 (by intro e; injection e with e; first | exact hne2 e | exact hne2 e.symm)
    have hop4 := hop3.setAt hN3 (by decide) (by decide) G2
    have B4 := B3.setCell (p := ⟨gn, 0, none⟩) hbn (.int .i64 0)
    have I4 := I3.trans (ItK.set hN3 0 (.int .i64 0))
    simp only [List.setIfInBounds_toArray, List.set_cons_succ, List.set_cons_zero] at hO4 hN4
    go_returns
    exact ⟨rfl, ⟨A6, _, c6, _, hO4, hN4, hW4, hop4, HM.out, hbo, hbw, hbn⟩, B4, I4⟩
  have HM := Lib.hid (fun (hh : Hd) => show ((L0 ++ [((y.1, y.2 ++ [v]), hh)]).map (·.1)) = addOut out within ky (IntKind.u32.wrap nn) by
    rw [← HL.out, List.map_append (l₂ := [(y, q)]), List.map_singleton, addOut_join HKY.out hk2, HVV.out, List.map_append]; rfl)
  have HLN := Lib.hid (show y.2.length + [v].length ≤ 35184372088832 by
    have h2 : y.2.length ≤ sumN ((L0 ++ [(y, q)]).map (·.1)) := sumN_at (j := L0.length) (by rw [List.map_append, List.getElem?_append_right (by simp)]; simp)
    rw [HL.out] at h2
    have h3 := hs.out
    rw [List.length_singleton]
    omega)
  obtain ⟨Aq, nq, cq⟩ := q
  have hq2 : (ky == 2) = true ∨ ((ky == 2) = false ∧ within = true) := by
    rcases hk2 with h | h
    · left; simpa using h
    · cases hb : (ky == 2)
      · right; exact ⟨rfl, h⟩
      · left; rfl
  have c1d : w.cell? ⟨g, m * 2 + 1, none⟩ = some (.slice Aq nq cq) := c1'
  have c1d' : w.drew.cell? ⟨g, m * 2 + 1, none⟩ = some (.slice Aq nq cq) := c1'
  have c1a : (w.drew.alloc (.cells #[.int .u32 v] 33)).cell? ⟨g, m * 2 + 1, none⟩ = some (.slice Aq nq cq) := (((Below.refl w.drew.heap.size w.drew).alloc (Nat.le_refl _) _).cell (p := ⟨g, m * 2 + 1, none⟩) hgl).trans c1d'
  have bA : Below w.drew.heap.size w.drew (w.drew.alloc (.cells #[.int .u32 v] 33)) := (Below.refl _ _).alloc (Nat.le_refl _) _
  have hopD : OP w.drew base (some ⟨g, 0, none⟩) (m + 1) c (L0 ++ [(y, (Aq, nq, cq))]) := hop
  have hopA := hopD.call bA
  have hOd : Blk w.drew go 22 #[.slice (some ⟨g, 0, none⟩) (m + 1) c] := hO
  have hNd : Blk w.drew gn 3 #[.int .i64 nn] := hN
  have hWd : Blk w.drew gw 4 #[.bool within] := hW
  have hOA := hOd.below bA hOd.lt
  have hNA := hNd.below bA hNd.lt
  have hWA := hWd.below bA hWd.lt
  have ouqA : OU (w.drew.alloc (.cells #[.int .u32 v] 33)) base Aq nq cq y.2 := hopA.2.2.1 (y, (Aq, nq, cq)) (by simp)
  have nsA := NS.one w.drew HV.out (g := w.drew.heap.size) rfl
  have hbA : base ≤ (w.drew.alloc (.cells #[.int .u32 v] 33)).heap.size := Nat.le_trans hbase (by show w.heap.size ≤ (w.drew.alloc _).heap.size; simp)
  have hzw : w.drew.heap.size = w.heap.size := rfl
  have S0 : w.drew.cell? ⟨go, 0, none⟩ = some (.slice (some ⟨g, 0, none⟩) (m + 1) c) ∧ w.drew.cell? ⟨gn, 0, none⟩ = some (.int .i64 nn) := ⟨hOd.cell 0, hNd.cell 0⟩
  have S1 : (w.drew.alloc (.cells #[.int .u32 v] 33)).cell? ⟨go, 0, none⟩ = some (.slice (some ⟨g, 0, none⟩) (m + 1) c) ∧ (w.drew.alloc (.cells #[.int .u32 v] 33)).cell? ⟨gn, 0, none⟩ = some (.int .i64 nn) := ⟨hOA.cell 0, hNA.cell 0⟩
  clear hk2 c1'
  rcases hq2 with t2 | ⟨t2, rfl⟩
  · go_enter Tryd.func64, Tryd.ntmps64
    go_upto_region 2 with fail
    rename_i hk
    have HKK := Lib.hid hk
    clear hk t0 t2 c0 w0 o0 n0
    refine wp_region_held_drew (S := (fun w' => w'.cell? ⟨go, 0, none⟩ = some (.slice (some ⟨g, 0, none⟩) (m + 1) c) ∧ w'.cell? ⟨gn, 0, none⟩ = some (.int .i64 nn))) (by kernel_rfl) ?_ (fun hHeld => ?_)
    · (first | exact S0 | exact S1 | exact S5 | exact S6)
    refine wpAnyH_take (i := 0) (v := ?qa1v0) rfl (by kernel_rfl) (by kernel_rfl) (by kernel_rfl) (by intro _ _ _ h; exact h) (Or.inl ⟨by rfl, ?qa1hy0⟩) (by assumption) ?qa1rest0
    case qa1hy0 => (intro w hSw; (try dsimp only at hSw); go_simp; try with_reducible rfl)
    try simp only [Act.put, List.getElem_toArray, List.getElem_cons_succ, List.getElem_cons_zero, List.setIfInBounds_toArray, List.set_cons_zero, List.set_cons_succ]
    refine wpAnyH_take (i := 1) (v := ?qa1v1) rfl (by kernel_rfl) (by kernel_rfl) (by kernel_rfl) (by intro _ _ _ h; exact h) (Or.inl ⟨by rfl, ?qa1hy1⟩) (by assumption) ?qa1rest1
    case qa1hy1 => (intro w hSw; (try dsimp only at hSw); go_simp; try with_reducible rfl)
    try simp only [Act.put, List.getElem_toArray, List.getElem_cons_succ, List.getElem_cons_zero, List.setIfInBounds_toArray, List.set_cons_zero, List.set_cons_succ]
    refine wpAnyH_take (i := 2) (v := ?qa1v2) rfl (by kernel_rfl) (by kernel_rfl) (by kernel_rfl) (by intro _ _ _ h; exact h) (Or.inl ⟨by rfl, ?qa1hy2⟩) (by assumption) ?qa1rest2
    case qa1hy2 => (intro w hSw; (try dsimp only at hSw); go_simp; try with_reducible rfl)
    try simp only [Act.put, List.getElem_toArray, List.getElem_cons_succ, List.getElem_cons_zero, List.setIfInBounds_toArray, List.set_cons_zero, List.set_cons_succ]
    refine wpAnyH_take (i := 3) (v := ?qa1v3) rfl (by kernel_rfl) (by kernel_rfl) (by kernel_rfl) (by intro _ _ _ h; exact h) (Or.inl ⟨by rfl, ?qa1hy3⟩) (by assumption) ?qa1rest3
    case qa1hy3 => (intro w hSw; (try dsimp only at hSw); go_simp; try with_reducible rfl)
    try simp only [Act.put, List.getElem_toArray, List.getElem_cons_succ, List.getElem_cons_zero, List.setIfInBounds_toArray, List.set_cons_zero, List.set_cons_succ]
    refine wpAnyH_take (i := 4) (v := ?qa1v4) rfl (by kernel_rfl) (by kernel_rfl) (by kernel_rfl) (by intro _ _ _ h; exact h) (Or.inl ⟨by rfl, ?qa1hy4⟩) (by assumption) ?qa1rest4
    case qa1hy4 => (intro w hSw; (try dsimp only at hSw); go_simp; try with_reducible rfl)
    try simp only [Act.put, List.getElem_toArray, List.getElem_cons_succ, List.getElem_cons_zero, List.setIfInBounds_toArray, List.set_cons_zero, List.set_cons_succ]
    refine wpAnyH_take (i := 5) (v := ?qa1v5) rfl (by kernel_rfl) (by kernel_rfl) (by kernel_rfl) (by intro _ _ _ h; exact h) (Or.inl ⟨by rfl, ?qa1hy5⟩) (by assumption) ?qa1rest5
    case qa1hy5 => (intro w hSw; (try dsimp only at hSw); go_simp; try with_reducible rfl)
    try simp only [Act.put, List.getElem_toArray, List.getElem_cons_succ, List.getElem_cons_zero, List.setIfInBounds_toArray, List.set_cons_zero, List.set_cons_succ]
    refine wpAnyH_take (i := 7) (v := ?qa1v7) rfl (by kernel_rfl) (by kernel_rfl) (by kernel_rfl) (by intro _ _ _ h; exact h) (Or.inl ⟨by rfl, ?qa1hy7⟩) (by assumption) ?qa1rest7
    case qa1hy7 => (intro w hSw; (try dsimp only at hSw); go_simp; try with_reducible rfl)
    try simp only [Act.put, List.getElem_toArray, List.getElem_cons_succ, List.getElem_cons_zero, List.setIfInBounds_toArray, List.set_cons_zero, List.set_cons_succ]
    refine wpAnyH_take (i := 8) (v := ?qa1v8) rfl (by kernel_rfl) (by kernel_rfl) (by kernel_rfl) (by intro _ _ _ h; exact h) (Or.inl ⟨by rfl, ?qa1hy8⟩) (by assumption) ?qa1rest8
    case qa1hy8 => (intro w hSw; (try dsimp only at hSw); go_simp; try with_reducible rfl)
    try simp only [Act.put, List.getElem_toArray, List.getElem_cons_succ, List.getElem_cons_zero, List.setIfInBounds_toArray, List.set_cons_zero, List.set_cons_succ]
    refine wpAnyH_ready (rs := [6, 9]) (by kernel_rfl) (by simp) ?_
    refine AllReadyH.cons rfl (fun K hK => ?_) (AllReadyH.cons rfl (fun K hK => ?_) AllReadyH.nil)
    · go_simp
      go_wp2_with (fail)
      refine hK.out _ _ ?_ (fun hHeld => ?_)
      · try dsimp only
        (first | exact S0 | exact S1 | exact S5 | exact S6)
      clear hK K
      refine wpAnyH_ready (rs := [9]) (by kernel_rfl) (by simp) ?_
      refine AllReadyH.cons rfl (fun K hK => ?_) AllReadyH.nil
      go_simp
      go_wp2_with (fail)
      refine hK.out _ _ ?_ (fun hHeld => ?_)
      · try dsimp only
        (first | exact S0 | exact S1 | exact S5 | exact S6)
      clear hK K
      refine wpAnyH_ready (rs := [10]) (by kernel_rfl) (by simp) ?_
      refine AllReadyH.cons rfl (fun K hK => ?_) AllReadyH.nil
      refine step_appU rfl (.tmp 33) (.tmp 36) rfl base Aq nq cq y.2 (by rfl) ouqA (w.drew.heap.size + 1) (some ⟨w.drew.heap.size, 0, none⟩) 1 1 [v] (by rfl) nsA HLN.out hbA ?_; intro A5 n5 c5 w5 o5 b5 g5 hat5; have hO5 := hOA.grown g5 (by intro e; first | exact own_blk_ne ouqA.2.1 hOA (by decide) e | exact own_blk_ne ouqA.2.1 hOA (by decide) e.symm); have hN5 := hNA.grown g5 (by intro e; first | exact own_blk_ne ouqA.2.1 hNA (by decide) e | exact own_blk_ne ouqA.2.1 hNA (by decide) e.symm); have hW5 := hWA.grown g5 (by intro e; first | exact own_blk_ne ouqA.2.1 hWA (by decide) e | exact own_blk_ne ouqA.2.1 hWA (by decide) e.symm); have hop6 := hopA.grow (hm := HMM.out) o5 g5 hat5; have row5 : w5.ownsRow base 73 2 (.slice (some ⟨g, 0, none⟩) (m + 1) c) (m + 1) (segsC (L0 ++ [(y, (Aq, nq, cq))])) := own_own hopA.2.1 ouqA.2.1 (by decide) g5; have fz5 := row5.frozenAt (m * 2 + 1); have cc5 := (row5.cellAt (m * 2 + 1) (by omega)).trans (segsC_last HMM.out y (Aq, nq, cq)); have gs5 := (row5.stored (m * 2 + 1) (.slice A5 n5 c5)).2; have hO6 := hO5.grown gs5 (by intro e; first | exact own_blk_ne row5 hO5 (by decide) e | exact own_blk_ne row5 hO5 (by decide) e.symm); have hN6 := hN5.grown gs5 (by intro e; first | exact own_blk_ne row5 hN5 (by decide) e | exact own_blk_ne row5 hN5 (by decide) e.symm); have hW6 := hW5.grown gs5 (by intro e; first | exact own_blk_ne row5 hW5 (by decide) e | exact own_blk_ne row5 hW5 (by decide) e.symm); have S5 := And.intro (hO5.cell 0) (hN5.cell 0); have S6 := And.intro (hO6.cell 0) (hN6.cell 0); have B6 := ((((Below.refl base w).drew.alloc hbase (.cells #[.int .u32 v] 33))).trans b5).setCell (p := ⟨g, m * 2 + 1, none⟩) hbg (.slice A5 n5 c5); have I6 := ((ItK.below ((Below.refl w.heap.size w).drew.alloc (Nat.le_refl _) (.cells #[.int .u32 v] 33))).trans (ItK.own ouqA.2.1 g5)).trans (ItK.own row5 gs5)
      refine hK.out _ _ ?_ (fun hHeld => ?_)
      · try dsimp only
        (first | exact S0 | exact S1 | exact S5 | exact S6)
      clear hK K
      refine wpAnyH_take (i := 11) (v := ?qa26v11) rfl (by kernel_rfl) (by kernel_rfl) (by kernel_rfl) (by intro _ _ _ h; exact h) (Or.inl ⟨by rfl, ?qa26hy11⟩) (by assumption) ?qa26rest11
      case qa26hy11 => (intro w hSw; (try dsimp only at hSw); go_simp; try with_reducible rfl)
      try simp only [Act.put, List.getElem_toArray, List.getElem_cons_succ, List.getElem_cons_zero, List.setIfInBounds_toArray, List.set_cons_zero, List.set_cons_succ]
      refine wpAnyH_take (i := 12) (v := ?qa26v12) rfl (by kernel_rfl) (by kernel_rfl) (by kernel_rfl) (by intro _ _ _ h; exact h) (Or.inl ⟨by rfl, ?qa26hy12⟩) (by assumption) ?qa26rest12
      case qa26hy12 => (intro w hSw; (try dsimp only at hSw); go_simp; try with_reducible rfl)
      try simp only [Act.put, List.getElem_toArray, List.getElem_cons_succ, List.getElem_cons_zero, List.setIfInBounds_toArray, List.set_cons_zero, List.set_cons_succ]
      refine wpAnyH_ready (rs := [13]) (by kernel_rfl) (by simp) ?_
      refine AllReadyH.cons rfl (fun K hK => ?_) AllReadyH.nil
      go_simp
      go_wp2_with (fail)
      refine hK.out _ _ ?_ (fun hHeld => ?_)
      · try dsimp only
        (first | exact S0 | exact S1 | exact S5 | exact S6)
      clear hK K
      refine wpAnyH_done (by kernel_rfl) ?_ _
      refine HKK.out _ _ ?_
      obtain ⟨w6, hw6⟩ : ∃ W, w5.setCell ⟨g, m * 2 + 1, none⟩ (.slice A5 n5 c5) = W := ⟨_, rfl⟩
      rw [hw6] at hO6 hN6 hW6 hop6 B6 I6
      rw [hw6]
      clear hw6 fn fo
      have n0 := hN6.cell 0
      have fn := hN6.frozen 0
      go_wp2_with fail
      have G2 := only_setCell (World.grownBy.refl w6 (some gn)) (p := ⟨gn, 0, none⟩) (.inl rfl) (.int .i64 0)
      have hN7 := hN6.set_ 0 (.int .i64 0)
      have hO7 := hO6.grown G2 (by intro e; injection e with e; first | exact hne1 e | exact hne1 e.symm)
      have hW7 := hW6.grown G2 (by intro e; injection e with e; first | exact hne2 e | exact hne2 e.symm)
      have hop7 := hop6.setAt hN6 (by decide) (by decide) G2
      have B7 := B6.setCell (p := ⟨gn, 0, none⟩) hbn (.int .i64 0)
      have I7 := I6.trans (ItK.set hN6 0 (.int .i64 0))
      simp only [List.setIfInBounds_toArray, List.set_cons_succ, List.set_cons_zero] at hN7
      go_returns
      exact ⟨rfl, ⟨some ⟨g, 0, none⟩, m + 1, c, _, hO7, hN7, hW7, hop7, HM.out _, hbo, hbw, hbn⟩, B7, I7⟩
    · go_simp
      go_wp2_with (fail)
      refine hK.out _ _ ?_ (fun hHeld => ?_)
      · try dsimp only
        (first | exact S0 | exact S1 | exact S5 | exact S6)
      clear hK K
      refine wpAnyH_ready (rs := [6]) (by kernel_rfl) (by simp) ?_
      refine AllReadyH.cons rfl (fun K hK => ?_) AllReadyH.nil
      go_simp
      go_wp2_with (fail)
      refine hK.out _ _ ?_ (fun hHeld => ?_)
      · try dsimp only
        (first | exact S0 | exact S1 | exact S5 | exact S6)
      clear hK K
      refine wpAnyH_ready (rs := [10]) (by kernel_rfl) (by simp) ?_
      refine AllReadyH.cons rfl (fun K hK => ?_) AllReadyH.nil
      refine step_appU rfl (.tmp 33) (.tmp 36) rfl base Aq nq cq y.2 (by rfl) ouqA (w.drew.heap.size + 1) (some ⟨w.drew.heap.size, 0, none⟩) 1 1 [v] (by rfl) nsA HLN.out hbA ?_; intro A5 n5 c5 w5 o5 b5 g5 hat5; have hO5 := hOA.grown g5 (by intro e; first | exact own_blk_ne ouqA.2.1 hOA (by decide) e | exact own_blk_ne ouqA.2.1 hOA (by decide) e.symm); have hN5 := hNA.grown g5 (by intro e; first | exact own_blk_ne ouqA.2.1 hNA (by decide) e | exact own_blk_ne ouqA.2.1 hNA (by decide) e.symm); have hW5 := hWA.grown g5 (by intro e; first | exact own_blk_ne ouqA.2.1 hWA (by decide) e | exact own_blk_ne ouqA.2.1 hWA (by decide) e.symm); have hop6 := hopA.grow (hm := HMM.out) o5 g5 hat5; have row5 : w5.ownsRow base 73 2 (.slice (some ⟨g, 0, none⟩) (m + 1) c) (m + 1) (segsC (L0 ++ [(y, (Aq, nq, cq))])) := own_own hopA.2.1 ouqA.2.1 (by decide) g5; have fz5 := row5.frozenAt (m * 2 + 1); have cc5 := (row5.cellAt (m * 2 + 1) (by omega)).trans (segsC_last HMM.out y (Aq, nq, cq)); have gs5 := (row5.stored (m * 2 + 1) (.slice A5 n5 c5)).2; have hO6 := hO5.grown gs5 (by intro e; first | exact own_blk_ne row5 hO5 (by decide) e | exact own_blk_ne row5 hO5 (by decide) e.symm); have hN6 := hN5.grown gs5 (by intro e; first | exact own_blk_ne row5 hN5 (by decide) e | exact own_blk_ne row5 hN5 (by decide) e.symm); have hW6 := hW5.grown gs5 (by intro e; first | exact own_blk_ne row5 hW5 (by decide) e | exact own_blk_ne row5 hW5 (by decide) e.symm); have S5 := And.intro (hO5.cell 0) (hN5.cell 0); have S6 := And.intro (hO6.cell 0) (hN6.cell 0); have B6 := ((((Below.refl base w).drew.alloc hbase (.cells #[.int .u32 v] 33))).trans b5).setCell (p := ⟨g, m * 2 + 1, none⟩) hbg (.slice A5 n5 c5); have I6 := ((ItK.below ((Below.refl w.heap.size w).drew.alloc (Nat.le_refl _) (.cells #[.int .u32 v] 33))).trans (ItK.own ouqA.2.1 g5)).trans (ItK.own row5 gs5)
      refine hK.out _ _ ?_ (fun hHeld => ?_)
      · try dsimp only
        (first | exact S0 | exact S1 | exact S5 | exact S6)
      clear hK K
      refine wpAnyH_take (i := 11) (v := ?qa29v11) rfl (by kernel_rfl) (by kernel_rfl) (by kernel_rfl) (by intro _ _ _ h; exact h) (Or.inl ⟨by rfl, ?qa29hy11⟩) (by assumption) ?qa29rest11
      case qa29hy11 => (intro w hSw; (try dsimp only at hSw); go_simp; try with_reducible rfl)
      try simp only [Act.put, List.getElem_toArray, List.getElem_cons_succ, List.getElem_cons_zero, List.setIfInBounds_toArray, List.set_cons_zero, List.set_cons_succ]
      refine wpAnyH_take (i := 12) (v := ?qa29v12) rfl (by kernel_rfl) (by kernel_rfl) (by kernel_rfl) (by intro _ _ _ h; exact h) (Or.inl ⟨by rfl, ?qa29hy12⟩) (by assumption) ?qa29rest12
      case qa29hy12 => (intro w hSw; (try dsimp only at hSw); go_simp; try with_reducible rfl)
      try simp only [Act.put, List.getElem_toArray, List.getElem_cons_succ, List.getElem_cons_zero, List.setIfInBounds_toArray, List.set_cons_zero, List.set_cons_succ]
      refine wpAnyH_ready (rs := [13]) (by kernel_rfl) (by simp) ?_
      refine AllReadyH.cons rfl (fun K hK => ?_) AllReadyH.nil
      go_simp
      go_wp2_with (fail)
      refine hK.out _ _ ?_ (fun hHeld => ?_)
      · try dsimp only
        (first | exact S0 | exact S1 | exact S5 | exact S6)
      clear hK K
      refine wpAnyH_done (by kernel_rfl) ?_ _
      refine HKK.out _ _ ?_
      obtain ⟨w6, hw6⟩ : ∃ W, w5.setCell ⟨g, m * 2 + 1, none⟩ (.slice A5 n5 c5) = W := ⟨_, rfl⟩
      rw [hw6] at hO6 hN6 hW6 hop6 B6 I6
      rw [hw6]
      clear hw6 fn fo
      have n0 := hN6.cell 0
      have fn := hN6.frozen 0
      go_wp2_with fail
      have G2 := only_setCell (World.grownBy.refl w6 (some gn)) (p := ⟨gn, 0, none⟩) (.inl rfl) (.int .i64 0)
      have hN7 := hN6.set_ 0 (.int .i64 0)
      have hO7 := hO6.grown G2 (by intro e; injection e with e; first | exact hne1 e | exact hne1 e.symm)
      have hW7 := hW6.grown G2 (by intro e; injection e with e; first | exact hne2 e | exact hne2 e.symm)
      have hop7 := hop6.setAt hN6 (by decide) (by decide) G2
      have B7 := B6.setCell (p := ⟨gn, 0, none⟩) hbn (.int .i64 0)
      have I7 := I6.trans (ItK.set hN6 0 (.int .i64 0))
      simp only [List.setIfInBounds_toArray, List.set_cons_succ, List.set_cons_zero] at hN7
      go_returns
      exact ⟨rfl, ⟨some ⟨g, 0, none⟩, m + 1, c, _, hO7, hN7, hW7, hop7, HM.out _, hbo, hbw, hbn⟩, B7, I7⟩
  · go_enter Tryd.func64, Tryd.ntmps64
    go_upto_region 2 with fail
    rename_i hk
    have HKK := Lib.hid hk
    clear hk t0 t2 c0 w0 o0 n0
    refine wp_region_held_drew (S := (fun w' => w'.cell? ⟨go, 0, none⟩ = some (.slice (some ⟨g, 0, none⟩) (m + 1) c) ∧ w'.cell? ⟨gn, 0, none⟩ = some (.int .i64 nn))) (by kernel_rfl) ?_ (fun hHeld => ?_)
    · (first | exact S0 | exact S1 | exact S5 | exact S6)
    refine wpAnyH_take (i := 0) (v := ?qb1v0) rfl (by kernel_rfl) (by kernel_rfl) (by kernel_rfl) (by intro _ _ _ h; exact h) (Or.inl ⟨by rfl, ?qb1hy0⟩) (by assumption) ?qb1rest0
    case qb1hy0 => (intro w hSw; (try dsimp only at hSw); go_simp; try with_reducible rfl)
    try simp only [Act.put, List.getElem_toArray, List.getElem_cons_succ, List.getElem_cons_zero, List.setIfInBounds_toArray, List.set_cons_zero, List.set_cons_succ]
    refine wpAnyH_take (i := 1) (v := ?qb1v1) rfl (by kernel_rfl) (by kernel_rfl) (by kernel_rfl) (by intro _ _ _ h; exact h) (Or.inl ⟨by rfl, ?qb1hy1⟩) (by assumption) ?qb1rest1
    case qb1hy1 => (intro w hSw; (try dsimp only at hSw); go_simp; try with_reducible rfl)
    try simp only [Act.put, List.getElem_toArray, List.getElem_cons_succ, List.getElem_cons_zero, List.setIfInBounds_toArray, List.set_cons_zero, List.set_cons_succ]
    refine wpAnyH_take (i := 2) (v := ?qb1v2) rfl (by kernel_rfl) (by kernel_rfl) (by kernel_rfl) (by intro _ _ _ h; exact h) (Or.inl ⟨by rfl, ?qb1hy2⟩) (by assumption) ?qb1rest2
    case qb1hy2 => (intro w hSw; (try dsimp only at hSw); go_simp; try with_reducible rfl)
    try simp only [Act.put, List.getElem_toArray, List.getElem_cons_succ, List.getElem_cons_zero, List.setIfInBounds_toArray, List.set_cons_zero, List.set_cons_succ]
    refine wpAnyH_take (i := 3) (v := ?qb1v3) rfl (by kernel_rfl) (by kernel_rfl) (by kernel_rfl) (by intro _ _ _ h; exact h) (Or.inl ⟨by rfl, ?qb1hy3⟩) (by assumption) ?qb1rest3
    case qb1hy3 => (intro w hSw; (try dsimp only at hSw); go_simp; try with_reducible rfl)
    try simp only [Act.put, List.getElem_toArray, List.getElem_cons_succ, List.getElem_cons_zero, List.setIfInBounds_toArray, List.set_cons_zero, List.set_cons_succ]
    refine wpAnyH_take (i := 4) (v := ?qb1v4) rfl (by kernel_rfl) (by kernel_rfl) (by kernel_rfl) (by intro _ _ _ h; exact h) (Or.inl ⟨by rfl, ?qb1hy4⟩) (by assumption) ?qb1rest4
    case qb1hy4 => (intro w hSw; (try dsimp only at hSw); go_simp; try with_reducible rfl)
    try simp only [Act.put, List.getElem_toArray, List.getElem_cons_succ, List.getElem_cons_zero, List.setIfInBounds_toArray, List.set_cons_zero, List.set_cons_succ]
    refine wpAnyH_take (i := 5) (v := ?qb1v5) rfl (by kernel_rfl) (by kernel_rfl) (by kernel_rfl) (by intro _ _ _ h; exact h) (Or.inl ⟨by rfl, ?qb1hy5⟩) (by assumption) ?qb1rest5
    case qb1hy5 => (intro w hSw; (try dsimp only at hSw); go_simp; try with_reducible rfl)
    try simp only [Act.put, List.getElem_toArray, List.getElem_cons_succ, List.getElem_cons_zero, List.setIfInBounds_toArray, List.set_cons_zero, List.set_cons_succ]
    refine wpAnyH_take (i := 7) (v := ?qb1v7) rfl (by kernel_rfl) (by kernel_rfl) (by kernel_rfl) (by intro _ _ _ h; exact h) (Or.inl ⟨by rfl, ?qb1hy7⟩) (by assumption) ?qb1rest7
    case qb1hy7 => (intro w hSw; (try dsimp only at hSw); go_simp; try with_reducible rfl)
    try simp only [Act.put, List.getElem_toArray, List.getElem_cons_succ, List.getElem_cons_zero, List.setIfInBounds_toArray, List.set_cons_zero, List.set_cons_succ]
    refine wpAnyH_take (i := 8) (v := ?qb1v8) rfl (by kernel_rfl) (by kernel_rfl) (by kernel_rfl) (by intro _ _ _ h; exact h) (Or.inl ⟨by rfl, ?qb1hy8⟩) (by assumption) ?qb1rest8
    case qb1hy8 => (intro w hSw; (try dsimp only at hSw); go_simp; try with_reducible rfl)
    try simp only [Act.put, List.getElem_toArray, List.getElem_cons_succ, List.getElem_cons_zero, List.setIfInBounds_toArray, List.set_cons_zero, List.set_cons_succ]
    refine wpAnyH_ready (rs := [6, 9]) (by kernel_rfl) (by simp) ?_
    refine AllReadyH.cons rfl (fun K hK => ?_) (AllReadyH.cons rfl (fun K hK => ?_) AllReadyH.nil)
    · go_simp
      go_wp2_with (fail)
      refine hK.out _ _ ?_ (fun hHeld => ?_)
      · try dsimp only
        (first | exact S0 | exact S1 | exact S5 | exact S6)
      clear hK K
      refine wpAnyH_ready (rs := [9]) (by kernel_rfl) (by simp) ?_
      refine AllReadyH.cons rfl (fun K hK => ?_) AllReadyH.nil
      go_simp
      go_wp2_with (fail)
      refine hK.out _ _ ?_ (fun hHeld => ?_)
      · try dsimp only
        (first | exact S0 | exact S1 | exact S5 | exact S6)
      clear hK K
      refine wpAnyH_ready (rs := [10]) (by kernel_rfl) (by simp) ?_
      refine AllReadyH.cons rfl (fun K hK => ?_) AllReadyH.nil
      refine step_appU rfl (.tmp 33) (.tmp 36) rfl base Aq nq cq y.2 (by rfl) ouqA (w.drew.heap.size + 1) (some ⟨w.drew.heap.size, 0, none⟩) 1 1 [v] (by rfl) nsA HLN.out hbA ?_; intro A5 n5 c5 w5 o5 b5 g5 hat5; have hO5 := hOA.grown g5 (by intro e; first | exact own_blk_ne ouqA.2.1 hOA (by decide) e | exact own_blk_ne ouqA.2.1 hOA (by decide) e.symm); have hN5 := hNA.grown g5 (by intro e; first | exact own_blk_ne ouqA.2.1 hNA (by decide) e | exact own_blk_ne ouqA.2.1 hNA (by decide) e.symm); have hW5 := hWA.grown g5 (by intro e; first | exact own_blk_ne ouqA.2.1 hWA (by decide) e | exact own_blk_ne ouqA.2.1 hWA (by decide) e.symm); have hop6 := hopA.grow (hm := HMM.out) o5 g5 hat5; have row5 : w5.ownsRow base 73 2 (.slice (some ⟨g, 0, none⟩) (m + 1) c) (m + 1) (segsC (L0 ++ [(y, (Aq, nq, cq))])) := own_own hopA.2.1 ouqA.2.1 (by decide) g5; have fz5 := row5.frozenAt (m * 2 + 1); have cc5 := (row5.cellAt (m * 2 + 1) (by omega)).trans (segsC_last HMM.out y (Aq, nq, cq)); have gs5 := (row5.stored (m * 2 + 1) (.slice A5 n5 c5)).2; have hO6 := hO5.grown gs5 (by intro e; first | exact own_blk_ne row5 hO5 (by decide) e | exact own_blk_ne row5 hO5 (by decide) e.symm); have hN6 := hN5.grown gs5 (by intro e; first | exact own_blk_ne row5 hN5 (by decide) e | exact own_blk_ne row5 hN5 (by decide) e.symm); have hW6 := hW5.grown gs5 (by intro e; first | exact own_blk_ne row5 hW5 (by decide) e | exact own_blk_ne row5 hW5 (by decide) e.symm); have S5 := And.intro (hO5.cell 0) (hN5.cell 0); have S6 := And.intro (hO6.cell 0) (hN6.cell 0); have B6 := ((((Below.refl base w).drew.alloc hbase (.cells #[.int .u32 v] 33))).trans b5).setCell (p := ⟨g, m * 2 + 1, none⟩) hbg (.slice A5 n5 c5); have I6 := ((ItK.below ((Below.refl w.heap.size w).drew.alloc (Nat.le_refl _) (.cells #[.int .u32 v] 33))).trans (ItK.own ouqA.2.1 g5)).trans (ItK.own row5 gs5)
      refine hK.out _ _ ?_ (fun hHeld => ?_)
      · try dsimp only
        (first | exact S0 | exact S1 | exact S5 | exact S6)
      clear hK K
      refine wpAnyH_take (i := 11) (v := ?qb26v11) rfl (by kernel_rfl) (by kernel_rfl) (by kernel_rfl) (by intro _ _ _ h; exact h) (Or.inl ⟨by rfl, ?qb26hy11⟩) (by assumption) ?qb26rest11
      case qb26hy11 => (intro w hSw; (try dsimp only at hSw); go_simp; try with_reducible rfl)
      try simp only [Act.put, List.getElem_toArray, List.getElem_cons_succ, List.getElem_cons_zero, List.setIfInBounds_toArray, List.set_cons_zero, List.set_cons_succ]
      refine wpAnyH_take (i := 12) (v := ?qb26v12) rfl (by kernel_rfl) (by kernel_rfl) (by kernel_rfl) (by intro _ _ _ h; exact h) (Or.inl ⟨by rfl, ?qb26hy12⟩) (by assumption) ?qb26rest12
      case qb26hy12 => (intro w hSw; (try dsimp only at hSw); go_simp; try with_reducible rfl)
      try simp only [Act.put, List.getElem_toArray, List.getElem_cons_succ, List.getElem_cons_zero, List.setIfInBounds_toArray, List.set_cons_zero, List.set_cons_succ]
      refine wpAnyH_ready (rs := [13]) (by kernel_rfl) (by simp) ?_
      refine AllReadyH.cons rfl (fun K hK => ?_) AllReadyH.nil
      go_simp
      go_wp2_with (fail)
      refine hK.out _ _ ?_ (fun hHeld => ?_)
      · try dsimp only
        (first | exact S0 | exact S1 | exact S5 | exact S6)
      clear hK K
      refine wpAnyH_done (by kernel_rfl) ?_ _
      refine HKK.out _ _ ?_
      obtain ⟨w6, hw6⟩ : ∃ W, w5.setCell ⟨g, m * 2 + 1, none⟩ (.slice A5 n5 c5) = W := ⟨_, rfl⟩
      rw [hw6] at hO6 hN6 hW6 hop6 B6 I6
      rw [hw6]
      clear hw6 fn fo
      have n0 := hN6.cell 0
      have fn := hN6.frozen 0
      go_wp2_with fail
      have G2 := only_setCell (World.grownBy.refl w6 (some gn)) (p := ⟨gn, 0, none⟩) (.inl rfl) (.int .i64 0)
      have hN7 := hN6.set_ 0 (.int .i64 0)
      have hO7 := hO6.grown G2 (by intro e; injection e with e; first | exact hne1 e | exact hne1 e.symm)
      have hW7 := hW6.grown G2 (by intro e; injection e with e; first | exact hne2 e | exact hne2 e.symm)
      have hop7 := hop6.setAt hN6 (by decide) (by decide) G2
      have B7 := B6.setCell (p := ⟨gn, 0, none⟩) hbn (.int .i64 0)
      have I7 := I6.trans (ItK.set hN6 0 (.int .i64 0))
      simp only [List.setIfInBounds_toArray, List.set_cons_succ, List.set_cons_zero] at hN7
      go_returns
      exact ⟨rfl, ⟨some ⟨g, 0, none⟩, m + 1, c, _, hO7, hN7, hW7, hop7, HM.out _, hbo, hbw, hbn⟩, B7, I7⟩
    · go_simp
      go_wp2_with (fail)
      refine hK.out _ _ ?_ (fun hHeld => ?_)
      · try dsimp only
        (first | exact S0 | exact S1 | exact S5 | exact S6)
      clear hK K
      refine wpAnyH_ready (rs := [6]) (by kernel_rfl) (by simp) ?_
      refine AllReadyH.cons rfl (fun K hK => ?_) AllReadyH.nil
      go_simp
      go_wp2_with (fail)
      refine hK.out _ _ ?_ (fun hHeld => ?_)
      · try dsimp only
        (first | exact S0 | exact S1 | exact S5 | exact S6)
      clear hK K
      refine wpAnyH_ready (rs := [10]) (by kernel_rfl) (by simp) ?_
      refine AllReadyH.cons rfl (fun K hK => ?_) AllReadyH.nil
      refine step_appU rfl (.tmp 33) (.tmp 36) rfl base Aq nq cq y.2 (by rfl) ouqA (w.drew.heap.size + 1) (some ⟨w.drew.heap.size, 0, none⟩) 1 1 [v] (by rfl) nsA HLN.out hbA ?_; intro A5 n5 c5 w5 o5 b5 g5 hat5; have hO5 := hOA.grown g5 (by intro e; first | exact own_blk_ne ouqA.2.1 hOA (by decide) e | exact own_blk_ne ouqA.2.1 hOA (by decide) e.symm); have hN5 := hNA.grown g5 (by intro e; first | exact own_blk_ne ouqA.2.1 hNA (by decide) e | exact own_blk_ne ouqA.2.1 hNA (by decide) e.symm); have hW5 := hWA.grown g5 (by intro e; first | exact own_blk_ne ouqA.2.1 hWA (by decide) e | exact own_blk_ne ouqA.2.1 hWA (by decide) e.symm); have hop6 := hopA.grow (hm := HMM.out) o5 g5 hat5; have row5 : w5.ownsRow base 73 2 (.slice (some ⟨g, 0, none⟩) (m + 1) c) (m + 1) (segsC (L0 ++ [(y, (Aq, nq, cq))])) := own_own hopA.2.1 ouqA.2.1 (by decide) g5; have fz5 := row5.frozenAt (m * 2 + 1); have cc5 := (row5.cellAt (m * 2 + 1) (by omega)).trans (segsC_last HMM.out y (Aq, nq, cq)); have gs5 := (row5.stored (m * 2 + 1) (.slice A5 n5 c5)).2; have hO6 := hO5.grown gs5 (by intro e; first | exact own_blk_ne row5 hO5 (by decide) e | exact own_blk_ne row5 hO5 (by decide) e.symm); have hN6 := hN5.grown gs5 (by intro e; first | exact own_blk_ne row5 hN5 (by decide) e | exact own_blk_ne row5 hN5 (by decide) e.symm); have hW6 := hW5.grown gs5 (by intro e; first | exact own_blk_ne row5 hW5 (by decide) e | exact own_blk_ne row5 hW5 (by decide) e.symm); have S5 := And.intro (hO5.cell 0) (hN5.cell 0); have S6 := And.intro (hO6.cell 0) (hN6.cell 0); have B6 := ((((Below.refl base w).drew.alloc hbase (.cells #[.int .u32 v] 33))).trans b5).setCell (p := ⟨g, m * 2 + 1, none⟩) hbg (.slice A5 n5 c5); have I6 := ((ItK.below ((Below.refl w.heap.size w).drew.alloc (Nat.le_refl _) (.cells #[.int .u32 v] 33))).trans (ItK.own ouqA.2.1 g5)).trans (ItK.own row5 gs5)
      refine hK.out _ _ ?_ (fun hHeld => ?_)
      · try dsimp only
        (first | exact S0 | exact S1 | exact S5 | exact S6)
      clear hK K
      refine wpAnyH_take (i := 11) (v := ?qb29v11) rfl (by kernel_rfl) (by kernel_rfl) (by kernel_rfl) (by intro _ _ _ h; exact h) (Or.inl ⟨by rfl, ?qb29hy11⟩) (by assumption) ?qb29rest11
      case qb29hy11 => (intro w hSw; (try dsimp only at hSw); go_simp; try with_reducible rfl)
      try simp only [Act.put, List.getElem_toArray, List.getElem_cons_succ, List.getElem_cons_zero, List.setIfInBounds_toArray, List.set_cons_zero, List.set_cons_succ]
      refine wpAnyH_take (i := 12) (v := ?qb29v12) rfl (by kernel_rfl) (by kernel_rfl) (by kernel_rfl) (by intro _ _ _ h; exact h) (Or.inl ⟨by rfl, ?qb29hy12⟩) (by assumption) ?qb29rest12
      case qb29hy12 => (intro w hSw; (try dsimp only at hSw); go_simp; try with_reducible rfl)
      try simp only [Act.put, List.getElem_toArray, List.getElem_cons_succ, List.getElem_cons_zero, List.setIfInBounds_toArray, List.set_cons_zero, List.set_cons_succ]
      refine wpAnyH_ready (rs := [13]) (by kernel_rfl) (by simp) ?_
      refine AllReadyH.cons rfl (fun K hK => ?_) AllReadyH.nil
      go_simp
      go_wp2_with (fail)
      refine hK.out _ _ ?_ (fun hHeld => ?_)
      · try dsimp only
        (first | exact S0 | exact S1 | exact S5 | exact S6)
      clear hK K
      refine wpAnyH_done (by kernel_rfl) ?_ _
      refine HKK.out _ _ ?_
      obtain ⟨w6, hw6⟩ : ∃ W, w5.setCell ⟨g, m * 2 + 1, none⟩ (.slice A5 n5 c5) = W := ⟨_, rfl⟩
      rw [hw6] at hO6 hN6 hW6 hop6 B6 I6
      rw [hw6]
      clear hw6 fn fo
      have n0 := hN6.cell 0
      have fn := hN6.frozen 0
      go_wp2_with fail
      have G2 := only_setCell (World.grownBy.refl w6 (some gn)) (p := ⟨gn, 0, none⟩) (.inl rfl) (.int .i64 0)
      have hN7 := hN6.set_ 0 (.int .i64 0)
      have hO7 := hO6.grown G2 (by intro e; injection e with e; first | exact hne1 e | exact hne1 e.symm)
      have hW7 := hW6.grown G2 (by intro e; injection e with e; first | exact hne2 e | exact hne2 e.symm)
      have hop7 := hop6.setAt hN6 (by decide) (by decide) G2
      have B7 := B6.setCell (p := ⟨gn, 0, none⟩) hbn (.int .i64 0)
      have I7 := I6.trans (ItK.set hN6 0 (.int .i64 0))
      simp only [List.setIfInBounds_toArray, List.set_cons_succ, List.set_cons_zero] at hN7
      go_returns
      exact ⟨rfl, ⟨some ⟨g, 0, none⟩, m + 1, c, _, hO7, hN7, hW7, hop7, HM.out _, hbo, hbw, hbn⟩, B7, I7⟩

end Go.Proofs.YtlpkngjeihoknaaDoor
