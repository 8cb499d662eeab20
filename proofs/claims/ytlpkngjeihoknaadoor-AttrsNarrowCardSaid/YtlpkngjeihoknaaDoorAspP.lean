/- Walks of layer 3 (paths): the beginning of one. No conditions but sizes. -/
import Derived.Test.YtlpkngjeihoknaaDoorProg
import Derived.WalkKit
import Derived.WalkSpells
import Derived.WalkLawsBesides
import Derived.Outline
import Derived.Deep.QuietTactic
import Derived.BigQuiet
import Derived.Handy
import Derived.Lib.Hide
import Derived.Deep.DeepCutAuto
import Derived.Deep.CutBlock
import Derived.Test.YtlpkngjeihoknaaDoorAspO
namespace Go.Proofs.YtlpkngjeihoknaaDoor
open Go.RowKit
set_option linter.unusedSimpArgs false
set_option linter.unusedVariables false
/-- The beginning of a path that counts so long. -/
def headA : List Seg → Nat → List Seg
  | [], _ => []
  | x :: l, n => if n = 0 then [] else if x.1 = 1 then x :: headA l (n - 1) else (x.1, x.2.take n) :: headA l (n - min n x.2.length)
theorem headA_zero (l : List Seg) : headA l 0 = [] := by cases l <;> rfl
/-- A part of which the beginning is taken. -/
def Cut (z y : Seg × Hd) : Prop := z.2.1 = y.2.1 ∧ z.2.2.2 = y.2.2.2 ∧ z.2.2.1 ≤ y.2.2.1 ∧ (0 < z.2.2.1 ∨ z.2.2.1 = y.2.2.1) ∧ z.1.2 = y.1.2.take z.2.2.1
theorem OU.cut {w : World} {base n c m : Nat} {A : Option Addr} {l : List Int} (h : OU w base A n c l) (hm : m ≤ n) (h0 : 0 < m ∨ m = n) : OU w base A m c (l.take m) := by
  rcases h0 with h0 | rfl
  · refine ⟨by rw [List.length_take]; have := h.1; omega, ⟨?_, ?_⟩, fun x hx => h.2.2 x (List.mem_of_mem_take hx)⟩
    · rw [un_length, List.length_take]; have := h.1; omega
    · rcases h.2.1.2 with ⟨_, h2⟩ | ⟨g, cap, cur, hv, hb, hh, h1, h2, h3, h4⟩
      · omega
      · injection hv with e1 e2 e3
        subst e1 e3
        refine .inr ⟨g, _, cur, rfl, hb, hh, by omega, h2, h3, ?_⟩
        have e : un (l.take m) = (un l).take m := by unfold un; rw [List.map_take]
        rw [e, ← h4, List.take_take, Nat.mul_one, Nat.mul_one, Nat.min_eq_left hm]
  · rw [List.take_of_length_le (by rw [h.1]; exact Nat.le_refl _)]
    exact h
theorem Cut.ou {w : World} {base : Nat} {z y : Seg × Hd} (h : Cut z y) (ho : OU w base y.2.1 y.2.2.1 y.2.2.2 y.1.2) : OU w base z.2.1 z.2.2.1 z.2.2.2 z.1.2 := by
  obtain ⟨h1, h2, h3, h4, h5⟩ := h
  rw [h1, h2, h5]
  exact ho.cut h3 h4
theorem Cut.blk {z y : Seg × Hd} (h : Cut z y) : z.2.v.ownBlock = y.2.v.ownBlock := by
  obtain ⟨⟨k, zs⟩, ⟨A, n, c⟩⟩ := z
  obtain ⟨⟨k', zs'⟩, ⟨A', n', c'⟩⟩ := y
  obtain ⟨h1, _⟩ := h
  simp only at h1
  subst h1
  unfold Hd.v
  cases A <;> rfl
theorem Cut.refl (y : Seg × Hd) (h : y.2.2.1 = y.1.2.length) : Cut y y := ⟨rfl, rfl, Nat.le_refl _, .inr rfl, by rw [h, List.take_length]⟩
/-- What the beginning's parts are. -/
def Parts (LL M : List (Seg × Hd)) (j : Nat) : Prop := (∀ z ∈ M, ∃ i y, i < j ∧ LL[i]? = some y ∧ Cut z y) ∧ M.Pairwise Apt
theorem Parts.nil_ (LL : List (Seg × Hd)) (j : Nat) : Parts LL [] j := ⟨fun z hz => (by cases hz), List.Pairwise.nil⟩
theorem Parts.more {LL M : List (Seg × Hd)} {j : Nat} {z y : Seg × Hd} (h : Parts LL M j) (hp : LL.Pairwise Apt) (hy : LL[j]? = some y) (hc : Cut z y) : Parts LL (M ++ [z]) (j + 1) := by
  refine ⟨fun u hu => ?_, List.pairwise_append.2 ⟨h.2, List.pairwise_singleton _ _, fun u hu v hv => ?_⟩⟩
  · rcases List.mem_append.1 hu with hu | hu
    · obtain ⟨i, y', h1, h2, h3⟩ := h.1 u hu
      exact ⟨i, y', by omega, h2, h3⟩
    · simp at hu; subst hu
      exact ⟨j, y, by omega, hy, hc⟩
  · simp at hv
    subst hv
    obtain ⟨i, y', h1, h2, h3⟩ := h.1 u hu
    obtain ⟨g1, e1⟩ := List.getElem?_eq_some_iff.1 h2
    obtain ⟨g2, e2⟩ := List.getElem?_eq_some_iff.1 hy
    have := List.pairwise_iff_getElem.1 hp i j g1 g2 h1
    rw [e1, e2] at this
    intro b hb
    rw [hc.blk]
    rw [h3.blk] at hb
    exact this b hb
theorem Parts.op {w : World} {base base2 n c n2 c2 j : Nat} {A A2 : Option Addr} {LL M : List (Seg × Hd)} (h : Parts LL M j) (ho : OP w base A n c LL) (hr : w.ownsRow base2 73 2 (.slice A2 n2 c2) n2 (segsC M)) (hb : base ≤ base2) : OP w base A2 n2 c2 M := by
  refine ⟨?_, own_low hr hb, fun z hz => ?_, h.2⟩
  · have := hr.1; rw [segsC_len] at this; omega
  · obtain ⟨i, y, _, hy, hc⟩ := h.1 z hz
    exact hc.ou (ho.2.2.1 y (List.mem_of_getElem? hy))
theorem drop_cons {α : Type} {l : List α} {j : Nat} {x : α} (h : l[j]? = some x) : l.drop j = x :: l.drop (j + 1) := by
  obtain ⟨g1, g2⟩ := List.getElem?_eq_some_iff.1 h
  rw [List.drop_eq_getElem_cons g1, g2]
theorem right_at {l : List Seg} (h : rightA l = true) {x : Seg} (hx : x ∈ l) : (x.1 = 1 ∨ x.1 = 2) ∧ x.2.length ≠ 0 ∧ x.2.length ≤ 64 := by
  have h1 := List.all_eq_true.1 (rightA_of h).1 x hx
  exact of_decide_eq_true h1
set_option maxHeartbeats 8000000 in
set_option maxRecDepth 100000 in
theorem aspHead (A : Option Addr) (n c : Nat) (l : List Seg) (N : Nat) (w : World) (hd : DL rSeg 2 w (Lo w) A n l) (hn : n ≤ 100000) (hr : Hid (rightA l = true)) (hN : N ≤ 1000) :
    Calls Tryd.prog 70 #[.slice A n c, .int .i64 (N : Int)] w (RetP w (headA l N)) := by
  have HS := Lib.hid (show sumN l ≤ big32 by have := (rightA_of hr.out).2.1; unfold big32; omega)
  go_enter Tryd.func70, Tryd.ntmps70
  go_wp2_with fail
  refine (aspCopied A n c l _ hd hn HS).mono ?_
  rintro _ w2 ⟨A2, n2, c2, LL, rfl, hop, hLL, b2⟩
  have HLL := Lib.hid hLL
  have HN := Lib.hid (show n2 = l.length by rw [← HLL.out, List.length_map]; exact hop.1)
  have hn2 : n2 ≤ 8 := by have := (rightA_of hr.out).2.2; have := HN.out; omega
  clear hLL
  go_wp2_with fail
  go_loopw [1, 5, 11] (fun v1 s i wr => ∃ (j m : Nat) (A1 : Option Addr) (n1 c1 : Nat) (M : List (Seg × Hd)), j ≤ n2 ∧ i = .int .i64 j ∧ v1 = .int .i64 (m : Int) ∧ m ≤ 1000 ∧ s = .slice A1 n1 c1 ∧ n1 ≤ j ∧ wr.ownsRow w2.heap.size 73 2 (.slice A1 n1 c1) n1 (segsC M) ∧ Hid (Parts LL M j) ∧ Hid (headA l N = M.map (·.1) ++ headA (l.drop j) m) ∧ Below w2.heap.size w2 wr) (fun _ _ i _ => n2 - (intOf i).toNat)
  case atStart => exact ⟨0, N, none, 0, 0, [], by omega, rfl, rfl, hN, rfl, by omega, World.ownsRow_nil _ _ _ _, Lib.hid (Parts.nil_ _ _), Lib.hid rfl, Below.refl _ _⟩
  case round =>
    obtain ⟨j, m, A1, n1, c1, M, hj, rfl, rfl, hm, rfl, hn1, hrow, HP, HH, hb⟩ := hrel
    by_cases hlt : j < n2
    case neg =>
      have e2 : decide ((j : Int) < n2) = false := decide_eq_false (by omega)
      have HF := Lib.hid (show M.map (·.1) = headA l N by rw [HH.out, List.drop_eq_nil_of_le (by have := HN.out; omega)]; simp [headA])
      have hopr := (hop.call hb)
      go_wp2_with fail
      go_ret
      exact ⟨A1, n1, c1, M, rfl, HP.out.op hopr hrow b2.size, HF.out, btr b2 hb b2.size⟩
    have e2 : decide ((j : Int) < n2) = true := decide_eq_true (by omega)
    have hlti : (j : Int) < n2 := by omega
    obtain ⟨y, hy⟩ : ∃ y, LL[j]? = some y := ⟨_, List.getElem?_eq_getElem (by have := hop.1; omega)⟩
    have HY := Lib.hid hy
    have hlx : l[j]? = some y.1 := by rw [← HLL.out, List.getElem?_map, hy]; rfl
    have HDR := Lib.hid (drop_cons hlx)
    have HRA := Lib.hid (right_at hr.out (List.mem_of_getElem? hlx))
    have hou2 : OU w2 w.heap.size y.2.1 y.2.2.1 y.2.2.2 y.1.2 := hop.2.2.1 y (List.mem_of_getElem? hy)
    obtain ⟨g, rfl, hbg, hgl, k0w, k1w, _⟩ := hop.at_ hy
    obtain ⟨⟨k, zs⟩, ⟨A', n', c'⟩⟩ := y
    simp only at hou2 k0w
    have k1w : w2.cell? ⟨g, j * 2 + 1, none⟩ = some (.slice A' n' c') := k1w
    have hnz : n' = zs.length := hou2.1
    have hn64 : n' ≤ 64 := by have := HRA.out.2.2; simp only at this; omega
    have hn0 : n' ≠ 0 := by have := HRA.out.2.1; simp only at this; omega
    have hcap := hou2.cap
    have HNZ := Lib.hid hnz
    have k0 := (hb.cell (p := ⟨g, j * 2, none⟩) hgl).trans k0w
    have k1 := (hb.cell (p := ⟨g, j * 2 + 1, none⟩) hgl).trans k1w
    have wj : IntKind.i64.wrap ((j : Int) + 1) = (j : Int) + 1 := IntWalk.i64_in _ ⟨by omega, by omega⟩
    have ou1 := hou2.call hb
    have hzb := hb.size
    clear hy hlx hnz k0w k1w hou2
    by_cases h0 : m = 0
    · have t0 : decide (m = 0) = true := decide_eq_true h0
      have HF := Lib.hid (show M.map (·.1) = headA l N by rw [HH.out, h0, headA_zero, List.append_nil])
      have bX := hb.alloc hb.size (.cells #[.int .i64 k, .slice A' n' c'] 73)
      have hopr := hop.call bX
      have hrow2 := own_alloc2 hrow (.cells #[.int .i64 k, .slice A' n' c'] 73)
      clear h0
      go_wp2_with fail
      go_ret
      exact ⟨A1, n1, c1, M, rfl, HP.out.op hopr hrow2 b2.size, HF.out, btr b2 bX b2.size⟩
    have t0 : decide (m = 0) = false := decide_eq_false h0
    have hX := Blk.new wr 73 #[.int .i64 k, .slice A' n' c']
    have bX := hb.alloc hb.size (.cells #[.int .i64 k, .slice A' n' c'] 73)
    have ouX := ou1.alloc (.cells #[.int .i64 k, .slice A' n' c'] 73)
    have hrowX := own_alloc2 hrow (.cells #[.int .i64 k, .slice A' n' c'] 73)
    obtain ⟨w3, hw3⟩ : ∃ W, wr.alloc (.cells #[.int .i64 k, .slice A' n' c'] 73) = W := ⟨_, rfl⟩
    have HW3 := Lib.hid hw3
    rw [hw3] at hX bX ouX hrowX
    clear hw3
    obtain ⟨gx, hgx⟩ : ∃ gx, wr.heap.size = gx := ⟨_, rfl⟩
    have HGX := Lib.hid hgx
    have hgx2 : w2.heap.size ≤ gx := by rw [← hgx]; exact hb.size
    rw [hgx] at hX
    clear hgx
    have x0 := hX.cell 0
    have x1 := hX.cell 1
    have f1 := hX.frozen 1
    by_cases hk1 : k = 1
    · have t1 : (k == 2) = false := by rw [hk1]; rfl
      have HC := Lib.hid (show (countA [(k, zs)] : Int) = 1 by simp [countA, hk1])
      have HM2 := Lib.hid (show headA l N = (M ++ [((k, zs), ((A', n', c') : Hd))]).map (·.1) ++ headA (l.drop (j + 1)) (m - 1) by
        rw [HH.out, HDR.out, headA, if_neg h0, if_pos hk1, List.map_append]; simp)
      have HP2 := Lib.hid (HP.out.more hop.2.2.2 HY.out (z := ((k, zs), ((A', n', c') : Hd))) (Cut.refl _ (by simp only; exact HNZ.out)))
      have wd : IntKind.i64.wrap ((m : Int) - 1) = ((m - 1 : Nat) : Int) := by rw [IntWalk.i64_in _ ⟨by omega, by omega⟩]; omega
      clear hk1 h0
      go_upto_region 5 with fail
      try rw [HW3.out, HGX.out]
      try rw [HGX.out]
      have bN := (Below.refl w3.heap.size w3).alloc (Nat.le_refl _) (.cells #[.int .i64 k, .slice A' n' c'] 73)
      have hNw := Blk.new w3 73 #[.int .i64 k, .slice A' n' c']
      have ouN := ouX.alloc (.cells #[.int .i64 k, .slice A' n' c'] 73)
      have DN : DL rSeg 2 (w3.alloc (.cells #[.int .i64 k, .slice A' n' c'] 73)) (Lo _) (some ⟨w3.heap.size, 0, none⟩) 1 [(k, zs)] := DL.one rSeg_ok (cs := [.int .i64 k, .slice A' n' c']) hNw hNw.lt ⟨A', n', c', rfl, NF.of ouN.ns (fun b hb => hb), ouN.cap⟩
      have HCC := Lib.hid (show Calls Tryd.prog 28 #[.slice (some ⟨w3.heap.size, 0, none⟩) 1 1] (w3.alloc (.cells #[.int .i64 k, .slice A' n' c'] 73)) fun e w' => e = .returned (.int .i64 (1 : Int)) ∧ Below (w3.alloc (.cells #[.int .i64 k, .slice A' n' c'] 73)).heap.size (w3.alloc (.cells #[.int .i64 k, .slice A' n' c'] 73)) w' from by
        have := aspCount (some ⟨w3.heap.size, 0, none⟩) 1 1 [(k, zs)] _ DN (by omega) (Lib.hid (by simp only [sumN]; have h1 := ouX.1; have h2 := hn64; unfold big32; omega))
        rw [← HC.out]
        exact this)
      go_wp2_with fail
      refine HCC.out.mono ?_
      rintro _ w5 ⟨rfl, b5⟩
      have b45 := btr bN b5 bN.size
      have hX5 := hX.below b45 hX.lt
      clear x0 x1
      have x0 := hX5.cell 0
      have x1 := hX5.cell 1
      have row5 := own_below hrowX b45
      have b05 := btr bX b45 bX.size
      have row6 := own_alloc2 row5 (.cells #[.int .i64 k, .slice A' n' c'] 73)
      have b06 := b05.alloc b05.size (.cells #[.int .i64 k, .slice A' n' c'] 73)
      have hz5 := b06.size
      go_wp2_with (at_builtin; refine wpl_appR rfl (.tmp 37) (.tmp 39) 22 rfl 73 _ 2 32 Tryd.underlying22 seg_info rfl (by omega) w2.heap.size A1 n1 c1 _ (by rfl) row6 (w5.heap.size + 1) (some ⟨w5.heap.size, 0, none⟩) 1 1 [.int .i64 k, .slice A' n' c'] (by rfl) (Reads.two w5 73 (.int .i64 k) (.slice A' n' c') rfl) (by intro u hu; simp at hu; rcases hu with rfl | rfl <;> rfl) (by unfold maxLen; omega) (by omega) hz5 ?_; intro A6 c6 w6 o6 b6 g6 _)
      go_roundw
      case rel => exact ⟨j + 1, (m - 1), A6, n1 + 1, c6, _, by omega, by go_num, rfl, by omega, rfl, by omega, by rw [segsC_app, segsC_one]; exact o6, HP2, HM2, b06.trans b6⟩
      case measure => simp [intOf]; omega
    have hk2 : k = 2 := by have := HRA.out.1; simp only at this; omega
    have t1 : (k == 2) = true := by rw [hk2]; rfl
    have hk1' : k ≠ 1 := hk1
    by_cases hml : m < n'
    · have t2 : decide ((m : Int) < (n' : Int)) = true := decide_eq_true (by omega)
      have hmc : (m : Int) ≤ (c' : Int) := by omega
      have hm00 : (0 : Int) ≤ (m : Int) := by omega
      have HC := Lib.hid (show (countA [(k, zs.take m)] : Int) = (m : Int) by simp [countA, hk1']; have := HNZ.out; omega)
      have HM2 := Lib.hid (show headA l N = (M ++ [((k, zs.take m), ((A', m, c') : Hd))]).map (·.1) ++ headA (l.drop (j + 1)) 0 by
        have hz := HNZ.out
        rw [HH.out, HDR.out, headA, if_neg h0, if_neg hk1', List.map_append]; simp only; rw [show m - min m zs.length = 0 by omega]; simp)
      have HP2 := Lib.hid (HP.out.more hop.2.2.2 HY.out (z := ((k, zs.take m), ((A', m, c') : Hd))) ⟨rfl, rfl, by simp only; omega, .inl (by simp only; omega), rfl⟩)
      have wd : IntKind.i64.wrap ((m : Int) - (m : Int)) = ((0 : Nat) : Int) := by rw [IntWalk.i64_in _ ⟨by omega, by omega⟩]; omega
      have hmpos : 0 < m := by omega
      clear hk1' hk1 hk2 h0
      go_upto_region 5 with fail
      try rw [HW3.out, HGX.out]
      try rw [HGX.out]
      go_upto_region 8 with fail
      have hX4 := hX.set_ 1 (.slice A' m c')
      simp only [List.setIfInBounds_toArray, List.set_cons_succ, List.set_cons_zero] at hX4
      have G4 := only_setCell (World.grownBy.refl w3 (some gx)) (p := ⟨gx, 1, none⟩) (.inl rfl) (.slice A' m c')
      have ou4 : OU (w3.setCell ⟨gx, 1, none⟩ (.slice A' m c')) w.heap.size A' n' c' zs := ⟨ouX.1, own_at ouX.2.1 hX (by decide) G4, ouX.2.2⟩
      have ou5 := ou4.cut (m := m) (by omega) (.inl hmpos)
      have hne : ∀ b, Value.ownBlock (.slice A1 n1 c1) = some b → b ≠ gx := by
        intro b hb e
        have h1 := (hrow.lt b hb).2
        have h2 := HGX.out
        omega
      have hrow4 : (w3.setCell ⟨gx, 1, none⟩ (.slice A' m c')).ownsRow w2.heap.size 73 2 (.slice A1 n1 c1) n1 (segsC M) := own_keep hrowX (fun b hb => Below.heap_setCell _ _ _ _ (hne b hb))
      have b4 := bX.setCell (p := ⟨gx, 1, none⟩) hgx2 (.slice A' m c')
      obtain ⟨w4, hw4⟩ : ∃ W, w3.setCell ⟨gx, 1, none⟩ (.slice A' m c') = W := ⟨_, rfl⟩
      rw [hw4] at hX4 ou5 hrow4 b4
      try rw [hw4]
      clear hw4 x0 x1 f1 G4 ou4
      have x0 := hX4.cell 0
      have x1 := hX4.cell 1
      have bN := (Below.refl w4.heap.size w4).alloc (Nat.le_refl _) (.cells #[.int .i64 k, .slice A' m c'] 73)
      have hNw := Blk.new w4 73 #[.int .i64 k, .slice A' m c']
      have ouN := ou5.alloc (.cells #[.int .i64 k, .slice A' m c'] 73)
      have DN : DL rSeg 2 (w4.alloc (.cells #[.int .i64 k, .slice A' m c'] 73)) (Lo _) (some ⟨w4.heap.size, 0, none⟩) 1 [(k, (zs.take m))] := DL.one rSeg_ok (cs := [.int .i64 k, .slice A' m c']) hNw hNw.lt ⟨A', m, c', rfl, NF.of ouN.ns (fun b hb => hb), ouN.cap⟩
      have HCC := Lib.hid (show Calls Tryd.prog 28 #[.slice (some ⟨w4.heap.size, 0, none⟩) 1 1] (w4.alloc (.cells #[.int .i64 k, .slice A' m c'] 73)) fun e w' => e = .returned (.int .i64 (m : Int)) ∧ Below (w4.alloc (.cells #[.int .i64 k, .slice A' m c'] 73)).heap.size (w4.alloc (.cells #[.int .i64 k, .slice A' m c'] 73)) w' from by
        have := aspCount (some ⟨w4.heap.size, 0, none⟩) 1 1 [(k, (zs.take m))] _ DN (by omega) (Lib.hid (by simp only [sumN]; have h1 := ou5.1; have h2 := hn64; unfold big32; omega))
        rw [← HC.out]
        exact this)
      go_wp2_with fail
      refine HCC.out.mono ?_
      rintro _ w5 ⟨rfl, b5⟩
      have b45 := btr bN b5 bN.size
      have hX5 := hX4.below b45 hX4.lt
      clear x0 x1
      have x0 := hX5.cell 0
      have x1 := hX5.cell 1
      have row5 := own_below hrow4 b45
      have b05 := btr b4 b45 b4.size
      have row6 := own_alloc2 row5 (.cells #[.int .i64 k, .slice A' m c'] 73)
      have b06 := b05.alloc b05.size (.cells #[.int .i64 k, .slice A' m c'] 73)
      have hz5 := b06.size
      go_wp2_with (at_builtin; refine wpl_appR rfl (.tmp 37) (.tmp 39) 22 rfl 73 _ 2 32 Tryd.underlying22 seg_info rfl (by omega) w2.heap.size A1 n1 c1 _ (by rfl) row6 (w5.heap.size + 1) (some ⟨w5.heap.size, 0, none⟩) 1 1 [.int .i64 k, .slice A' m c'] (by rfl) (Reads.two w5 73 (.int .i64 k) (.slice A' m c') rfl) (by intro u hu; simp at hu; rcases hu with rfl | rfl <;> rfl) (by unfold maxLen; omega) (by omega) hz5 ?_; intro A6 c6 w6 o6 b6 g6 _)
      go_roundw
      case rel => exact ⟨j + 1, 0, A6, n1 + 1, c6, _, by omega, by go_num, rfl, by omega, rfl, by omega, by rw [segsC_app, segsC_one]; exact o6, HP2, HM2, b06.trans b6⟩
      case measure => simp [intOf]; omega
    · have t2 : decide ((m : Int) < (n' : Int)) = false := decide_eq_false (by omega)
      have HC := Lib.hid (show (countA [(k, zs)] : Int) = (n' : Int) by simp [countA, hk1']; have := HNZ.out; omega)
      have HM2 := Lib.hid (show headA l N = (M ++ [((k, zs), ((A', n', c') : Hd))]).map (·.1) ++ headA (l.drop (j + 1)) (m - n') by
        have hz := HNZ.out
        rw [HH.out, HDR.out, headA, if_neg h0, if_neg hk1', List.map_append]; simp only; rw [show m - min m zs.length = m - n' by omega, List.take_of_length_le (by omega)]; simp)
      have HP2 := Lib.hid (HP.out.more hop.2.2.2 HY.out (z := ((k, zs), ((A', n', c') : Hd))) (Cut.refl _ (by simp only; exact HNZ.out)))
      have wd : IntKind.i64.wrap ((m : Int) - (n' : Int)) = ((m - n' : Nat) : Int) := by rw [IntWalk.i64_in _ ⟨by omega, by omega⟩]; omega
      clear hk1' hk1 hk2 h0
      go_upto_region 5 with fail
      try rw [HW3.out, HGX.out]
      try rw [HGX.out]
      go_upto_region 8 with fail
      have bN := (Below.refl w3.heap.size w3).alloc (Nat.le_refl _) (.cells #[.int .i64 k, .slice A' n' c'] 73)
      have hNw := Blk.new w3 73 #[.int .i64 k, .slice A' n' c']
      have ouN := ouX.alloc (.cells #[.int .i64 k, .slice A' n' c'] 73)
      have DN : DL rSeg 2 (w3.alloc (.cells #[.int .i64 k, .slice A' n' c'] 73)) (Lo _) (some ⟨w3.heap.size, 0, none⟩) 1 [(k, zs)] := DL.one rSeg_ok (cs := [.int .i64 k, .slice A' n' c']) hNw hNw.lt ⟨A', n', c', rfl, NF.of ouN.ns (fun b hb => hb), ouN.cap⟩
      have HCC := Lib.hid (show Calls Tryd.prog 28 #[.slice (some ⟨w3.heap.size, 0, none⟩) 1 1] (w3.alloc (.cells #[.int .i64 k, .slice A' n' c'] 73)) fun e w' => e = .returned (.int .i64 (n' : Int)) ∧ Below (w3.alloc (.cells #[.int .i64 k, .slice A' n' c'] 73)).heap.size (w3.alloc (.cells #[.int .i64 k, .slice A' n' c'] 73)) w' from by
        have := aspCount (some ⟨w3.heap.size, 0, none⟩) 1 1 [(k, zs)] _ DN (by omega) (Lib.hid (by simp only [sumN]; have h1 := ouX.1; have h2 := hn64; unfold big32; omega))
        rw [← HC.out]
        exact this)
      go_wp2_with fail
      refine HCC.out.mono ?_
      rintro _ w5 ⟨rfl, b5⟩
      have b45 := btr bN b5 bN.size
      have hX5 := hX.below b45 hX.lt
      clear x0 x1
      have x0 := hX5.cell 0
      have x1 := hX5.cell 1
      have row5 := own_below hrowX b45
      have b05 := btr bX b45 bX.size
      have row6 := own_alloc2 row5 (.cells #[.int .i64 k, .slice A' n' c'] 73)
      have b06 := b05.alloc b05.size (.cells #[.int .i64 k, .slice A' n' c'] 73)
      have hz5 := b06.size
      go_wp2_with (at_builtin; refine wpl_appR rfl (.tmp 37) (.tmp 39) 22 rfl 73 _ 2 32 Tryd.underlying22 seg_info rfl (by omega) w2.heap.size A1 n1 c1 _ (by rfl) row6 (w5.heap.size + 1) (some ⟨w5.heap.size, 0, none⟩) 1 1 [.int .i64 k, .slice A' n' c'] (by rfl) (Reads.two w5 73 (.int .i64 k) (.slice A' n' c') rfl) (by intro u hu; simp at hu; rcases hu with rfl | rfl <;> rfl) (by unfold maxLen; omega) (by omega) hz5 ?_; intro A6 c6 w6 o6 b6 g6 _)
      go_roundw
      case rel => exact ⟨j + 1, (m - n'), A6, n1 + 1, c6, _, by omega, by go_num, rfl, by omega, rfl, by omega, by rw [segsC_app, segsC_one]; exact o6, HP2, HM2, b06.trans b6⟩
      case measure => simp [intOf]; omega
end Go.Proofs.YtlpkngjeihoknaaDoor
