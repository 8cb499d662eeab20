/- Walks of layer 3 (paths): a path with a number ahead, by the document. No conditions but sizes. -/
import Derived.Test.YtlpkngjeihoknaaDoorProg
import Derived.WalkKit
import Derived.WalkSpells
import Derived.WalkLawsBesides
import Derived.Outline
import Derived.Deep.QuietTactic
import Derived.BigQuiet
import Derived.Handy
import Derived.Lib.Hide
import Derived.Laws.Cover4
import Derived.OrdersHeld
import Derived.Deep.RegionHeld
import Derived.Deep.DeepCutAuto
import Derived.Deep.CutBlock
import Derived.Test.YtlpkngjeihoknaaDoorAspY
import Derived.Test.YtlpkngjeihoknaaDoorAspR
namespace Go.Proofs.YtlpkngjeihoknaaDoor
open Go.RowKit
set_option linter.unusedSimpArgs false
set_option linter.unusedVariables false
/-- A path that is handed back to be read, with an error's number. -/
def RetDp (w : World) (r : List Seg × Int) (e : Ending) (w' : World) : Prop := ∃ (A : Option Addr) (n c : Nat), e = .returned (.tuple #[.slice A n c, .int .i64 r.2]) ∧ DL rSeg 2 w' (Lo w') A n r.1 ∧ Below w.heap.size w w'
set_option maxHeartbeats 8000000 in
set_option maxRecDepth 100000 in
theorem refPrepend03 (A : Option Addr) (n c : Nat) (l : List Seg) (a : Int) (w : World) (hd : DL rSeg 2 w (Lo w) A n l) (wc : n ≤ c) (hn : n ≤ 100000) (hs : Hid (sumN l ≤ big32)) (ha : (Lit.int .u32 a).wf = true) :
    Calls Tryd.prog 44 #[.slice A n c, .int .u32 a] w (RetDp w (preA l a)) := by
  obtain ⟨r, hr⟩ : ∃ r, rightA l = r := ⟨_, rfl⟩
  have HA := Lib.hid ha
  have HN := Lib.hid hd.len
  clear ha
  have HR := Lib.hid (show ∀ w, DL rSeg 2 w (Lo w) A n l → Calls Tryd.prog 20 #[.slice A n c] w fun en w' => en = .returned (.bool r) ∧ Below w.heap.size w w' from fun w hd => by rw [← hr]; exact refRight03 A n c l w hd hn)
  have HRR := Lib.hid hr
  cases r
  · have HP := Lib.hid (preA_no a hr)
    clear hr
    go_enter Tryd.func44, Tryd.ntmps44
    go_wp2_with fail
    refine (HR.out _ hd).mono ?_
    rintro _ w1 ⟨rfl, b1⟩
    go_wp2_with fail
    go_ret2
    exact ⟨none, 0, 0, by rw [HP.out]; rfl, by rw [HP.out]; exact DL.none_, b1⟩
  have HSU := Lib.hid (rightA_of hr)
  have hn8 : n ≤ 8 := by have := HSU.out.2.2; have := HN.out; omega
  clear hr hn
  go_enter Tryd.func44, Tryd.ntmps44
  go_wp2_with fail
  refine (HR.out _ hd).mono ?_
  rintro _ w1 ⟨rfl, b1⟩
  have hd1 := hd.keep rSeg_ok (Kp.call b1)
  obtain ⟨W, hW, hB1, hB2, bW⟩ := boxes2 w1 #[.int .u32 a] #[.int .i64 2, .slice (some ⟨w1.heap.size, 0, none⟩) 1 1] 33 73
  have oU := (OU.one w1 HA.out (Nat.le_refl w1.heap.size) rfl).alloc (.cells #[.int .i64 2, .slice (some ⟨w1.heap.size, 0, none⟩) 1 1] 73)
  rw [hW] at oU
  have hzW : W.heap.size = w1.heap.size + 1 + 1 := by rw [← hW]; simp
  obtain ⟨q, hq⟩ : ∃ q, w1.heap.size = q := ⟨_, rfl⟩
  rw [hq] at hB1 hB2 oU bW hzW hW
  have HW := Lib.hid hW
  clear hW
  have HQ := Lib.hid hq
  have HZW := Lib.hid hzW
  clear hzW
  go_upto_region 4 with fail
  rw [HW.out]
  clear hq
  have hlq : w.heap.size ≤ q := by rw [← HQ.out]; exact b1.size
  have hdW := hd1.keep rSeg_ok (Kp.call (by rw [HQ.out]; exact bW))
  have b0W : Below w.heap.size w W := b1.trans (bW.mono hlq)
  by_cases hn0 : n = 0
  · have hl0 : l = [] := List.eq_nil_of_length_eq_zero (by have := HN.out; omega)
    have HL0 := Lib.hid hl0
    have e1 : decide (0 < n) = false := decide_eq_false (by omega)
    have e1' : decide ((0 : Int) < (n : Int)) = false := decide_eq_false (by omega)
    clear hl0 hn0
    have x0 : (W).cell? ⟨q + 1, 0, none⟩ = some (.int .i64 2) := hB2.cell 0
    have x1 : (W).cell? ⟨q + 1, 1, none⟩ = some (.slice (some ⟨q, 0, none⟩) (1) (1)) := hB2.cell 1
    have Bn := b0W.alloc (b0W).size (.cells #[.int .i64 2, .slice (some ⟨q, 0, none⟩) (1) (1)] 73)
    have oa := (OP.nil_ (w := W) (base := w.heap.size)).call ((Below.refl (W).heap.size (W)).alloc (Nat.le_refl _) (.cells #[.int .i64 2, .slice (some ⟨q, 0, none⟩) (1) (1)] 73))
    have o3a := ((oU).alloc (.cells #[.int .i64 2, .slice (some ⟨q, 0, none⟩) (1) (1)] 73)).low hlq
    have HOA := Lib.hid oa
    have HO3 := Lib.hid o3a
    have HBn := Lib.hid Bn
    have Dm := Lib.hid (show DL rSeg 2 w (Lo w) A n l from hd)
    have HWZ := Lib.hid (show w.heap.size ≤ (W).heap.size from (b0W).size)
    clear oa o3a Bn
    go_upto_region 10 with (at_builtin; refine wpl_appR rfl (.tmp 36) (.tmp 38) 22 rfl 73 _ 2 32 Tryd.underlying22 seg_info rfl (by omega) w.heap.size none 0 0 _ (by rfl) HOA.out.2.1 ((W).heap.size + 1) (some ⟨(W).heap.size, 0, none⟩) 1 1 [.int .i64 2, .slice (some ⟨q, 0, none⟩) (1) (1)] (by rfl) (Reads.two (W) 73 (.int .i64 2) (.slice (some ⟨q, 0, none⟩) (1) (1)) rfl) (by intro u hu; simp at hu; rcases hu with rfl | rfl <;> rfl) (by unfold maxLen; omega) (by omega) (by have := HWZ.out; simp; omega) ?_; intro A6 c6 w6 o6 b6 g6 _)
    have O6 := HOA.out.push (y := ((2, [a]), (some ⟨q, 0, none⟩, 1, 1))) HO3.out (fun z hz => by cases hz) o6 g6
    have b06 := HBn.out.trans b6
    obtain ⟨css, g1, g2, g3w, g4w, g5⟩ := Dm.out
    have HG2 := Lib.hid g2
    have g3 := g3w.keep (Kp.call b06)
    have g4 : ∀ (i : Nat) (cs : List Value) (a : Seg), css[i]? = some cs → (l)[i]? = some a → rSeg w6 (Lo w6) cs a := fun i cs a hi ha => rSeg_ok.keep (g4w i cs a hi ha) (Kp.call b06)
    have hrd := g3.reads (B := w6.heap.size) (fun b hb => hb)
    have h1c : ∀ u ∈ css.flatten, u.oneCell' = true := by
      intro u hu
      obtain ⟨cs, hcs, hu⟩ := List.mem_flatten.1 hu
      obtain ⟨i, hi⟩ := List.getElem?_of_mem hcs
      have hil := (List.getElem?_eq_some_iff.1 hi).1
      exact rSeg_ok.one (g4 i cs _ hi (List.getElem?_eq_getElem (by omega))) u hu
    have HG := Lib.hid (And.intro g1 (And.intro g4w g5))
    have HO6 := Lib.hid O6
    clear g1 g2 g3 g4 g5 g3w g4w x0 x1 O6
    go_upto_region 11 with (at_builtin; refine wpl_appR rfl (.tmp 40) (.tmp 41) 22 rfl 73 _ 2 32 Tryd.underlying22 seg_info rfl (by omega) w.heap.size A6 (0 + 1) c6 _ (by rfl) HO6.out.2.1 w6.heap.size (A) (n) (c) css.flatten (by rfl) hrd h1c (by unfold maxLen; omega) (by omega) b06.size ?_; intro A9 c9 w9 o9 b9 g9 _)
    have b09 := b06.trans b9
    have D9 : DL rSeg 2 w9 (Lo w9) A9 (0 + 1 + (n)) (preL l a) := by
      obtain ⟨g1, g4, g5⟩ := HG.out
      have := DL.both HO6.out HG2.out g1 (fun i cs a hi ha => rSeg_ok.keep (g4 i cs a hi ha) (Kp.call b09)) g5 o9 g9
      rw [show preL l a = [(2, [a])] ++ l by rw [HL0.out]; rfl]
      exact this
    obtain ⟨rr, hrr⟩ : ∃ rr, rightA (preL l a) = rr := ⟨_, rfl⟩
    have HR9 := Lib.hid hrr
    have HRI := Lib.hid (refRight03 A9 (0 + 1 + (n)) c9 _ w9 D9 (by omega))
    rw [hrr] at HRI
    have HD9 := Lib.hid D9
    clear hrr D9
    go_wp2_with fail
    refine HRI.out.mono ?_
    rintro _ w10 ⟨rfl, b10⟩
    have b010 := btr b09 b10 b09.size
    cases rr
    · have HP := Lib.hid (preA_full HRR.out HR9.out)
      go_wp2_with fail
      go_ret2
      exact ⟨none, 0, 0, by rw [HP.out]; rfl, by rw [HP.out]; exact DL.none_, b010⟩
    · have HP := Lib.hid (preA_ok HRR.out HR9.out)
      go_wp2_with fail
      go_ret2
      exact ⟨A9, _, c9, by rw [HP.out]; rfl, by rw [HP.out]; exact HD9.out.keep rSeg_ok (Kp.call b10), b010⟩
  obtain ⟨m, rfl⟩ : ∃ m, n = m + 1 := ⟨n - 1, by omega⟩
  obtain ⟨d, rfl⟩ : ∃ d, c = d + 1 := ⟨c - 1, by omega⟩
  have hnp : 0 < m + 1 := by omega
  have hnpi : (0 : Int) < ((m + 1 : Nat) : Int) := by omega
  have e1 : decide (0 < m + 1) = true := decide_eq_true hnp
  have e1' : decide ((0 : Int) < ((m + 1 : Nat) : Int)) = true := decide_eq_true hnpi
  obtain ⟨x, hx⟩ := getS HN.out hnp
  obtain ⟨x', l', hl'⟩ : ∃ x' l', l = x' :: l' := by
    cases l with
    | nil => cases hx
    | cons x' l' => exact ⟨x', l', rfl⟩
  have hxx : x' = x := by rw [hl'] at hx; simpa using hx
  subst hxx
  have HX := Lib.hid hx
  have HLL := Lib.hid hl'
  clear hl' hn0
  obtain ⟨b, off, A4, n4, c4, rfl, hbl, k0w, k1w, hnfw, hnc4⟩ := hd1.segAt hx
  have hbl : b < w1.heap.size := hbl
  have hblq : b < q := by rw [← HQ.out]; exact hbl
  have bWd : Below q w1 W := bW
  have k0 := (bW.cell (p := ⟨b, off + 0 * 2, none⟩) hblq).trans k0w
  have k1 := (bW.cell (p := ⟨b, off + 0 * 2 + 1, none⟩) hblq).trans k1w
  have hnf : NS .u32 W q A4 n4 x'.2 := ((hnfw.ns (B := q) (fun b hb => by rw [← HQ.out]; exact hb)).below bW)
  rw [Nat.zero_mul, Nat.add_zero] at k0 k1
  obtain ⟨k, hk⟩ : ∃ k, x'.1 = k := ⟨_, rfl⟩
  rw [hk] at k0
  have HK := Lib.hid hk
  obtain ⟨zs, hzs⟩ : ∃ zs, x'.2 = zs := ⟨_, rfl⟩
  have HZ := Lib.hid hzs
  rw [hzs] at hnf
  clear hk hzs hx k0w k1w hnfw
  by_cases hk2 : k = 2
  case neg =>
    have e2 : (k == 2) = false := by simpa using hk2
    have HK2 := Lib.hid hk2
    clear hk2
    have x0 : (W).cell? ⟨q + 1, 0, none⟩ = some (.int .i64 2) := hB2.cell 0
    have x1 : (W).cell? ⟨q + 1, 1, none⟩ = some (.slice (some ⟨q, 0, none⟩) (1) (1)) := hB2.cell 1
    have Bn := b0W.alloc (b0W).size (.cells #[.int .i64 2, .slice (some ⟨q, 0, none⟩) (1) (1)] 73)
    have oa := (OP.nil_ (w := W) (base := w.heap.size)).call ((Below.refl (W).heap.size (W)).alloc (Nat.le_refl _) (.cells #[.int .i64 2, .slice (some ⟨q, 0, none⟩) (1) (1)] 73))
    have o3a := ((oU).alloc (.cells #[.int .i64 2, .slice (some ⟨q, 0, none⟩) (1) (1)] 73)).low hlq
    have HOA := Lib.hid oa
    have HO3 := Lib.hid o3a
    have HBn := Lib.hid Bn
    have Dm := Lib.hid (show DL rSeg 2 w (Lo w) (some ⟨b, off, none⟩) (m + 1) l from hd)
    have HWZ := Lib.hid (show w.heap.size ≤ (W).heap.size from (b0W).size)
    clear oa o3a Bn
    go_upto_region 10 with (at_builtin; refine wpl_appR rfl (.tmp 36) (.tmp 38) 22 rfl 73 _ 2 32 Tryd.underlying22 seg_info rfl (by omega) w.heap.size none 0 0 _ (by rfl) HOA.out.2.1 ((W).heap.size + 1) (some ⟨(W).heap.size, 0, none⟩) 1 1 [.int .i64 2, .slice (some ⟨q, 0, none⟩) (1) (1)] (by rfl) (Reads.two (W) 73 (.int .i64 2) (.slice (some ⟨q, 0, none⟩) (1) (1)) rfl) (by intro u hu; simp at hu; rcases hu with rfl | rfl <;> rfl) (by unfold maxLen; omega) (by omega) (by have := HWZ.out; simp; omega) ?_; intro A6 c6 w6 o6 b6 g6 _)
    have O6 := HOA.out.push (y := ((2, [a]), (some ⟨q, 0, none⟩, 1, 1))) HO3.out (fun z hz => by cases hz) o6 g6
    have b06 := HBn.out.trans b6
    obtain ⟨css, g1, g2, g3w, g4w, g5⟩ := Dm.out
    have HG2 := Lib.hid g2
    have g3 := g3w.keep (Kp.call b06)
    have g4 : ∀ (i : Nat) (cs : List Value) (a : Seg), css[i]? = some cs → (l)[i]? = some a → rSeg w6 (Lo w6) cs a := fun i cs a hi ha => rSeg_ok.keep (g4w i cs a hi ha) (Kp.call b06)
    have hrd := g3.reads (B := w6.heap.size) (fun b hb => hb)
    have h1c : ∀ u ∈ css.flatten, u.oneCell' = true := by
      intro u hu
      obtain ⟨cs, hcs, hu⟩ := List.mem_flatten.1 hu
      obtain ⟨i, hi⟩ := List.getElem?_of_mem hcs
      have hil := (List.getElem?_eq_some_iff.1 hi).1
      exact rSeg_ok.one (g4 i cs _ hi (List.getElem?_eq_getElem (by omega))) u hu
    have HG := Lib.hid (And.intro g1 (And.intro g4w g5))
    have HO6 := Lib.hid O6
    clear g1 g2 g3 g4 g5 g3w g4w x0 x1 O6
    go_upto_region 11 with (at_builtin; refine wpl_appR rfl (.tmp 40) (.tmp 41) 22 rfl 73 _ 2 32 Tryd.underlying22 seg_info rfl (by omega) w.heap.size A6 (0 + 1) c6 _ (by rfl) HO6.out.2.1 w6.heap.size (some ⟨b, off, none⟩) (m + 1) (d + 1) css.flatten (by rfl) hrd h1c (by unfold maxLen; omega) (by omega) b06.size ?_; intro A9 c9 w9 o9 b9 g9 _)
    have b09 := b06.trans b9
    have D9 : DL rSeg 2 w9 (Lo w9) A9 (0 + 1 + (m + 1)) (preL l a) := by
      obtain ⟨g1, g4, g5⟩ := HG.out
      have := DL.both HO6.out HG2.out g1 (fun i cs a hi ha => rSeg_ok.keep (g4 i cs a hi ha) (Kp.call b09)) g5 o9 g9
      rw [show preL l a = [(2, [a])] ++ l by rw [HLL.out, preL, if_neg (by rw [HK.out]; exact HK2.out)]; rfl]
      exact this
    obtain ⟨rr, hrr⟩ : ∃ rr, rightA (preL l a) = rr := ⟨_, rfl⟩
    have HR9 := Lib.hid hrr
    have HRI := Lib.hid (refRight03 A9 (0 + 1 + (m + 1)) c9 _ w9 D9 (by omega))
    rw [hrr] at HRI
    have HD9 := Lib.hid D9
    clear hrr D9
    go_wp2_with fail
    refine HRI.out.mono ?_
    rintro _ w10 ⟨rfl, b10⟩
    have b010 := btr b09 b10 b09.size
    cases rr
    · have HP := Lib.hid (preA_full HRR.out HR9.out)
      go_wp2_with fail
      go_ret2
      exact ⟨none, 0, 0, by rw [HP.out]; rfl, by rw [HP.out]; exact DL.none_, b010⟩
    · have HP := Lib.hid (preA_ok HRR.out HR9.out)
      go_wp2_with fail
      go_ret2
      exact ⟨A9, _, c9, by rw [HP.out]; rfl, by rw [HP.out]; exact HD9.out.keep rSeg_ok (Kp.call b10), b010⟩
  subst hk2
  have hXd : Blk W.drew (q + 1) 73 #[.int .i64 2, .slice (some ⟨q, 0, none⟩) 1 1] := hB2
  have houd : OU W.drew q (some ⟨q, 0, none⟩) 1 1 [a] := oU
  have hbq : q ≤ W.drew.heap.size := by show q ≤ W.heap.size; have := HZW.out; omega
  have hns' : NS .u32 W.drew q A4 n4 zs := hnf
  have hq1 : W.drew.cell? ⟨b, off + 1, none⟩ = some (.slice A4 n4 c4) := k1
  have xx1 := hXd.cell 1
  have hbgx : b < q + 1 := by omega
  have HLN := Lib.hid (show ([a] : List Int).length + zs.length ≤ 35184372088832 by
    have h1 := HSU.out.2.1
    rw [HLL.out, sumN, HZ.out] at h1
    simp; omega)
  go_upto_region 6 with fail
  rename_i hk
  have HK8 := Lib.hid hk
  clear hk k0 k1
  refine wp_region_held_drew (S := (fun w' => w'.cell? ⟨b, off + 1, none⟩ = some (.slice A4 n4 c4))) (by kernel_rfl) ?_ (fun hHeld => ?_)
  · first | exact hq1 | exact q7 | exact q8
  refine wpAnyH_take (i := 0) (v := ?q1v0) rfl (by kernel_rfl) (by kernel_rfl) (by kernel_rfl) (by intro _ _ _ h; exact h) (Or.inl ⟨by rfl, ?q1hy0⟩) (by assumption) ?q1rest0
  case q1hy0 => (intro w hSw; (try dsimp only at hSw); go_simp; try with_reducible rfl)
  try simp only [Act.put, List.getElem_toArray, List.getElem_cons_succ, List.getElem_cons_zero, List.setIfInBounds_toArray, List.set_cons_zero, List.set_cons_succ]
  refine wpAnyH_take (i := 2) (v := ?q1v2) rfl (by kernel_rfl) (by kernel_rfl) (by kernel_rfl) (by intro _ _ _ h; exact h) (Or.inl ⟨by rfl, ?q1hy2⟩) (by assumption) ?q1rest2
  case q1hy2 => (intro w hSw; (try dsimp only at hSw); go_simp; try with_reducible rfl)
  try simp only [Act.put, List.getElem_toArray, List.getElem_cons_succ, List.getElem_cons_zero, List.setIfInBounds_toArray, List.set_cons_zero, List.set_cons_succ]
  refine wpAnyH_take (i := 3) (v := ?q1v3) rfl (by kernel_rfl) (by kernel_rfl) (by kernel_rfl) (by intro _ _ _ h; exact h) (Or.inl ⟨by rfl, ?q1hy3⟩) (by assumption) ?q1rest3
  case q1hy3 => (intro w hSw; (try dsimp only at hSw); go_simp; try with_reducible rfl)
  try simp only [Act.put, List.getElem_toArray, List.getElem_cons_succ, List.getElem_cons_zero, List.setIfInBounds_toArray, List.set_cons_zero, List.set_cons_succ]
  refine wpAnyH_take (i := 4) (v := ?q1v4) rfl (by kernel_rfl) (by kernel_rfl) (by kernel_rfl) (by intro _ _ _ h; exact h) (Or.inl ⟨by rfl, ?q1hy4⟩) (by assumption) ?q1rest4
  case q1hy4 => (intro w hSw; (try dsimp only at hSw); go_simp; try with_reducible rfl)
  try simp only [Act.put, List.getElem_toArray, List.getElem_cons_succ, List.getElem_cons_zero, List.setIfInBounds_toArray, List.set_cons_zero, List.set_cons_succ]
  refine wpAnyH_take (i := 5) (v := ?q1v5) rfl (by kernel_rfl) (by kernel_rfl) (by kernel_rfl) (by intro _ _ _ h; exact h) (Or.inl ⟨by rfl, ?q1hy5⟩) (by assumption) ?q1rest5
  case q1hy5 => (intro w hSw; (try dsimp only at hSw); go_simp; try with_reducible rfl)
  try simp only [Act.put, List.getElem_toArray, List.getElem_cons_succ, List.getElem_cons_zero, List.setIfInBounds_toArray, List.set_cons_zero, List.set_cons_succ]
  refine wpAnyH_ready (rs := [1]) (by kernel_rfl) (by simp) ?_
  refine AllReadyH.cons rfl (fun K hK => ?_) AllReadyH.nil
  go_simp
  go_wp2_with (fail)
  refine hK.out _ _ ?_ (fun hHeld => ?_)
  · try dsimp only
    first | exact hq1 | exact q7 | exact q8
  clear hK K
  refine wpAnyH_ready (rs := [6]) (by kernel_rfl) (by simp) ?_
  refine AllReadyH.cons rfl (fun K hK => ?_) AllReadyH.nil
  refine step_appU rfl (.tmp 27) (.tmp 31) rfl q (some ⟨q, 0, none⟩) 1 1 [a] (by rfl) houd q A4 n4 c4 zs (by rfl) hns' HLN.out hbq ?_; intro A7 n7 c7 w7 o7 b7 g7 hat7; have hX7 : Blk w7 (q + 1) 73 #[.int .i64 2, .slice (some ⟨q, 0, none⟩) 1 1] := hXd.grown g7 (by intro e; injection e with e; have e : q + 1 = q := e; omega); have f7 := hX7.frozen 1; have cc7 := hX7.cell 1; have hX8 := hX7.set_ 1 (.slice A7 n7 c7); have hg8 := only_setCell (World.grownBy.refl w7 (some (q + 1))) (p := ⟨q + 1, 1, none⟩) (.inl rfl) (.slice A7 n7 c7); have o8 : OU (w7.setCell ⟨q + 1, 1, none⟩ (.slice A7 n7 c7)) q A7 n7 c7 ([a] ++ zs) := ⟨o7.1, own_at o7.2.1 hX7 (by decide) hg8, o7.2.2⟩; have B7 : Below q W.drew w7 := b7; have B8 := B7.setCell (p := ⟨q + 1, 1, none⟩) (by show q ≤ q + 1; omega) (.slice A7 n7 c7); have q7 := (B7.cell (p := ⟨b, off + 1, none⟩) hblq).trans hq1; have q8 := (B8.cell (p := ⟨b, off + 1, none⟩) hblq).trans hq1; simp only [List.setIfInBounds_toArray, List.set_cons_succ, List.set_cons_zero] at hX8
  refine hK.out _ _ ?_ (fun hHeld => ?_)
  · try dsimp only
    first | exact hq1 | exact q7 | exact q8
  clear hK K
  refine wpAnyH_take (i := 7) (v := ?q1v7) rfl (by kernel_rfl) (by kernel_rfl) (by kernel_rfl) (by intro _ _ _ h; exact h) (Or.inl ⟨by rfl, ?q1hy7⟩) (by assumption) ?q1rest7
  case q1hy7 => (intro w hSw; (try dsimp only at hSw); go_simp; try with_reducible rfl)
  try simp only [Act.put, List.getElem_toArray, List.getElem_cons_succ, List.getElem_cons_zero, List.setIfInBounds_toArray, List.set_cons_zero, List.set_cons_succ]
  refine wpAnyH_ready (rs := [8]) (by kernel_rfl) (by simp) ?_
  refine AllReadyH.cons rfl (fun K hK => ?_) AllReadyH.nil
  go_simp
  go_wp2_with (fail)
  refine hK.out _ _ ?_ (fun hHeld => ?_)
  · try dsimp only
    first | exact hq1 | exact q7 | exact q8
  clear hK K
  refine wpAnyH_done (by kernel_rfl) ?_ _
  refine HK8.out _ _ ?_
  have hnc : ((m + 1 : Nat) : Int) ≤ ((d + 1 : Nat) : Int) := by omega
  have h1n : (1 : Int) ≤ ((m + 1 : Nat) : Int) := by omega
  have h1n2 : (1 : Int) ≤ (m : Int) + 1 := by omega
  obtain ⟨w8, hw8⟩ : ∃ W8, w7.setCell ⟨q + 1, 1, none⟩ (.slice A7 n7 c7) = W8 := ⟨_, rfl⟩
  rw [hw8] at hX8 o8 B8
  try rw [hw8]
  clear hw8 hX7 f7 cc7 hg8 xx1
  have B8' : Below q W w8 := ((Below.refl q W).drew).trans B8
  have b08 := b0W.trans (B8'.mono hlq)
  have hdr := hd.drop_ (k := 1) (by omega) wc
  rw [show m + 1 - 1 = m by omega] at hdr
  have HEQ := Lib.hid (show preL l a = [(2, [a] ++ zs)] ++ l.drop 1 by rw [HLL.out, preL, if_pos HK.out, HZ.out]; rfl)
  by_cases hc1 : d = 0
  · rw [if_pos (by omega)] at hdr
    subst hc1
    obtain rfl : m = 0 := by omega
    clear hnc h1n h1n2
    have x0 : (w8).cell? ⟨q + 1, 0, none⟩ = some (.int .i64 2) := hX8.cell 0
    have x1 : (w8).cell? ⟨q + 1, 1, none⟩ = some (.slice (A7) (n7) (c7)) := hX8.cell 1
    have Bn := b08.alloc (b08).size (.cells #[.int .i64 2, .slice (A7) (n7) (c7)] 73)
    have oa := (OP.nil_ (w := w8) (base := w.heap.size)).call ((Below.refl (w8).heap.size (w8)).alloc (Nat.le_refl _) (.cells #[.int .i64 2, .slice (A7) (n7) (c7)] 73))
    have o3a := ((o8).alloc (.cells #[.int .i64 2, .slice (A7) (n7) (c7)] 73)).low hlq
    have HOA := Lib.hid oa
    have HO3 := Lib.hid o3a
    have HBn := Lib.hid Bn
    have Dm := Lib.hid (show DL rSeg 2 w (Lo w) (some ⟨b, off, none⟩) 0 (l.drop 1) from hdr)
    have HWZ := Lib.hid (show w.heap.size ≤ (w8).heap.size from (b08).size)
    clear oa o3a Bn
    go_upto_region 10 with (at_builtin; refine wpl_appR rfl (.tmp 36) (.tmp 38) 22 rfl 73 _ 2 32 Tryd.underlying22 seg_info rfl (by omega) w.heap.size none 0 0 _ (by rfl) HOA.out.2.1 ((w8).heap.size + 1) (some ⟨(w8).heap.size, 0, none⟩) 1 1 [.int .i64 2, .slice (A7) (n7) (c7)] (by rfl) (Reads.two (w8) 73 (.int .i64 2) (.slice (A7) (n7) (c7)) rfl) (by intro u hu; simp at hu; rcases hu with rfl | rfl <;> rfl) (by unfold maxLen; omega) (by omega) (by have := HWZ.out; simp; omega) ?_; intro A6 c6 w6 o6 b6 g6 _)
    have O6 := HOA.out.push (y := ((2, [a] ++ zs), (A7, n7, c7))) HO3.out (fun z hz => by cases hz) o6 g6
    have b06 := HBn.out.trans b6
    obtain ⟨css, g1, g2, g3w, g4w, g5⟩ := Dm.out
    have HG2 := Lib.hid g2
    have g3 := g3w.keep (Kp.call b06)
    have g4 : ∀ (i : Nat) (cs : List Value) (a : Seg), css[i]? = some cs → (l.drop 1)[i]? = some a → rSeg w6 (Lo w6) cs a := fun i cs a hi ha => rSeg_ok.keep (g4w i cs a hi ha) (Kp.call b06)
    have hrd := g3.reads (B := w6.heap.size) (fun b hb => hb)
    have h1c : ∀ u ∈ css.flatten, u.oneCell' = true := by
      intro u hu
      obtain ⟨cs, hcs, hu⟩ := List.mem_flatten.1 hu
      obtain ⟨i, hi⟩ := List.getElem?_of_mem hcs
      have hil := (List.getElem?_eq_some_iff.1 hi).1
      exact rSeg_ok.one (g4 i cs _ hi (List.getElem?_eq_getElem (by omega))) u hu
    have HG := Lib.hid (And.intro g1 (And.intro g4w g5))
    have HO6 := Lib.hid O6
    clear g1 g2 g3 g4 g5 g3w g4w x0 x1 O6
    go_upto_region 11 with (at_builtin; refine wpl_appR rfl (.tmp 40) (.tmp 41) 22 rfl 73 _ 2 32 Tryd.underlying22 seg_info rfl (by omega) w.heap.size A6 (0 + 1) c6 _ (by rfl) HO6.out.2.1 w6.heap.size (some ⟨b, off, none⟩) (0) (0) css.flatten (by rfl) hrd h1c (by unfold maxLen; omega) (by omega) b06.size ?_; intro A9 c9 w9 o9 b9 g9 _)
    have b09 := b06.trans b9
    have D9 : DL rSeg 2 w9 (Lo w9) A9 (0 + 1 + (0)) (preL l a) := by
      obtain ⟨g1, g4, g5⟩ := HG.out
      have := DL.both HO6.out HG2.out g1 (fun i cs a hi ha => rSeg_ok.keep (g4 i cs a hi ha) (Kp.call b09)) g5 o9 g9
      rw [HEQ.out]
      exact this
    obtain ⟨rr, hrr⟩ : ∃ rr, rightA (preL l a) = rr := ⟨_, rfl⟩
    have HR9 := Lib.hid hrr
    have HRI := Lib.hid (refRight03 A9 (0 + 1 + (0)) c9 _ w9 D9 (by omega))
    rw [hrr] at HRI
    have HD9 := Lib.hid D9
    clear hrr D9
    go_wp2_with fail
    refine HRI.out.mono ?_
    rintro _ w10 ⟨rfl, b10⟩
    have b010 := btr b09 b10 b09.size
    cases rr
    · have HP := Lib.hid (preA_full HRR.out HR9.out)
      go_wp2_with fail
      go_ret2
      exact ⟨none, 0, 0, by rw [HP.out]; rfl, by rw [HP.out]; exact DL.none_, b010⟩
    · have HP := Lib.hid (preA_ok HRR.out HR9.out)
      go_wp2_with fail
      go_ret2
      exact ⟨A9, _, c9, by rw [HP.out]; rfl, by rw [HP.out]; exact HD9.out.keep rSeg_ok (Kp.call b10), b010⟩
  · rw [if_neg (by omega)] at hdr
    have hdr : DL rSeg 2 w (Lo w) (some ⟨b, off + 2, none⟩) m (l.drop 1) := by
      rw [Option.map_some, addr_add] at hdr
      exact hdr
    have x0 : (w8).cell? ⟨q + 1, 0, none⟩ = some (.int .i64 2) := hX8.cell 0
    have x1 : (w8).cell? ⟨q + 1, 1, none⟩ = some (.slice (A7) (n7) (c7)) := hX8.cell 1
    have Bn := b08.alloc (b08).size (.cells #[.int .i64 2, .slice (A7) (n7) (c7)] 73)
    have oa := (OP.nil_ (w := w8) (base := w.heap.size)).call ((Below.refl (w8).heap.size (w8)).alloc (Nat.le_refl _) (.cells #[.int .i64 2, .slice (A7) (n7) (c7)] 73))
    have o3a := ((o8).alloc (.cells #[.int .i64 2, .slice (A7) (n7) (c7)] 73)).low hlq
    have HOA := Lib.hid oa
    have HO3 := Lib.hid o3a
    have HBn := Lib.hid Bn
    have Dm := Lib.hid (show DL rSeg 2 w (Lo w) (some ⟨b, off + 2, none⟩) m (l.drop 1) from hdr)
    have HWZ := Lib.hid (show w.heap.size ≤ (w8).heap.size from (b08).size)
    clear oa o3a Bn
    go_upto_region 10 with (at_builtin; refine wpl_appR rfl (.tmp 36) (.tmp 38) 22 rfl 73 _ 2 32 Tryd.underlying22 seg_info rfl (by omega) w.heap.size none 0 0 _ (by rfl) HOA.out.2.1 ((w8).heap.size + 1) (some ⟨(w8).heap.size, 0, none⟩) 1 1 [.int .i64 2, .slice (A7) (n7) (c7)] (by rfl) (Reads.two (w8) 73 (.int .i64 2) (.slice (A7) (n7) (c7)) rfl) (by intro u hu; simp at hu; rcases hu with rfl | rfl <;> rfl) (by unfold maxLen; omega) (by omega) (by have := HWZ.out; simp; omega) ?_; intro A6 c6 w6 o6 b6 g6 _)
    have O6 := HOA.out.push (y := ((2, [a] ++ zs), (A7, n7, c7))) HO3.out (fun z hz => by cases hz) o6 g6
    have b06 := HBn.out.trans b6
    obtain ⟨css, g1, g2, g3w, g4w, g5⟩ := Dm.out
    have HG2 := Lib.hid g2
    have g3 := g3w.keep (Kp.call b06)
    have g4 : ∀ (i : Nat) (cs : List Value) (a : Seg), css[i]? = some cs → (l.drop 1)[i]? = some a → rSeg w6 (Lo w6) cs a := fun i cs a hi ha => rSeg_ok.keep (g4w i cs a hi ha) (Kp.call b06)
    have hrd := g3.reads (B := w6.heap.size) (fun b hb => hb)
    have h1c : ∀ u ∈ css.flatten, u.oneCell' = true := by
      intro u hu
      obtain ⟨cs, hcs, hu⟩ := List.mem_flatten.1 hu
      obtain ⟨i, hi⟩ := List.getElem?_of_mem hcs
      have hil := (List.getElem?_eq_some_iff.1 hi).1
      exact rSeg_ok.one (g4 i cs _ hi (List.getElem?_eq_getElem (by omega))) u hu
    have HG := Lib.hid (And.intro g1 (And.intro g4w g5))
    have HO6 := Lib.hid O6
    clear g1 g2 g3 g4 g5 g3w g4w x0 x1 O6
    go_upto_region 11 with (at_builtin; refine wpl_appR rfl (.tmp 40) (.tmp 41) 22 rfl 73 _ 2 32 Tryd.underlying22 seg_info rfl (by omega) w.heap.size A6 (0 + 1) c6 _ (by rfl) HO6.out.2.1 w6.heap.size (some ⟨b, off + 2, none⟩) (m) (d) css.flatten (by rfl) hrd h1c (by unfold maxLen; omega) (by omega) b06.size ?_; intro A9 c9 w9 o9 b9 g9 _)
    have b09 := b06.trans b9
    have D9 : DL rSeg 2 w9 (Lo w9) A9 (0 + 1 + (m)) (preL l a) := by
      obtain ⟨g1, g4, g5⟩ := HG.out
      have := DL.both HO6.out HG2.out g1 (fun i cs a hi ha => rSeg_ok.keep (g4 i cs a hi ha) (Kp.call b09)) g5 o9 g9
      rw [HEQ.out]
      exact this
    obtain ⟨rr, hrr⟩ : ∃ rr, rightA (preL l a) = rr := ⟨_, rfl⟩
    have HR9 := Lib.hid hrr
    have HRI := Lib.hid (refRight03 A9 (0 + 1 + (m)) c9 _ w9 D9 (by omega))
    rw [hrr] at HRI
    have HD9 := Lib.hid D9
    clear hrr D9
    go_wp2_with fail
    refine HRI.out.mono ?_
    rintro _ w10 ⟨rfl, b10⟩
    have b010 := btr b09 b10 b09.size
    cases rr
    · have HP := Lib.hid (preA_full HRR.out HR9.out)
      go_wp2_with fail
      go_ret2
      exact ⟨none, 0, 0, by rw [HP.out]; rfl, by rw [HP.out]; exact DL.none_, b010⟩
    · have HP := Lib.hid (preA_ok HRR.out HR9.out)
      go_wp2_with fail
      go_ret2
      exact ⟨A9, _, c9, by rw [HP.out]; rfl, by rw [HP.out]; exact HD9.out.keep rSeg_ok (Kp.call b10), b010⟩
end Go.Proofs.YtlpkngjeihoknaaDoor
