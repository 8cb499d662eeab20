/- Walks of layer 3 (paths): one whose sequences are one. No conditions but sizes. -/
import Derived.Test.YtlpkngjeihoknaaDoorProg
import Derived.WalkKit
import Derived.WalkSpells
import Derived.WalkLawsBesides
import Derived.Outline
import Derived.Deep.QuietTactic
import Derived.BigQuiet
import Derived.Handy
import Derived.Lib.Hide
import Derived.Laws.Cover4
import Derived.OrdersHeld
import Derived.Deep.RegionHeld
import Derived.Deep.DeepCutAuto
import Derived.Deep.CutBlock
import Derived.Test.YtlpkngjeihoknaaDoorAspD
namespace Go.Proofs.YtlpkngjeihoknaaDoor
open Go.RowKit
set_option linter.unusedSimpArgs false
set_option linter.unusedVariables false
def normStep (out : List Seg) (s : Seg) : List Seg := if s.1 = 2 ∧ out.getLast?.map (·.1) = some 2 then out.dropLast ++ [(2, (out.getLast?.map (·.2)).getD [] ++ s.2)] else out ++ [s]
def normA (l : List Seg) : List Seg := l.foldl normStep []
theorem normStep_nil (s : Seg) : normStep [] s = [s] := by unfold normStep; simp
theorem normStep_kind {out : List Seg} {s : Seg} (h : s.1 ≠ 2) : normStep out s = out ++ [s] := by unfold normStep; rw [if_neg (fun h' => h h'.1)]
theorem normStep_last {out : List Seg} {x s : Seg} (h : x.1 ≠ 2) : normStep (out ++ [x]) s = out ++ [x] ++ [s] := by unfold normStep; rw [if_neg (fun h' => h (by simpa using h'.2))]
theorem normStep_join {out : List Seg} {x s : Seg} (hx : x.1 = 2) (hs : s.1 = 2) : normStep (out ++ [x]) s = out ++ [(x.1, x.2 ++ s.2)] := by
  unfold normStep
  rw [if_pos ⟨hs, by simp [hx]⟩]
  simp [hx]
theorem normA_take {l : List Seg} {j : Nat} {x : Seg} (h : l[j]? = some x) : normA (l.take (j + 1)) = normStep (normA (l.take j)) x := by
  rw [take_snoc h]; simp [normA]
theorem sumN_step (out : List Seg) (s : Seg) : sumN (normStep out s) = sumN out + s.2.length := by
  rcases List.eq_nil_or_concat out with rfl | ⟨o, x, rfl⟩
  · rw [normStep_nil]; simp [sumN]
  · rw [List.concat_eq_append]
    by_cases hs : s.1 = 2
    · by_cases hx : x.1 = 2
      · rw [normStep_join hx hs, sumN_app, sumN_app]; simp [sumN]; omega
      · rw [normStep_last hx, sumN_app]; simp [sumN]
    · rw [normStep_kind hs, sumN_app]; simp [sumN]
theorem sumN_fold (l : List Seg) : ∀ out : List Seg, sumN (l.foldl normStep out) = sumN out + sumN l := by
  induction l with
  | nil => intro out; simp [sumN]
  | cons x l ih => intro out; rw [List.foldl_cons, ih, sumN_step, sumN]; omega
theorem sumN_norm (l : List Seg) : sumN (normA l) = sumN l := by
  unfold normA
  rw [sumN_fold]
  simp [sumN]
theorem len_step (out : List Seg) (s : Seg) : (normStep out s).length ≤ out.length + 1 := by
  unfold normStep
  split
  · simp
  · simp
theorem len_fold (l : List Seg) : ∀ out : List Seg, (l.foldl normStep out).length ≤ out.length + l.length := by
  induction l with
  | nil => intro out; simp
  | cons x l ih => intro out; rw [List.foldl_cons, List.length_cons]; have := ih (normStep out x); have := len_step out x; omega
theorem len_norm (l : List Seg) : (normA l).length ≤ l.length := by
  unfold normA
  have := len_fold l []
  simpa using this
theorem last_case {α : Type} {L : List α} {n : Nat} (h : n = L.length) (hn : ¬ n = 0) : ∃ (L0 : List α) (y : α) (m : Nat), L = L0 ++ [y] ∧ n = m + 1 ∧ m = L0.length := by
  rcases List.eq_nil_or_concat L with rfl | ⟨o, x, rfl⟩
  · exact absurd h hn
  · exact ⟨o, x, o.length, List.concat_eq_append .., by rw [h]; simp, rfl⟩
set_option maxHeartbeats 8000000 in
set_option maxRecDepth 100000 in
theorem aspNorm (A : Option Addr) (n c : Nat) (l : List Seg) (w : World) (hd : DL rSeg 2 w (Lo w) A n l) (hn : n ≤ 100000) (hs : Hid (sumN l ≤ big32)) :
    Calls Tryd.prog 45 #[.slice A n c] w (RetP w (normA l)) := by
  have HN := Lib.hid hd.len
  go_enter Tryd.func45, Tryd.ntmps45
  go_wp2_with fail
  go_loopw [3, 9] (fun s i wr => ∃ (j : Nat) (A1 : Option Addr) (n1 c1 : Nat) (L : List (Seg × Hd)), j ≤ n ∧ i = .int .i64 j ∧ s = .slice A1 n1 c1 ∧ n1 ≤ j ∧ OP wr w.heap.size A1 n1 c1 L ∧ Hid (L.map (·.1) = normA (l.take j)) ∧ Below w.heap.size w wr) (fun _ i _ => n - (intOf i).toNat)
  case atStart => exact ⟨0, none, 0, 0, [], by omega, rfl, rfl, by omega, OP.nil_, Lib.hid (by simp [normA]), Below.refl _ _⟩
  case round =>
    obtain ⟨j, A1, n1, c1, L, hj, rfl, rfl, hn1, ho, HL, hb⟩ := hrel
    by_cases hlt : j < n
    case neg =>
      have e2 : decide ((j : Int) < n) = false := decide_eq_false (by omega)
      have HF := Lib.hid (show L.map (·.1) = normA l by rw [HL.out, List.take_of_length_le (by have := HN.out; omega)])
      go_wp2_with fail
      go_ret
      exact ⟨A1, n1, c1, L, rfl, ho, HF.out, hb⟩
    obtain ⟨x, hx⟩ := getS HN.out hlt
    have HX := Lib.hid hx
    have e2 : decide ((j : Int) < n) = true := decide_eq_true (by omega)
    have hlti : (j : Int) < n := by omega
    obtain ⟨b, off, A', n', c', rfl, hbl, k0, k1, hnf, hnc'⟩ := (hd.keep rSeg_ok (Kp.call hb)).segAt hx
    have HNT := Lib.hid (normA_take hx)
    have HSB := Lib.hid (show sumN (l.take (j + 1)) ≤ big32 from Nat.le_trans (sumN_le l (j + 1)) hs.out)
    have HNL := Lib.hid (show n' ≤ 35184372088832 by have h1 := sumN_at hx; have h2 := hs.out; have h3 := hnf.1; unfold big32 at h2; omega)
    have wj : IntKind.i64.wrap ((j : Int) + 1) = (j : Int) + 1 := IntWalk.i64_in _ ⟨by omega, by omega⟩
    obtain ⟨k, hk⟩ : ∃ k, x.1 = k := ⟨_, rfl⟩
    have HK := Lib.hid hk
    rw [hk] at k0
    obtain ⟨zs, hzs⟩ : ∃ zs, x.2 = zs := ⟨_, rfl⟩
    have HZ := Lib.hid hzs
    rw [hzs] at hnf
    clear hk hzs
    obtain ⟨w1, hw1, hX1, b1⟩ := box1c wr #[.int .i64 k, .slice A' n' c'] 73
    have hXl := hX1.lt
    have z1 : w1.heap.size = wr.heap.size + 1 := by rw [← hw1]; simp
    have HZ1 := Lib.hid z1
    have x1 := hX1.cell 1
    have hnf1 := (hnf.lt.below b1).more b1.size
    clear hx hnf
    go_upto_region 5 with fail
    try rw [hw1]
    clear hw1 z1
    go_wp2_with fail
    refine (cloneU A' n' c' zs _ hnf1 HNL.out).mono ?_
    rintro _ w2 ⟨A3, n3, c3, rfl, o3, b2⟩
    have hX2 := hX1.below b2 hXl
    clear x1
    have q1 := hX2.cell 1
    have f1 := hX2.frozen 1
    go_upto_region 6 with fail
    obtain ⟨w3, hw3⟩ : ∃ W, w2.setCell ⟨wr.heap.size, 1, none⟩ (.slice A3 n3 c3) = W := ⟨_, rfl⟩
    have hX3 := hX2.set_ 1 (.slice A3 n3 c3)
    simp only [List.setIfInBounds_toArray, List.set_cons_succ, List.set_cons_zero] at hX3
    have hg3 := only_setCell (World.grownBy.refl w2 (some wr.heap.size)) (p := ⟨wr.heap.size, 1, none⟩) (.inl rfl) (.slice A3 n3 c3)
    have o33 : OU (w2.setCell ⟨wr.heap.size, 1, none⟩ (.slice A3 n3 c3)) w1.heap.size A3 n3 c3 zs := ⟨o3.1, own_at o3.2.1 hX2 (by decide) hg3, o3.2.2⟩
    have B3 : Below wr.heap.size wr (w2.setCell ⟨wr.heap.size, 1, none⟩ (.slice A3 n3 c3)) := (btr b1 b2 b1.size).setCell (p := ⟨wr.heap.size, 1, none⟩) (Nat.le_refl _) _
    rw [hw3] at hX3 o33 B3
    try rw [hw3]
    clear hw3 q1 f1 hX2
    have ho3 := ho.call B3
    have b03 := btr hb B3 hb.size
    have hzb := hb.size
    have HAP := Lib.hid (fun (kk : Int) => ho.apt (y := ((kk, zs), (A3, n3, c3))) o33 (by have := HZ1.out; omega))
    have y0 := hX3.cell 0
    have y1 := hX3.cell 1
    by_cases h0 : n1 = 0
    · subst h0
      have t0 : decide ((0 : Int) ≤ -1) = false := by decide
      have HM := Lib.hid (show ((L ++ [((k, zs), (A3, n3, c3))]).map (·.1)) = normA (l.take (j + 1)) by
        have e : L = [] := List.eq_nil_of_length_eq_zero ho.1.symm
        have h1 := HL.out
        rw [e] at h1
        rw [HNT.out, e, ← h1]
        show _ = normStep [] x
        rw [normStep_nil, ← HK.out, ← HZ.out]; rfl)
      have oa := own_alloc2 ho3.2.1 (.cells #[.int .i64 k, .slice A3 n3 c3] 73)
      have B4 := b03.alloc b03.size (.cells #[.int .i64 k, .slice A3 n3 c3] 73)
      have HOP := (ho3.call ((Below.refl w3.heap.size w3).alloc (Nat.le_refl _) (.cells #[.int .i64 k, .slice A3 n3 c3] 73)))
      have o3a := (o33.alloc (.cells #[.int .i64 k, .slice A3 n3 c3] 73)).low (show w.heap.size ≤ w1.heap.size by have := HZ1.out; omega)
      go_wp2_with (at_builtin; refine wpl_appR rfl (.tmp 47) (.tmp 49) 22 rfl 73 _ 2 32 Tryd.underlying22 seg_info rfl (by omega) w.heap.size _ (0) _ _ (by rfl) oa (w3.heap.size + 1) (some ⟨w3.heap.size, 0, none⟩) 1 1 [.int .i64 k, .slice A3 n3 c3] (by rfl) (Reads.two w3 73 (.int .i64 k) (.slice A3 n3 c3) rfl) (by intro u hu; simp at hu; rcases hu with rfl | rfl <;> rfl) (by unfold maxLen; omega) (by omega) (by have := b03.size; simp; omega) ?_; intro A6 c6 w6 o6 b6 g6 _)
      have hO6 := HOP.push (y := ((k, zs), (A3, n3, c3))) o3a (HAP.out k) o6 g6
      go_roundw
      case rel => exact ⟨j + 1, A6, _, c6, _, by omega, by go_num, rfl, by omega, hO6, HM.out, B4.trans b6⟩
      case measure => simp [intOf]; omega
    obtain ⟨L0, ⟨y, q⟩, m, rfl, rfl, hm⟩ := last_case ho.1 h0
    have HMM := Lib.hid hm
    have wk : IntKind.i64.wrap ((m : Int) + 1 - 1) = (m : Int) := by rw [IntWalk.i64_in _ ⟨by omega, by omega⟩]; omega
    have wk2 : IntKind.i64.wrap (((m + 1 : Nat) : Int) - 1) = (m : Int) := by rw [IntWalk.i64_in _ ⟨by omega, by omega⟩]; omega
    have wk3 : (m : Int) + 1 - 1 = m := by omega
    have t0 : decide ((0 : Int) ≤ (m : Int)) = true := decide_eq_true (by omega)
    clear hm h0
    by_cases hk2 : k = 2
    case neg =>
      have t1 : (k == 2) = false := by simpa using hk2
      have HM := Lib.hid (show ((L0 ++ [(y, q)] ++ [((k, zs), (A3, n3, c3))]).map (·.1)) = normA (l.take (j + 1)) by
        rw [HNT.out, ← HL.out, normStep_kind (by rw [HK.out]; exact hk2), List.map_append (l₂ := [((k, zs), (A3, n3, c3))]), ← HK.out, ← HZ.out]; rfl)
      clear hk2
      have oa := own_alloc2 ho3.2.1 (.cells #[.int .i64 k, .slice A3 n3 c3] 73)
      have B4 := b03.alloc b03.size (.cells #[.int .i64 k, .slice A3 n3 c3] 73)
      have HOP := (ho3.call ((Below.refl w3.heap.size w3).alloc (Nat.le_refl _) (.cells #[.int .i64 k, .slice A3 n3 c3] 73)))
      have o3a := (o33.alloc (.cells #[.int .i64 k, .slice A3 n3 c3] 73)).low (show w.heap.size ≤ w1.heap.size by have := HZ1.out; omega)
      go_wp2_with (at_builtin; refine wpl_appR rfl (.tmp 47) (.tmp 49) 22 rfl 73 _ 2 32 Tryd.underlying22 seg_info rfl (by omega) w.heap.size _ (m + 1) _ _ (by rfl) oa (w3.heap.size + 1) (some ⟨w3.heap.size, 0, none⟩) 1 1 [.int .i64 k, .slice A3 n3 c3] (by rfl) (Reads.two w3 73 (.int .i64 k) (.slice A3 n3 c3) rfl) (by intro u hu; simp at hu; rcases hu with rfl | rfl <;> rfl) (by unfold maxLen; omega) (by omega) (by have := b03.size; simp; omega) ?_; intro A6 c6 w6 o6 b6 g6 _)
      have hO6 := HOP.push (y := ((k, zs), (A3, n3, c3))) o3a (HAP.out k) o6 g6
      go_roundw
      case rel => exact ⟨j + 1, A6, _, c6, _, by omega, by go_num, rfl, by omega, hO6, HM.out, B4.trans b6⟩
      case measure => simp [intOf]; omega
    have t1 : (k == 2) = true := by simpa using hk2
    obtain ⟨g, rfl, hbg, hgl, c0, c1', fz⟩ := ho3.at_ (j := m) (y := (y, q)) (by rw [List.getElem?_append_right (by rw [HMM.out]; exact Nat.le_refl _), ← HMM.out, Nat.sub_self]; rfl)
    simp only at c0 c1'
    have hmi : (m : Int) < (m : Int) + 1 := by omega
    have hm0 : (0 : Int) ≤ (m : Int) := by omega
    obtain ⟨ky, hky⟩ : ∃ ky, y.1 = ky := ⟨_, rfl⟩
    have HKY := Lib.hid hky
    rw [hky] at c0
    clear hky
    by_cases hy2 : ky = 2
    case neg =>
      have t2 : (ky == 2) = false := by simpa using hy2
      have HM := Lib.hid (show ((L0 ++ [(y, q)] ++ [((k, zs), (A3, n3, c3))]).map (·.1)) = normA (l.take (j + 1)) by
        rw [HNT.out, ← HL.out, List.map_append (l₂ := [(y, q)]), List.map_singleton, normStep_last (by rw [HKY.out]; exact hy2), List.map_append (l₂ := [((k, zs), (A3, n3, c3))]), List.map_append, ← HK.out, ← HZ.out]; rfl)
      clear hk2 hy2
      have oa := own_alloc2 ho3.2.1 (.cells #[.int .i64 k, .slice A3 n3 c3] 73)
      have B4 := b03.alloc b03.size (.cells #[.int .i64 k, .slice A3 n3 c3] 73)
      have HOP := (ho3.call ((Below.refl w3.heap.size w3).alloc (Nat.le_refl _) (.cells #[.int .i64 k, .slice A3 n3 c3] 73)))
      have o3a := (o33.alloc (.cells #[.int .i64 k, .slice A3 n3 c3] 73)).low (show w.heap.size ≤ w1.heap.size by have := HZ1.out; omega)
      go_wp2_with (at_builtin; refine wpl_appR rfl (.tmp 47) (.tmp 49) 22 rfl 73 _ 2 32 Tryd.underlying22 seg_info rfl (by omega) w.heap.size _ (m + 1) _ _ (by rfl) oa (w3.heap.size + 1) (some ⟨w3.heap.size, 0, none⟩) 1 1 [.int .i64 k, .slice A3 n3 c3] (by rfl) (Reads.two w3 73 (.int .i64 k) (.slice A3 n3 c3) rfl) (by intro u hu; simp at hu; rcases hu with rfl | rfl <;> rfl) (by unfold maxLen; omega) (by omega) (by have := b03.size; simp; omega) ?_; intro A6 c6 w6 o6 b6 g6 _)
      have hO6 := HOP.push (y := ((k, zs), (A3, n3, c3))) o3a (HAP.out k) o6 g6
      go_roundw
      case rel => exact ⟨j + 1, A6, _, c6, _, by omega, by go_num, rfl, by omega, hO6, HM.out, B4.trans b6⟩
      case measure => simp [intOf]; omega
    have t2 : (ky == 2) = true := by simpa using hy2
    have HM := Lib.hid (fun (hh : Hd) => show ((L0 ++ [((y.1, y.2 ++ zs), hh)]).map (·.1)) = normA (l.take (j + 1)) by
      rw [HNT.out, ← HL.out, List.map_append (l₂ := [(y, q)]), List.map_singleton, normStep_join (by rw [HKY.out]; exact hy2) (by rw [HK.out]; exact hk2), List.map_append, ← HZ.out]; rfl)
    have HLN := Lib.hid (show y.2.length + zs.length ≤ 35184372088832 by
      have h1 := sumN_norm (l.take (j + 1))
      rw [HNT.out, sumN_step, ← HL.out] at h1
      have h2 : y.2.length ≤ sumN ((L0 ++ [(y, q)]).map (·.1)) := sumN_at (j := L0.length) (by rw [List.map_append, List.getElem?_append_right (by simp)]; simp)
      have h3 := HSB.out
      have h4 : x.2.length = zs.length := by rw [HZ.out]
      unfold big32 at h3
      omega)
    obtain ⟨Aq, nq, cq⟩ := q
    have ouq : OU w3 w.heap.size Aq nq cq y.2 := ho3.2.2.1 (y, (Aq, nq, cq)) (by simp)
    have ouq' : OU w3.drew w.heap.size Aq nq cq y.2 := ouq
    have o33' : OU w3.drew w1.heap.size A3 n3 c3 zs := o33
    have ho3' : OP w3.drew w.heap.size (some ⟨g, 0, none⟩) (m + 1) c1 (L0 ++ [(y, (Aq, nq, cq))]) := ho3
    have hX3' : Blk w3.drew wr.heap.size 73 #[.int .i64 k, .slice A3 n3 c3] := hX3
    have c1d : w3.cell? ⟨g, m * 2 + 1, none⟩ = some (.slice Aq nq cq) := c1'
    have hgne : wr.heap.size ≠ g := by
      intro e
      have := ((ho.2.1).lt g rfl).2
      omega
    have hbase3 : w.heap.size ≤ w3.drew.heap.size := b03.size
    clear hk2 hy2 y1 c1'
    have c1d' : w3.drew.cell? ⟨g, m * 2 + 1, none⟩ = some (.slice Aq nq cq) := c1d
    go_upto_region 8 with fail
    rename_i hk
    have HKK := Lib.hid hk
    clear hk t0 c0 y0
    refine wp_region_held_drew (S := (fun w' => w'.cell? ⟨wr.heap.size, 1, none⟩ = some (.slice A3 n3 c3))) (by kernel_rfl) ?_ (fun hHeld => ?_)
    · first | exact hX3'.cell 1 | exact hX5.cell 1 | exact hX6.cell 1
    refine wpAnyH_take (i := 0) (v := ?q1v0) rfl (by kernel_rfl) (by kernel_rfl) (by kernel_rfl) (by intro _ _ _ h; exact h) (Or.inl ⟨by rfl, ?q1hy0⟩) (by assumption) ?q1rest0
    case q1hy0 => (intro w hSw; (try dsimp only at hSw); go_simp; try with_reducible rfl)
    try simp only [Act.put, List.getElem_toArray, List.getElem_cons_succ, List.getElem_cons_zero, List.setIfInBounds_toArray, List.set_cons_zero, List.set_cons_succ]
    refine wpAnyH_take (i := 1) (v := ?q1v1) rfl (by kernel_rfl) (by kernel_rfl) (by kernel_rfl) (by intro _ _ _ h; exact h) (Or.inl ⟨by rfl, ?q1hy1⟩) (by assumption) ?q1rest1
    case q1hy1 => (intro w hSw; (try dsimp only at hSw); go_simp; try with_reducible rfl)
    try simp only [Act.put, List.getElem_toArray, List.getElem_cons_succ, List.getElem_cons_zero, List.setIfInBounds_toArray, List.set_cons_zero, List.set_cons_succ]
    refine wpAnyH_take (i := 2) (v := ?q1v2) rfl (by kernel_rfl) (by kernel_rfl) (by kernel_rfl) (by intro _ _ _ h; exact h) (Or.inl ⟨by rfl, ?q1hy2⟩) (by assumption) ?q1rest2
    case q1hy2 => (intro w hSw; (try dsimp only at hSw); go_simp; try with_reducible rfl)
    try simp only [Act.put, List.getElem_toArray, List.getElem_cons_succ, List.getElem_cons_zero, List.setIfInBounds_toArray, List.set_cons_zero, List.set_cons_succ]
    refine wpAnyH_take (i := 3) (v := ?q1v3) rfl (by kernel_rfl) (by kernel_rfl) (by kernel_rfl) (by intro _ _ _ h; exact h) (Or.inl ⟨by rfl, ?q1hy3⟩) (by assumption) ?q1rest3
    case q1hy3 => (intro w hSw; (try dsimp only at hSw); go_simp; try with_reducible rfl)
    try simp only [Act.put, List.getElem_toArray, List.getElem_cons_succ, List.getElem_cons_zero, List.setIfInBounds_toArray, List.set_cons_zero, List.set_cons_succ]
    refine wpAnyH_take (i := 4) (v := ?q1v4) rfl (by kernel_rfl) (by kernel_rfl) (by kernel_rfl) (by intro _ _ _ h; exact h) (Or.inl ⟨by rfl, ?q1hy4⟩) (by assumption) ?q1rest4
    case q1hy4 => (intro w hSw; (try dsimp only at hSw); go_simp; try with_reducible rfl)
    try simp only [Act.put, List.getElem_toArray, List.getElem_cons_succ, List.getElem_cons_zero, List.setIfInBounds_toArray, List.set_cons_zero, List.set_cons_succ]
    refine wpAnyH_take (i := 5) (v := ?q1v5) rfl (by kernel_rfl) (by kernel_rfl) (by kernel_rfl) (by intro _ _ _ h; exact h) (Or.inl ⟨by rfl, ?q1hy5⟩) (by assumption) ?q1rest5
    case q1hy5 => (intro w hSw; (try dsimp only at hSw); go_simp; try with_reducible rfl)
    try simp only [Act.put, List.getElem_toArray, List.getElem_cons_succ, List.getElem_cons_zero, List.setIfInBounds_toArray, List.set_cons_zero, List.set_cons_succ]
    refine wpAnyH_take (i := 7) (v := ?q1v7) rfl (by kernel_rfl) (by kernel_rfl) (by kernel_rfl) (by intro _ _ _ h; exact h) (Or.inl ⟨by rfl, ?q1hy7⟩) (by assumption) ?q1rest7
    case q1hy7 => (intro w hSw; (try dsimp only at hSw); go_simp; try with_reducible rfl)
    try simp only [Act.put, List.getElem_toArray, List.getElem_cons_succ, List.getElem_cons_zero, List.setIfInBounds_toArray, List.set_cons_zero, List.set_cons_succ]
    refine wpAnyH_take (i := 8) (v := ?q1v8) rfl (by kernel_rfl) (by kernel_rfl) (by kernel_rfl) (by intro _ _ _ h; exact h) (Or.inl ⟨by rfl, ?q1hy8⟩) (by assumption) ?q1rest8
    case q1hy8 => (intro w hSw; (try dsimp only at hSw); go_simp; try with_reducible rfl)
    try simp only [Act.put, List.getElem_toArray, List.getElem_cons_succ, List.getElem_cons_zero, List.setIfInBounds_toArray, List.set_cons_zero, List.set_cons_succ]
    refine wpAnyH_ready (rs := [6]) (by kernel_rfl) (by simp) ?_
    refine AllReadyH.cons rfl (fun K hK => ?_) AllReadyH.nil
    go_simp
    go_wp2_with (fail)
    refine hK.out _ _ ?_ (fun hHeld => ?_)
    · try dsimp only
      first | exact hX3'.cell 1 | exact hX5.cell 1 | exact hX6.cell 1
    clear hK K
    refine wpAnyH_ready (rs := [9]) (by kernel_rfl) (by simp) ?_
    refine AllReadyH.cons rfl (fun K hK => ?_) AllReadyH.nil
    refine step_appU rfl (.tmp 41) (.tmp 43) rfl w.heap.size Aq nq cq y.2 (by rfl) ouq' w3.drew.heap.size A3 n3 c3 zs (by rfl) o33'.ns HLN.out hbase3 ?_; intro A5 n5 c5 w5 o5 b5 g5 hat5; have hX5 : Blk w5 wr.heap.size 73 #[.int .i64 k, .slice A3 n3 c3] := hX3'.grown g5 (by intro e; first | exact own_blk_ne ouq'.2.1 hX3' (by decide) e | exact own_blk_ne ouq'.2.1 hX3' (by decide) e.symm); have hO6 := ho3'.grow (hm := HMM.out) o5 g5 hat5; have row5 : w5.ownsRow w.heap.size 73 2 (.slice (some ⟨g, 0, none⟩) (m + 1) c1) (m + 1) (segsC (L0 ++ [(y, (Aq, nq, cq))])) := own_own ho3'.2.1 ouq'.2.1 (by decide) g5; have fz5 := row5.frozenAt (m * 2 + 1); have cc5 := (row5.cellAt (m * 2 + 1) (by omega)).trans (segsC_last HMM.out y (Aq, nq, cq)); have hX6 : Blk (w5.setCell ⟨g, m * 2 + 1, none⟩ (.slice A5 n5 c5)) wr.heap.size 73 #[.int .i64 k, .slice A3 n3 c3] := hX5.grown (row5.stored (m * 2 + 1) (.slice A5 n5 c5)).2 (by intro e; injection e with e; first | exact hgne e | exact hgne e.symm); have b06 := (b03.drew.trans b5).setCell (p := ⟨g, m * 2 + 1, none⟩) hbg (.slice A5 n5 c5)
    refine hK.out _ _ ?_ (fun hHeld => ?_)
    · try dsimp only
      first | exact hX3'.cell 1 | exact hX5.cell 1 | exact hX6.cell 1
    clear hK K
    refine wpAnyH_take (i := 10) (v := ?q1v10) rfl (by kernel_rfl) (by kernel_rfl) (by kernel_rfl) (by intro _ _ _ h; exact h) (Or.inl ⟨by rfl, ?q1hy10⟩) (by assumption) ?q1rest10
    case q1hy10 => (intro w hSw; (try dsimp only at hSw); go_simp; try with_reducible rfl)
    try simp only [Act.put, List.getElem_toArray, List.getElem_cons_succ, List.getElem_cons_zero, List.setIfInBounds_toArray, List.set_cons_zero, List.set_cons_succ]
    refine wpAnyH_take (i := 11) (v := ?q1v11) rfl (by kernel_rfl) (by kernel_rfl) (by kernel_rfl) (by intro _ _ _ h; exact h) (Or.inl ⟨by rfl, ?q1hy11⟩) (by assumption) ?q1rest11
    case q1hy11 => (intro w hSw; (try dsimp only at hSw); go_simp; try with_reducible rfl)
    try simp only [Act.put, List.getElem_toArray, List.getElem_cons_succ, List.getElem_cons_zero, List.setIfInBounds_toArray, List.set_cons_zero, List.set_cons_succ]
    refine wpAnyH_ready (rs := [12]) (by kernel_rfl) (by simp) ?_
    refine AllReadyH.cons rfl (fun K hK => ?_) AllReadyH.nil
    go_simp
    go_wp2_with (fail)
    refine hK.out _ _ ?_ (fun hHeld => ?_)
    · try dsimp only
      first | exact hX3'.cell 1 | exact hX5.cell 1 | exact hX6.cell 1
    clear hK K
    refine wpAnyH_done (by kernel_rfl) ?_ _
    refine HKK.out _ _ ?_
    go_wp2_with fail
    go_roundw
    case rel => exact ⟨j + 1, some ⟨g, 0, none⟩, m + 1, c1, _, by omega, by go_num, rfl, by omega, hO6, HM.out _, b06⟩
    case measure => simp [intOf]; omega

end Go.Proofs.YtlpkngjeihoknaaDoor
