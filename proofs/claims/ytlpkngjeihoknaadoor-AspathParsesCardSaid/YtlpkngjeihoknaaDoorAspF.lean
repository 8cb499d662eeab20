/- Walks of layer 3 (paths): one whose sequences are one, by the document. No conditions but sizes. -/
import Derived.Test.YtlpkngjeihoknaaDoorProg
import Derived.WalkKit
import Derived.WalkSpells
import Derived.WalkLawsBesides
import Derived.Outline
import Derived.Deep.QuietTactic
import Derived.BigQuiet
import Derived.Handy
import Derived.Lib.Hide
import Derived.Laws.Cover4
import Derived.OrdersHeld
import Derived.Deep.RegionHeld
import Derived.Deep.DeepCutAuto
import Derived.Deep.CutBlock
import Derived.Test.YtlpkngjeihoknaaDoorAspE
namespace Go.Proofs.YtlpkngjeihoknaaDoor
open Go.RowKit
set_option linter.unusedSimpArgs false
set_option linter.unusedVariables false
/-- What stands at place j does not join what is ahead. -/
def NoJ (l : List Seg) (j : Nat) : Prop := ∀ x, l[j]? = some x → normA (l.take (j + 1)) = normA (l.take j) ++ [x]
set_option maxHeartbeats 8000000 in
set_option maxRecDepth 100000 in
theorem refNorm03 (A : Option Addr) (n c : Nat) (l : List Seg) (w : World) (hd : DL rSeg 2 w (Lo w) A n l) (hn : n ≤ 100000) (hs : Hid (sumN l ≤ big32)) :
    Calls Tryd.prog 23 #[.slice A n c] w (RetP w (normA l)) := by
  have HN := Lib.hid hd.len
  go_enter Tryd.func23, Tryd.ntmps23
  go_wp2_with fail
  go_loopw [3, 4] (fun s i wr => ∃ (j : Nat) (A1 : Option Addr) (n1 c1 : Nat) (L : List (Seg × Hd)), j ≤ n ∧ i = .int .i64 j ∧ s = .slice A1 n1 c1 ∧ n1 ≤ j ∧ OP wr w.heap.size A1 n1 c1 L ∧ Hid (L.map (·.1) = normA (l.take j)) ∧ Hid (NoJ l j) ∧ Below w.heap.size w wr) (fun _ i _ => n - (intOf i).toNat)
  case atStart => exact ⟨0, none, 0, 0, [], by omega, rfl, rfl, by omega, OP.nil_, Lib.hid (by simp [normA]), Lib.hid (fun x hx => by rw [normA_take hx, show normA (l.take 0) = [] by simp [normA], normStep_nil]; rfl), Below.refl _ _⟩
  case round =>
    obtain ⟨j, A1, n1, c1, L, hj, rfl, rfl, hn1, ho, HL, HJ, hb⟩ := hrel
    by_cases hlt : j < n
    case neg =>
      have e2 : decide ((j : Int) < n) = false := decide_eq_false (by omega)
      have HF := Lib.hid (show L.map (·.1) = normA l by rw [HL.out, List.take_of_length_le (by have := HN.out; omega)])
      go_wp2_with fail
      go_ret
      exact ⟨A1, n1, c1, L, rfl, ho, HF.out, hb⟩
    obtain ⟨x, hx⟩ := getS HN.out hlt
    have HX := Lib.hid hx
    have e2 : decide ((j : Int) < n) = true := decide_eq_true (by omega)
    have hlti : (j : Int) < n := by omega
    have hj0 : (0 : Int) ≤ (j : Int) := by omega
    have hdw := hd.keep rSeg_ok (Kp.call hb)
    obtain ⟨b, off, A', n', c', rfl, hbl, k0, k1, hnf, hnc'⟩ := hdw.segAt hx
    have hbl : b < wr.heap.size := hbl
    have HNT := Lib.hid (HJ.out x hx)
    have HNL := Lib.hid (show ([] : List Int).length + x.2.length ≤ 35184372088832 by have h1 := sumN_at hx; have h2 := hs.out; unfold big32 at h2; simp; omega)
    have wj : IntKind.i64.wrap ((j : Int) + 1) = (j : Int) + 1 := IntWalk.i64_in _ ⟨by omega, by omega⟩
    obtain ⟨k, hk⟩ : ∃ k, x.1 = k := ⟨_, rfl⟩
    have HK := Lib.hid hk
    rw [hk] at k0
    obtain ⟨zs, hzs⟩ : ∃ zs, x.2 = zs := ⟨_, rfl⟩
    have HZ := Lib.hid hzs
    rw [hzs] at hnf HNL
    clear hk hzs
    have K1 : ∀ W, Below wr.heap.size wr W → W.cell? ⟨b, off + j * 2 + 1, none⟩ = some (.slice A' n' c') := fun W hB => (hB.cell (p := ⟨b, off + j * 2 + 1, none⟩) hbl).trans k1
    clear hx
    go_upto_region 5 with fail
    obtain ⟨w1, hw1, hX1, b1⟩ := box1c wr #[.int .i64 k, .slice none 0 0] 73
    have ns1 := (hnf.lt.below b1).more b1.size
    clear hnf k1
    try rw [hw1]
    clear hw1
    obtain ⟨gx, hgx⟩ : ∃ gx, wr.heap.size = gx := ⟨_, rfl⟩
    have HGX := Lib.hid hgx
    rw [hgx] at hX1 b1
    try rw [hgx]
    have KX := Lib.hid K1
    have b1d : Below wr.heap.size wr w1.drew := by rw [hgx]; exact b1.drew
    have hX1' : Blk w1.drew gx 73 #[.int .i64 k, .slice none 0 0] := hX1
    have ns1' : NS .u32 w1.drew w1.heap.size A' n' zs := ns1
    have hbase1 : gx ≤ w1.drew.heap.size := Nat.le_of_lt hX1.lt
    have xx1 := hX1.cell 1
    clear k0 K1
    rename_i hk
    have HKK := Lib.hid hk
    clear hk hgx
    refine wp_region_held_drew (S := (fun w' => w'.cell? ⟨b, off + j * 2 + 1, none⟩ = some (.slice A' n' c'))) (by kernel_rfl) ?_ (fun hHeld => ?_)
    · first | exact KX.out _ b1d | exact KX.out _ B5 | exact KX.out _ B6
    refine wpAnyH_take (i := 0) (v := ?q1v0) rfl (by kernel_rfl) (by kernel_rfl) (by kernel_rfl) (by intro _ _ _ h; exact h) (Or.inl ⟨by rfl, ?q1hy0⟩) (by assumption) ?q1rest0
    case q1hy0 => (intro w hSw; (try dsimp only at hSw); go_simp; try with_reducible rfl)
    try simp only [Act.put, List.getElem_toArray, List.getElem_cons_succ, List.getElem_cons_zero, List.setIfInBounds_toArray, List.set_cons_zero, List.set_cons_succ]
    refine wpAnyH_take (i := 2) (v := ?q1v2) rfl (by kernel_rfl) (by kernel_rfl) (by kernel_rfl) (by intro _ _ _ h; exact h) (Or.inl ⟨by rfl, ?q1hy2⟩) (by assumption) ?q1rest2
    case q1hy2 => (intro w hSw; (try dsimp only at hSw); go_simp; try with_reducible rfl)
    try simp only [Act.put, List.getElem_toArray, List.getElem_cons_succ, List.getElem_cons_zero, List.setIfInBounds_toArray, List.set_cons_zero, List.set_cons_succ]
    refine wpAnyH_take (i := 3) (v := ?q1v3) rfl (by kernel_rfl) (by kernel_rfl) (by kernel_rfl) (by intro _ _ _ h; exact h) (Or.inl ⟨by rfl, ?q1hy3⟩) (by assumption) ?q1rest3
    case q1hy3 => (intro w hSw; (try dsimp only at hSw); go_simp; try with_reducible rfl)
    try simp only [Act.put, List.getElem_toArray, List.getElem_cons_succ, List.getElem_cons_zero, List.setIfInBounds_toArray, List.set_cons_zero, List.set_cons_succ]
    refine wpAnyH_take (i := 4) (v := ?q1v4) rfl (by kernel_rfl) (by kernel_rfl) (by kernel_rfl) (by intro _ _ _ h; exact h) (Or.inl ⟨by rfl, ?q1hy4⟩) (by assumption) ?q1rest4
    case q1hy4 => (intro w hSw; (try dsimp only at hSw); go_simp; try with_reducible rfl)
    try simp only [Act.put, List.getElem_toArray, List.getElem_cons_succ, List.getElem_cons_zero, List.setIfInBounds_toArray, List.set_cons_zero, List.set_cons_succ]
    refine wpAnyH_take (i := 5) (v := ?q1v5) rfl (by kernel_rfl) (by kernel_rfl) (by kernel_rfl) (by intro _ _ _ h; exact h) (Or.inl ⟨by rfl, ?q1hy5⟩) (by assumption) ?q1rest5
    case q1hy5 => (intro w hSw; (try dsimp only at hSw); go_simp; try with_reducible rfl)
    try simp only [Act.put, List.getElem_toArray, List.getElem_cons_succ, List.getElem_cons_zero, List.setIfInBounds_toArray, List.set_cons_zero, List.set_cons_succ]
    refine wpAnyH_take (i := 6) (v := ?q1v6) rfl (by kernel_rfl) (by kernel_rfl) (by kernel_rfl) (by intro _ _ _ h; exact h) (Or.inl ⟨by rfl, ?q1hy6⟩) (by assumption) ?q1rest6
    case q1hy6 => (intro w hSw; (try dsimp only at hSw); go_simp; try with_reducible rfl)
    try simp only [Act.put, List.getElem_toArray, List.getElem_cons_succ, List.getElem_cons_zero, List.setIfInBounds_toArray, List.set_cons_zero, List.set_cons_succ]
    refine wpAnyH_ready (rs := [1]) (by kernel_rfl) (by simp) ?_
    refine AllReadyH.cons rfl (fun K hK => ?_) AllReadyH.nil
    go_simp
    go_wp2_with (fail)
    refine hK.out _ _ ?_ (fun hHeld => ?_)
    · try dsimp only
      first | exact KX.out _ b1d | exact KX.out _ B5 | exact KX.out _ B6
    clear hK K
    refine wpAnyH_ready (rs := [7]) (by kernel_rfl) (by simp) ?_
    refine AllReadyH.cons rfl (fun K hK => ?_) AllReadyH.nil
    refine step_appU rfl (.tmp 17) (.tmp 22) rfl gx none 0 0 [] (by rfl) OU.nil_ w1.heap.size A' n' c' zs (by rfl) ns1' HNL.out hbase1 ?_; intro A5 n5 c5 w5 o5 b5 g5 hat5; have hX5 : Blk w5 gx 73 #[.int .i64 k, .slice none 0 0] := hX1'.grown g5 (by intro e; cases e); have f5 := hX5.frozen 1; have cc5 := hX5.cell 1; have B5 : Below wr.heap.size wr w5 := b1d.trans (by rw [HGX.out]; exact b5); have hX6 := hX5.set_ 1 (.slice A5 n5 c5); have hg6 := only_setCell (World.grownBy.refl w5 (some gx)) (p := ⟨gx, 1, none⟩) (.inl rfl) (.slice A5 n5 c5); have o6 : OU (w5.setCell ⟨gx, 1, none⟩ (.slice A5 n5 c5)) gx A5 n5 c5 ([] ++ zs) := ⟨o5.1, own_at o5.2.1 hX5 (by decide) hg6, o5.2.2⟩; have B6 : Below wr.heap.size wr (w5.setCell ⟨gx, 1, none⟩ (.slice A5 n5 c5)) := B5.setCell (p := ⟨gx, 1, none⟩) (by show wr.heap.size ≤ gx; rw [HGX.out]; exact Nat.le_refl _) _; simp only [List.setIfInBounds_toArray, List.set_cons_succ, List.set_cons_zero] at hX6
    refine hK.out _ _ ?_ (fun hHeld => ?_)
    · try dsimp only
      first | exact KX.out _ b1d | exact KX.out _ B5 | exact KX.out _ B6
    clear hK K
    refine wpAnyH_take (i := 8) (v := ?q1v8) rfl (by kernel_rfl) (by kernel_rfl) (by kernel_rfl) (by intro _ _ _ h; exact h) (Or.inl ⟨by rfl, ?q1hy8⟩) (by assumption) ?q1rest8
    case q1hy8 => (intro w hSw; (try dsimp only at hSw); go_simp; try with_reducible rfl)
    try simp only [Act.put, List.getElem_toArray, List.getElem_cons_succ, List.getElem_cons_zero, List.setIfInBounds_toArray, List.set_cons_zero, List.set_cons_succ]
    refine wpAnyH_ready (rs := [9]) (by kernel_rfl) (by simp) ?_
    refine AllReadyH.cons rfl (fun K hK => ?_) AllReadyH.nil
    go_simp
    go_wp2_with (fail)
    refine hK.out _ _ ?_ (fun hHeld => ?_)
    · try dsimp only
      first | exact KX.out _ b1d | exact KX.out _ B5 | exact KX.out _ B6
    clear hK K
    refine wpAnyH_done (by kernel_rfl) ?_ _
    have HBX := Lib.hid (show b < gx by rw [← HGX.out]; exact hbl)
    refine HKK.out _ _ ?_
    obtain ⟨w7, hw7⟩ : ∃ W, w5.setCell ⟨gx, 1, none⟩ (.slice A5 n5 c5) = W := ⟨_, rfl⟩
    rw [hw7] at hX6 o6 B6
    try rw [hw7]
    clear hw7 hX5 f5 cc5 hg6 xx1
    go_wp2_with fail
    have h03 := ho.call B6
    have hO6 := o6
    go_loopw [4] (fun i2 wi => ∃ (i : Nat) (A3 : Option Addr) (n3 c3 : Nat) (ys : List Int), i2 = .int .i64 (i : Int) ∧ j < i ∧ i ≤ n ∧ Blk wi gx 73 #[.int .i64 k, .slice A3 n3 c3] ∧ OU wi gx A3 n3 c3 ys ∧ Below wr.heap.size wr wi ∧ Hid (normA (l.take i) = L.map (·.1) ++ [(k, ys)])) (fun i _ => n - (intOf i).toNat)
    case atStart => exact ⟨j + 1, A5, n5, c5, _, by go_num, by omega, by omega, hX6, o6, B6, Lib.hid (by rw [HNT.out, ← HL.out, List.nil_append, ← HK.out, ← HZ.out])⟩
    case round =>
      obtain ⟨i, A3, n3, c3, ys, rfl, hji, hi, hX, hou, hB, HI⟩ := hrel
      have hdi := hd.keep rSeg_ok (Kp.call (btr hb hB hb.size))
      have x0 := hX.cell 0
      have x1 := hX.cell 1
      have f1 := hX.frozen 1
      have b03 := btr hb hB hb.size
      have hop := ho.call hB
      by_cases hk2 : k = 2
      case neg =>
        have t1 : (k == 2) = false := by simpa using hk2
        have HNO := Lib.hid (show NoJ l i from fun x' hx' => by rw [normA_take hx', HI.out, normStep_last (x := (k, ys)) hk2])
        clear hk2
        have oa := own_alloc2 hop.2.1 (.cells #[.int .i64 k, .slice A3 n3 c3] 73)
        have B4 := b03.alloc b03.size (.cells #[.int .i64 k, .slice A3 n3 c3] 73)
        have HOP := (hop.call ((Below.refl wr.heap.size wr).alloc (Nat.le_refl _) (.cells #[.int .i64 k, .slice A3 n3 c3] 73)))
        have hwgx : w.heap.size ≤ gx := by rw [← HGX.out]; exact hb.size
        have o3a := (hou.alloc (.cells #[.int .i64 k, .slice A3 n3 c3] 73)).low hwgx
        have HAP := Lib.hid (ho.apt (y := ((k, ys), (A3, n3, c3))) hou (Nat.le_of_eq HGX.out))
        go_wp2_with (at_builtin; refine wpl_appR rfl (.tmp 55) (.tmp 57) 22 rfl 73 _ 2 32 Tryd.underlying22 seg_info rfl (by omega) w.heap.size _ n1 _ _ (by rfl) oa (wr.heap.size + 1) (some ⟨wr.heap.size, 0, none⟩) 1 1 [.int .i64 k, .slice A3 n3 c3] (by rfl) (Reads.two wr 73 (.int .i64 k) (.slice A3 n3 c3) rfl) (by intro u hu; simp at hu; rcases hu with rfl | rfl <;> rfl) (by unfold maxLen; omega) (by omega) (by have := b03.size; simp; omega) ?_; intro A6 c6 w6 o6 b6 g6 _)
        have hO6 := HOP.push (y := ((k, ys), (A3, n3, c3))) o3a HAP.out o6 g6
        go_roundw
        case rel => exact ⟨i, A6, _, c6, _, by omega, by go_num, rfl, by omega, hO6, Lib.hid (by rw [HI.out, List.map_append]; rfl), HNO, B4.trans b6⟩
        case measure => simp [intOf]; omega
      have t1 : (k == 2) = true := by simpa using hk2
      by_cases hin : i < n
      case neg =>
        have d1 : decide ((i : Int) < n) = false := decide_eq_false (by omega)
        have HNO := Lib.hid (show NoJ l i from fun x' hx' => by rw [List.getElem?_eq_none (by have := HN.out; omega)] at hx'; cases hx')
        clear hk2
        have oa := own_alloc2 hop.2.1 (.cells #[.int .i64 k, .slice A3 n3 c3] 73)
        have B4 := b03.alloc b03.size (.cells #[.int .i64 k, .slice A3 n3 c3] 73)
        have HOP := (hop.call ((Below.refl wr.heap.size wr).alloc (Nat.le_refl _) (.cells #[.int .i64 k, .slice A3 n3 c3] 73)))
        have hwgx : w.heap.size ≤ gx := by rw [← HGX.out]; exact hb.size
        have o3a := (hou.alloc (.cells #[.int .i64 k, .slice A3 n3 c3] 73)).low hwgx
        have HAP := Lib.hid (ho.apt (y := ((k, ys), (A3, n3, c3))) hou (Nat.le_of_eq HGX.out))
        go_wp2_with (at_builtin; refine wpl_appR rfl (.tmp 55) (.tmp 57) 22 rfl 73 _ 2 32 Tryd.underlying22 seg_info rfl (by omega) w.heap.size _ n1 _ _ (by rfl) oa (wr.heap.size + 1) (some ⟨wr.heap.size, 0, none⟩) 1 1 [.int .i64 k, .slice A3 n3 c3] (by rfl) (Reads.two wr 73 (.int .i64 k) (.slice A3 n3 c3) rfl) (by intro u hu; simp at hu; rcases hu with rfl | rfl <;> rfl) (by unfold maxLen; omega) (by omega) (by have := b03.size; simp; omega) ?_; intro A6 c6 w6 o6 b6 g6 _)
        have hO6 := HOP.push (y := ((k, ys), (A3, n3, c3))) o3a HAP.out o6 g6
        go_roundw
        case rel => exact ⟨i, A6, _, c6, _, by omega, by go_num, rfl, by omega, hO6, Lib.hid (by rw [HI.out, List.map_append]; rfl), HNO, B4.trans b6⟩
        case measure => simp [intOf]; omega
      have d1 : decide ((i : Int) < n) = true := decide_eq_true (by omega)
      have hini : (i : Int) < n := by omega
      have hi0 : (0 : Int) ≤ (i : Int) := by omega
      obtain ⟨u, hu⟩ := getS HN.out hin
      obtain ⟨b', off', A4, n4, c4, hA4, hbl4, q0, q1, hnf4, hnc4⟩ := hdi.segAt hu
      injection hA4 with hA4
      injection hA4 with hA41 hA42 hA43
      subst hA41 hA42
      clear hA43
      have hbl4 : b < wr.heap.size := hbl4
      have HU := Lib.hid hu
      obtain ⟨ku, hku⟩ : ∃ ku, u.1 = ku := ⟨_, rfl⟩
      have HKU := Lib.hid hku
      rw [hku] at q0
      clear hku hu
      by_cases hu2 : ku = 2
      case neg =>
        have t2 : (ku == 2) = false := by simpa using hu2
        have HNO := Lib.hid (show NoJ l i from fun x' hx' => by
          rw [HU.out] at hx'
          injection hx' with hx'
          subst hx'
          rw [normA_take HU.out, normStep_kind (by rw [HKU.out]; exact hu2)])
        clear hk2 hu2
        have oa := own_alloc2 hop.2.1 (.cells #[.int .i64 k, .slice A3 n3 c3] 73)
        have B4 := b03.alloc b03.size (.cells #[.int .i64 k, .slice A3 n3 c3] 73)
        have HOP := (hop.call ((Below.refl wr.heap.size wr).alloc (Nat.le_refl _) (.cells #[.int .i64 k, .slice A3 n3 c3] 73)))
        have hwgx : w.heap.size ≤ gx := by rw [← HGX.out]; exact hb.size
        have o3a := (hou.alloc (.cells #[.int .i64 k, .slice A3 n3 c3] 73)).low hwgx
        have HAP := Lib.hid (ho.apt (y := ((k, ys), (A3, n3, c3))) hou (Nat.le_of_eq HGX.out))
        go_wp2_with (at_builtin; refine wpl_appR rfl (.tmp 55) (.tmp 57) 22 rfl 73 _ 2 32 Tryd.underlying22 seg_info rfl (by omega) w.heap.size _ n1 _ _ (by rfl) oa (wr.heap.size + 1) (some ⟨wr.heap.size, 0, none⟩) 1 1 [.int .i64 k, .slice A3 n3 c3] (by rfl) (Reads.two wr 73 (.int .i64 k) (.slice A3 n3 c3) rfl) (by intro u hu; simp at hu; rcases hu with rfl | rfl <;> rfl) (by unfold maxLen; omega) (by omega) (by have := b03.size; simp; omega) ?_; intro A6 c6 w6 o6 b6 g6 _)
        have hO6 := HOP.push (y := ((k, ys), (A3, n3, c3))) o3a HAP.out o6 g6
        go_roundw
        case rel => exact ⟨i, A6, _, c6, _, by omega, by go_num, rfl, by omega, hO6, Lib.hid (by rw [HI.out, List.map_append]; rfl), HNO, B4.trans b6⟩
        case measure => simp [intOf]; omega
      have t2 : (ku == 2) = true := by simpa using hu2
      have HI2 := Lib.hid (show normA (l.take (i + 1)) = L.map (·.1) ++ [(k, ys ++ u.2)] by
        rw [normA_take HU.out, HI.out, normStep_join (x := (k, ys)) hk2 (by rw [HKU.out]; exact hu2)])
      have HLN := Lib.hid (show ys.length + u.2.length ≤ 35184372088832 by
        have h1 := sumN_norm (l.take (i + 1))
        rw [HI2.out, sumN_app] at h1
        have h2 := Nat.le_trans (sumN_le l (i + 1)) hs.out
        simp [sumN] at h1
        unfold big32 at h2
        omega)
      have wi : IntKind.i64.wrap ((i : Int) + 1) = (i : Int) + 1 := IntWalk.i64_in _ ⟨by omega, by omega⟩
      have ns4 := hnf4.lt
      have hXd : Blk wr.drew gx 73 #[.int .i64 k, .slice A3 n3 c3] := hX
      have houd : OU wr.drew gx A3 n3 c3 ys := hou
      have ns4' : NS .u32 wr.drew wr.heap.size A4 n4 u.2 := ns4
      have hbase4 : gx ≤ wr.drew.heap.size := Nat.le_of_lt hX.lt
      have hq1 : wr.drew.cell? ⟨b, off + i * 2 + 1, none⟩ = some (.slice A4 n4 c4) := q1
      have hbgx : b < gx := by
        have := HBX.out
        exact this
      clear hk2 hu2 f1 hnf4 q1
      go_upto_region 8 with fail
      rename_i hk
      have HK8 := Lib.hid hk
      clear hk q0 x0
      refine wp_region_held_drew (S := (fun w' => w'.cell? ⟨b, off + i * 2 + 1, none⟩ = some (.slice A4 n4 c4))) (by kernel_rfl) ?_ (fun hHeld => ?_)
      · first | exact hq1 | exact q7 | exact q8
      refine wpAnyH_take (i := 0) (v := ?q2v0) rfl (by kernel_rfl) (by kernel_rfl) (by kernel_rfl) (by intro _ _ _ h; exact h) (Or.inl ⟨by rfl, ?q2hy0⟩) (by assumption) ?q2rest0
      case q2hy0 => (intro w hSw; (try dsimp only at hSw); go_simp; try with_reducible rfl)
      try simp only [Act.put, List.getElem_toArray, List.getElem_cons_succ, List.getElem_cons_zero, List.setIfInBounds_toArray, List.set_cons_zero, List.set_cons_succ]
      refine wpAnyH_take (i := 2) (v := ?q2v2) rfl (by kernel_rfl) (by kernel_rfl) (by kernel_rfl) (by intro _ _ _ h; exact h) (Or.inl ⟨by rfl, ?q2hy2⟩) (by assumption) ?q2rest2
      case q2hy2 => (intro w hSw; (try dsimp only at hSw); go_simp; try with_reducible rfl)
      try simp only [Act.put, List.getElem_toArray, List.getElem_cons_succ, List.getElem_cons_zero, List.setIfInBounds_toArray, List.set_cons_zero, List.set_cons_succ]
      refine wpAnyH_take (i := 3) (v := ?q2v3) rfl (by kernel_rfl) (by kernel_rfl) (by kernel_rfl) (by intro _ _ _ h; exact h) (Or.inl ⟨by rfl, ?q2hy3⟩) (by assumption) ?q2rest3
      case q2hy3 => (intro w hSw; (try dsimp only at hSw); go_simp; try with_reducible rfl)
      try simp only [Act.put, List.getElem_toArray, List.getElem_cons_succ, List.getElem_cons_zero, List.setIfInBounds_toArray, List.set_cons_zero, List.set_cons_succ]
      refine wpAnyH_take (i := 4) (v := ?q2v4) rfl (by kernel_rfl) (by kernel_rfl) (by kernel_rfl) (by intro _ _ _ h; exact h) (Or.inl ⟨by rfl, ?q2hy4⟩) (by assumption) ?q2rest4
      case q2hy4 => (intro w hSw; (try dsimp only at hSw); go_simp; try with_reducible rfl)
      try simp only [Act.put, List.getElem_toArray, List.getElem_cons_succ, List.getElem_cons_zero, List.setIfInBounds_toArray, List.set_cons_zero, List.set_cons_succ]
      refine wpAnyH_take (i := 5) (v := ?q2v5) rfl (by kernel_rfl) (by kernel_rfl) (by kernel_rfl) (by intro _ _ _ h; exact h) (Or.inl ⟨by rfl, ?q2hy5⟩) (by assumption) ?q2rest5
      case q2hy5 => (intro w hSw; (try dsimp only at hSw); go_simp; try with_reducible rfl)
      try simp only [Act.put, List.getElem_toArray, List.getElem_cons_succ, List.getElem_cons_zero, List.setIfInBounds_toArray, List.set_cons_zero, List.set_cons_succ]
      refine wpAnyH_take (i := 6) (v := ?q2v6) rfl (by kernel_rfl) (by kernel_rfl) (by kernel_rfl) (by intro _ _ _ h; exact h) (Or.inl ⟨by rfl, ?q2hy6⟩) (by assumption) ?q2rest6
      case q2hy6 => (intro w hSw; (try dsimp only at hSw); go_simp; try with_reducible rfl)
      try simp only [Act.put, List.getElem_toArray, List.getElem_cons_succ, List.getElem_cons_zero, List.setIfInBounds_toArray, List.set_cons_zero, List.set_cons_succ]
      refine wpAnyH_ready (rs := [1]) (by kernel_rfl) (by simp) ?_
      refine AllReadyH.cons rfl (fun K hK => ?_) AllReadyH.nil
      go_simp
      go_wp2_with (fail)
      refine hK.out _ _ ?_ (fun hHeld => ?_)
      · try dsimp only
        first | exact hq1 | exact q7 | exact q8
      clear hK K
      refine wpAnyH_ready (rs := [7]) (by kernel_rfl) (by simp) ?_
      refine AllReadyH.cons rfl (fun K hK => ?_) AllReadyH.nil
      refine step_appU rfl (.tmp 45) (.tmp 50) rfl gx A3 n3 c3 ys (by rfl) houd wr.heap.size A4 n4 c4 u.2 (by rfl) ns4' HLN.out hbase4 ?_; intro A7 n7 c7 w7 o7 b7 g7 hat7; have hX7 : Blk w7 gx 73 #[.int .i64 k, .slice A3 n3 c3] := hXd.grown g7 (by intro e; first | exact own_blk_ne houd.2.1 hXd (by decide) e | exact own_blk_ne houd.2.1 hXd (by decide) e.symm); have f7 := hX7.frozen 1; have cc7 := hX7.cell 1; have hX8 := hX7.set_ 1 (.slice A7 n7 c7); have hg8 := only_setCell (World.grownBy.refl w7 (some gx)) (p := ⟨gx, 1, none⟩) (.inl rfl) (.slice A7 n7 c7); have o8 : OU (w7.setCell ⟨gx, 1, none⟩ (.slice A7 n7 c7)) gx A7 n7 c7 (ys ++ u.2) := ⟨o7.1, own_at o7.2.1 hX7 (by decide) hg8, o7.2.2⟩; have B7 := hB.drew.trans (b7.mono (Nat.le_of_eq HGX.out)); have B8 := B7.setCell (p := ⟨gx, 1, none⟩) (Nat.le_of_eq HGX.out) (.slice A7 n7 c7); have q7 := (b7.cell (p := ⟨b, off + i * 2 + 1, none⟩) hbgx).trans hq1; have q8 := ((Below.refl gx w7).setCell (p := ⟨gx, 1, none⟩) (Nat.le_refl _) (.slice A7 n7 c7)).cell (p := ⟨b, off + i * 2 + 1, none⟩) hbgx |>.trans q7; simp only [List.setIfInBounds_toArray, List.set_cons_succ, List.set_cons_zero] at hX8
      refine hK.out _ _ ?_ (fun hHeld => ?_)
      · try dsimp only
        first | exact hq1 | exact q7 | exact q8
      clear hK K
      refine wpAnyH_take (i := 8) (v := ?q2v8) rfl (by kernel_rfl) (by kernel_rfl) (by kernel_rfl) (by intro _ _ _ h; exact h) (Or.inl ⟨by rfl, ?q2hy8⟩) (by assumption) ?q2rest8
      case q2hy8 => (intro w hSw; (try dsimp only at hSw); go_simp; try with_reducible rfl)
      try simp only [Act.put, List.getElem_toArray, List.getElem_cons_succ, List.getElem_cons_zero, List.setIfInBounds_toArray, List.set_cons_zero, List.set_cons_succ]
      refine wpAnyH_ready (rs := [9]) (by kernel_rfl) (by simp) ?_
      refine AllReadyH.cons rfl (fun K hK => ?_) AllReadyH.nil
      go_simp
      go_wp2_with (fail)
      refine hK.out _ _ ?_ (fun hHeld => ?_)
      · try dsimp only
        first | exact hq1 | exact q7 | exact q8
      clear hK K
      refine wpAnyH_done (by kernel_rfl) ?_ _
      refine HK8.out _ _ ?_
      go_wp2_with fail
      go_roundw
      case rel => exact ⟨i + 1, A7, n7, c7, _, by go_num, by omega, by omega, hX8, o8, B8, HI2⟩
      case measure => simp [intOf]; omega

end Go.Proofs.YtlpkngjeihoknaaDoor
