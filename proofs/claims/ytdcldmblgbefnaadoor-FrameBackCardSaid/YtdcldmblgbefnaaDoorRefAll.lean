/- The walk of the document's All (layer 7). No conditions but sizes. -/
import Derived.Test.YtdcldmblgbefnaaDoorProg
import Derived.WalkKit
import Derived.WalkSpells
import Derived.WalkLawsBesides
import Derived.Outline
import Derived.Deep.QuietTactic
import Derived.BigQuiet
import Derived.Handy
import Derived.Lib.Hide
import Derived.Test.YtdcldmblgbefnaaDoorFrameLawB
import Derived.Test.YtdcldmblgbefnaaDoorStreamLaw
import Derived.Test.YtdcldmblgbefnaaDoorMsgs
namespace Go.Proofs.YtdcldmblgbefnaaDoor
open Go.RowKit
theorem all_ret {fn : Func} {s p t : Tmp} (h : fn.results = #[.tmp s, .cell p 29, .tmp t]) (tmps : Array Value) (w : World) (g : Nat) (x y z : Value)
    (hp : tmps.getD p undef = .pointer (some ⟨g, 0, none⟩)) (hB : Blk w g 29 #[x, y, z]) :
    (results fn tmps).run Tryd.prog w = .ok (.tuple #[tmps.getD s undef, .agg #[x, y, z], tmps.getD t undef]) w := by
  have hp' : tmps[p]?.getD undef = .pointer (some ⟨g, 0, none⟩) := by simpa using hp
  have := run_loadVar_row (P := Tryd.prog) w g 29 29 #[x, y, z] (0, 0) _ hB Tryd.underlying29 rfl flt_info
  simp [results, h, hp', asAddr, this]
def AllPost (w : World) (r : List (Int × List UInt8) × (Int × Int × List UInt8) × List UInt8) (e : Ending) (w' : World) : Prop := ∃ (A : Option Addr) (n c : Nat) (A' : Option Addr) (n' c' : Nat), e = .returned (.tuple #[.slice A n c, .agg #[.int .i64 r.2.1.1, .int .i64 r.2.1.2.1, .slice A' n' c'], .int .i64 (r.2.2.length : Int)]) ∧ OM w' w.heap.size A n c r.1 ∧ BS w' w'.heap.size A' n' r.2.1.2.2 ∧ Below w.heap.size w w'
theorem allR_len (l : List UInt8) (ms : List (Int × List UInt8)) (k : Nat) (h : 19 * ms.length ≤ k) (hk : k ≤ l.length) : ms.length ≤ l.length := by omega
theorem nextR_zero (l : List UInt8) (h : (nextR l).2.2.2.1 = 0) : (nextR l).2.2.2.2.1 = 0 ∧ (nextR l).2.2.2.2.2 = [] := by
  unfold nextR at h ⊢
  split
  · exact ⟨rfl, rfl⟩
  · rename_i h1
    rw [if_neg h1] at h
    split
    · rename_i h2
      rw [if_pos h2] at h
      obtain ⟨h3, h4, _⟩ := headR_ok l h
      exact ⟨h3, h4⟩
    · exact ⟨rfl, rfl⟩
set_option maxHeartbeats 2000000 in
set_option maxRecDepth 100000 in
theorem refAll (A : Option Addr) (n c : Nat) (l : List UInt8) (w : World) (h : BS w w.heap.size A n l) (hnc : n ≤ c) (hn : n ≤ 5000) :
    Calls Tryd.prog 79 #[.slice A n c] w (AllPost w (allF l)) := by
  have H1 := Lib.hid h.len
  have hB0 := Blk.new w 29 #[.int .i64 0, .int .i64 0, .slice none 0 0]
  have b0 := (Below.refl w.heap.size w).alloc (Nat.le_refl _) (.cells #[.int .i64 0, .int .i64 0, .slice none 0 0] 29)
  obtain ⟨F, hF⟩ : ∃ F, allF l = F := ⟨_, rfl⟩
  rw [hF]
  have HF := Lib.hid hF
  clear hF
  go_enter Tryd.func79, Tryd.ntmps79
  go_wp2_with fail
  go_loopw [5, 6, 7] (fun out at_ i wr => ∃ (k p : Nat) (ms : List (Int × List UInt8)) (A1 : Option Addr) (n1 c1 : Nat), p ≤ n ∧ 19 * k ≤ p ∧ i = .int .i64 k ∧ at_ = .int .i64 p ∧ out = .slice A1 n1 c1 ∧ OM wr (w.heap.size + 1) A1 n1 c1 ms ∧ Blk wr w.heap.size 29 #[.int .i64 0, .int .i64 0, .slice none 0 0] ∧ Below w.heap.size w wr ∧ Hid (ms.length = k ∧ F = (ms ++ (allF (l.drop p)).1, (allF (l.drop p)).2))) (fun _ _ i _ => n - (intOf i).toNat)
  case atStart => exact ⟨0, 0, [], none, 0, 0, by omega, by omega, rfl, rfl, rfl, OM.nil_, hB0, b0, Lib.hid ⟨rfl, by rw [← HF.out]; simp⟩⟩
  case round =>
    obtain ⟨k, p, ms, A1, n1, c1, hp, hkp, rfl, rfl, rfl, hM, hB, hb, hI⟩ := hrel
    have hkn : k ≤ n := by omega
    have hD := h.drop_ (k := p) (by omega) hnc
    have HP := Lib.hid hp
    have HKP := Lib.hid hkp
    have HHI := hI
    clear hI
    obtain ⟨L, hL⟩ : ∃ L, l.drop p = L := ⟨_, rfl⟩
    rw [hL] at hD HHI
    have HL := Lib.hid hL
    clear hL
    obtain ⟨AD, nD, cD, hAD, hnD, hcD, hDD, hncD, hfar⟩ : ∃ (AD : Option Addr) (nD cD : Nat), (if c = p then A else A.map (·.add p)) = AD ∧ n - p = nD ∧ c - p = cD ∧ BS w w.heap.size AD nD L ∧ nD ≤ cD ∧ (∀ a0, AD = some a0 → a0.block < w.heap.size ∨ nD = 0) := by
      refine ⟨_, _, _, rfl, rfl, rfl, hD, by omega, fun a0 he => ?_⟩
      rcases Nat.eq_zero_or_pos (n - p) with h0 | h0
      · exact .inr h0
      · exact .inl (hD.lt_ h0 a0 he)
    clear hD
    have hwr := hb.size
    obtain ⟨R, hR⟩ : ∃ R, nextR L = R := ⟨_, rfl⟩
    obtain ⟨K, Bd, M, C, T, E⟩ := R
    have HR := Lib.hid hR
    have HZ := Lib.hid (nextR_zero L)
    have HC := Lib.hid (nextR_cases L)
    rw [hR] at HZ HC
    clear hR
    dsimp only at HZ HC
    rcases Nat.eq_or_lt_of_le (show p ≤ c by omega) with hpc | hpc
    · subst hpc
      rw [if_pos rfl] at hAD
      rw [Nat.sub_self] at hcD
      subst hAD hcD
      go_wp2_with fail
      refine (refNext _ nD 0 L _ ((hDD.below hb).more hb.size) hncD (by omega)).mono ?_
      rintro _ w1 ⟨A3, n3, c3, A4, n4, c4, rfl, hnc3, o3, o4, b1, hfr⟩
      rw [HR.out] at o3 o4 ⊢
      dsimp only at o3 o4 ⊢
      have b2 := (btr hb b1 hb.size).alloc (btr hb b1 hb.size).size (.cells #[.int .i64 C, .int .i64 T, .slice A4 n4 c4] 29)
      have k2 := b1.alloc b1.size (.cells #[.int .i64 C, .int .i64 T, .slice A4 n4 c4] 29)
      have k3 := (Below.refl w1.heap.size w1).alloc (Nat.le_refl _) (.cells #[.int .i64 C, .int .i64 T, .slice A4 n4 c4] 29)
      have hF := Blk.new w1 29 #[.int .i64 C, .int .i64 T, .slice A4 n4 c4]
      have hB2 := hB.below k2 hB.lt
      have hM2 := hM.call k2
      have r3 := o3.call k3
      have r4 := o4.call k3
      have hs1 := b1.size
      obtain ⟨W, hW⟩ : ∃ W, w1.alloc (.cells #[.int .i64 C, .int .i64 T, .slice A4 n4 c4] 29) = W := ⟨_, rfl⟩
      rw [hW] at hB2 hM2 b2 hF r3 r4
      have hws := b2.size
      have x0 := hF.cell 0
      have x1 := hF.cell 1
      have x2 := hF.cell 2
      have m0 := hB2.cell 0
      have m1 := hB2.cell 1
      have m2 := hB2.cell 2
      have f0 := hB2.frozen 0
      have f1 := hB2.frozen 1
      have f2 := hB2.frozen 2
      have hne : ¬ w1.heap.size = w.heap.size := by have := hB.lt; omega
      by_cases hC : C = 0
      · subst hC
        obtain ⟨rfl, rfl⟩ := HZ.out rfl
        by_cases hM0 : M = 0
        · subst hM0
          have HE := Lib.hid (show F = (ms, (0, 0, []), L) by rw [HHI.out.2, allF_none (by rw [HR.out]) (by rw [HR.out])]; simp)
          have HLL := Lib.hid (show ((n : Int) - (p : Int)) = (L.length : Int) by rw [← hDD.len]; omega)
          go_wp2_with fail
          try rw [hW]
          clear hW
          go_region
          all_goals
            try go_wp2_with fail
            have hBf := ((hB2.set_ 0 (.int .i64 0)).set_ 1 (.int .i64 0)).set_ 2 (.slice A4 n4 c4)
            have bf := ((b2.setCell (p := ⟨w.heap.size, 0, none⟩) (Nat.le_refl _) (.int .i64 0)).setCell (p := ⟨w.heap.size, 1, none⟩) (Nat.le_refl _) (.int .i64 0)).setCell (p := ⟨w.heap.size, 2, none⟩) (Nat.le_refl _) (.slice A4 n4 c4)
            have hgf := only_setCell (only_setCell (only_setCell (World.grownBy.refl W (some w.heap.size)) (p := ⟨w.heap.size, 0, none⟩) (.inl rfl) (.int .i64 0)) (p := ⟨w.heap.size, 1, none⟩) (.inl rfl) (.int .i64 0)) (p := ⟨w.heap.size, 2, none⟩) (.inl rfl) (.slice A4 n4 c4)
            refine bodyPost_ret (all_ret rfl _ _ w.heap.size (.int .i64 0) (.int .i64 0) (.slice A4 n4 c4) rfl (Blk.drew (by simpa using hBf))) rfl ?_
            rw [HE.out]
            exact ⟨A1, n1, c1, A4, n4, c4, by rw [← HLL.out]; rfl, ((hM2.at_ hB2 (by decide) flt_no' (only_drew hgf))).low (Nat.le_succ _), r4.grownAt (only_drew hgf) (r4.apart hB2 flt_no'), below_dr bf⟩
        · obtain ⟨m, rfl⟩ : ∃ m : Nat, M = m := Int.eq_ofNat_of_zero_le (by rcases HC.out with h | h | h <;> omega)
          have hmL : 19 ≤ m ∧ m ≤ nD := by
            have := hDD.len
            rcases HC.out with h | h | h
            · exact absurd h.2 hM0
            · exact absurd h.2 hM0
            · omega
          have HM := Lib.hid hmL
          have hpm : p + m ≤ 5000 := by omega
          have hm0 : ((m : Int) == 0) = false := by simpa using (by omega : ¬ m = 0)
          have hm1 : ¬ m = 0 := by omega
          have HD2 := Lib.hid (show L.drop m = l.drop (p + m) by rw [← HL.out, List.drop_drop])
          have HE := Lib.hid (show F = ((ms ++ [(K, Bd)]) ++ (allF (L.drop m)).1, (allF (L.drop m)).2) by rw [HHI.out.2, allF_msg (by rw [HR.out]; exact hM0), HR.out]; simp)
          have HFAR := Lib.hid (show 0 < n3 → ∀ ad, A3 = some ad → some ad.block ≠ Value.ownBlock (.slice A1 n1 c1) from fun h0 ad he hown => by
            obtain ⟨a0, he0, hab⟩ := hfr h0 ad he
            have hk := (hM.own_lt _ hown.symm).1
            rcases hfar a0 he0 with h | h <;> omega)
          clear hmL hM0
          have k4 := (Below.refl W.heap.size W).alloc (Nat.le_refl _) (.cells #[.int .i64 K, .slice A3 n3 c3] 89)
          have hM4 := hM2.call k4
          have r5 := r3.call k4
          have hB4 := hB2.below k4 hB2.lt
          have b4 := btr b2 k4 b2.size
          have hR2 := Reads.two W 89 (.int .i64 K) (.slice A3 n3 c3) rfl
          have HML := Lib.hid (show ms.length ≤ 100000 by rw [HHI.out.1]; have := HKP.out; have := HP.out; omega)
          go_wp2_with (first
            | (at_builtin; refine wpl_appM rfl (.tmp 40) (.tmp 44) _ rfl Tryd.underlying83 msginfo (w.heap.size + 1) A1 n1 c1 ms (by rfl) hM4 _ _ _ (by rfl) K A3 n3 c3 Bd hR2 r5 HFAR.out HML.out (by simp; omega) ?_; intro A5 c5 w5 o5 b5 g5 _; have b25 := b4.trans (b5.mono (Nat.le_succ _)); have hB5 := hB4.below b5 (Nat.lt_succ_self _)))
          go_roundw
          case rel => exact ⟨k + 1, p + m, ms ++ [(K, Bd)], A5, n1 + 1, c5, by have := HM.out; have := HP.out; omega, by have := HM.out; have := HKP.out; omega, by go_num, by have := HM.out; have := HP.out; go_num, rfl, o5, hB5, b25, Lib.hid ⟨by simp [HHI.out.1], by rw [← HD2.out]; exact HE.out⟩⟩
          case measure => have := HM.out; have := HP.out; have := HKP.out; simp [intOf]; omega
      · have hM0 : M = 0 := by rcases HC.out with h | h | h; exact h.2; exact h.2; exact absurd h.1 hC
        have HE := Lib.hid (show F = (ms, (C, T, E), []) by rw [HHI.out.2, allF_fault (by rw [HR.out]; exact hC), HR.out]; simp)
        have hc : (C != 0) = true := by simpa using hC
        go_wp2_with fail
        try rw [hW]
        clear hW
        go_region
        all_goals
          try go_wp2_with fail
          have hBf := ((hB2.set_ 0 (.int .i64 C)).set_ 1 (.int .i64 T)).set_ 2 (.slice A4 n4 c4)
          have bf := ((b2.setCell (p := ⟨w.heap.size, 0, none⟩) (Nat.le_refl _) (.int .i64 C)).setCell (p := ⟨w.heap.size, 1, none⟩) (Nat.le_refl _) (.int .i64 T)).setCell (p := ⟨w.heap.size, 2, none⟩) (Nat.le_refl _) (.slice A4 n4 c4)
          have hgf := only_setCell (only_setCell (only_setCell (World.grownBy.refl W (some w.heap.size)) (p := ⟨w.heap.size, 0, none⟩) (.inl rfl) (.int .i64 C)) (p := ⟨w.heap.size, 1, none⟩) (.inl rfl) (.int .i64 T)) (p := ⟨w.heap.size, 2, none⟩) (.inl rfl) (.slice A4 n4 c4)
          refine bodyPost_ret (all_ret rfl _ _ w.heap.size (.int .i64 C) (.int .i64 T) (.slice A4 n4 c4) rfl (Blk.drew (by simpa using hBf))) rfl ?_
          rw [HE.out]
          exact ⟨A1, n1, c1, A4, n4, c4, rfl, ((hM2.at_ hB2 (by decide) flt_no' (only_drew hgf))).low (Nat.le_succ _), r4.grownAt (only_drew hgf) (r4.apart hB2 flt_no'), below_dr bf⟩
    · have hpc' : ¬ c = p := by omega
      rw [if_neg hpc'] at hAD
      go_wp2_with fail
      refine (refNext AD nD cD L _ ((hDD.below hb).more hb.size) hncD (by omega)).mono ?_
      rintro _ w1 ⟨A3, n3, c3, A4, n4, c4, rfl, hnc3, o3, o4, b1, hfr⟩
      rw [HR.out] at o3 o4 ⊢
      dsimp only at o3 o4 ⊢
      have b2 := (btr hb b1 hb.size).alloc (btr hb b1 hb.size).size (.cells #[.int .i64 C, .int .i64 T, .slice A4 n4 c4] 29)
      have k2 := b1.alloc b1.size (.cells #[.int .i64 C, .int .i64 T, .slice A4 n4 c4] 29)
      have k3 := (Below.refl w1.heap.size w1).alloc (Nat.le_refl _) (.cells #[.int .i64 C, .int .i64 T, .slice A4 n4 c4] 29)
      have hF := Blk.new w1 29 #[.int .i64 C, .int .i64 T, .slice A4 n4 c4]
      have hB2 := hB.below k2 hB.lt
      have hM2 := hM.call k2
      have r3 := o3.call k3
      have r4 := o4.call k3
      have hs1 := b1.size
      obtain ⟨W, hW⟩ : ∃ W, w1.alloc (.cells #[.int .i64 C, .int .i64 T, .slice A4 n4 c4] 29) = W := ⟨_, rfl⟩
      rw [hW] at hB2 hM2 b2 hF r3 r4
      have hws := b2.size
      have x0 := hF.cell 0
      have x1 := hF.cell 1
      have x2 := hF.cell 2
      have m0 := hB2.cell 0
      have m1 := hB2.cell 1
      have m2 := hB2.cell 2
      have f0 := hB2.frozen 0
      have f1 := hB2.frozen 1
      have f2 := hB2.frozen 2
      have hne : ¬ w1.heap.size = w.heap.size := by have := hB.lt; omega
      by_cases hC : C = 0
      · subst hC
        obtain ⟨rfl, rfl⟩ := HZ.out rfl
        by_cases hM0 : M = 0
        · subst hM0
          have HE := Lib.hid (show F = (ms, (0, 0, []), L) by rw [HHI.out.2, allF_none (by rw [HR.out]) (by rw [HR.out])]; simp)
          have HLL := Lib.hid (show ((n : Int) - (p : Int)) = (L.length : Int) by rw [← hDD.len]; omega)
          go_wp2_with fail
          try rw [hW]
          clear hW
          go_region
          all_goals
            try go_wp2_with fail
            have hBf := ((hB2.set_ 0 (.int .i64 0)).set_ 1 (.int .i64 0)).set_ 2 (.slice A4 n4 c4)
            have bf := ((b2.setCell (p := ⟨w.heap.size, 0, none⟩) (Nat.le_refl _) (.int .i64 0)).setCell (p := ⟨w.heap.size, 1, none⟩) (Nat.le_refl _) (.int .i64 0)).setCell (p := ⟨w.heap.size, 2, none⟩) (Nat.le_refl _) (.slice A4 n4 c4)
            have hgf := only_setCell (only_setCell (only_setCell (World.grownBy.refl W (some w.heap.size)) (p := ⟨w.heap.size, 0, none⟩) (.inl rfl) (.int .i64 0)) (p := ⟨w.heap.size, 1, none⟩) (.inl rfl) (.int .i64 0)) (p := ⟨w.heap.size, 2, none⟩) (.inl rfl) (.slice A4 n4 c4)
            refine bodyPost_ret (all_ret rfl _ _ w.heap.size (.int .i64 0) (.int .i64 0) (.slice A4 n4 c4) rfl (Blk.drew (by simpa using hBf))) rfl ?_
            rw [HE.out]
            exact ⟨A1, n1, c1, A4, n4, c4, by rw [← HLL.out]; rfl, ((hM2.at_ hB2 (by decide) flt_no' (only_drew hgf))).low (Nat.le_succ _), r4.grownAt (only_drew hgf) (r4.apart hB2 flt_no'), below_dr bf⟩
        · obtain ⟨m, rfl⟩ : ∃ m : Nat, M = m := Int.eq_ofNat_of_zero_le (by rcases HC.out with h | h | h <;> omega)
          have hmL : 19 ≤ m ∧ m ≤ nD := by
            have := hDD.len
            rcases HC.out with h | h | h
            · exact absurd h.2 hM0
            · exact absurd h.2 hM0
            · omega
          have HM := Lib.hid hmL
          have hpm : p + m ≤ 5000 := by omega
          have hm0 : ((m : Int) == 0) = false := by simpa using (by omega : ¬ m = 0)
          have hm1 : ¬ m = 0 := by omega
          have HD2 := Lib.hid (show L.drop m = l.drop (p + m) by rw [← HL.out, List.drop_drop])
          have HE := Lib.hid (show F = ((ms ++ [(K, Bd)]) ++ (allF (L.drop m)).1, (allF (L.drop m)).2) by rw [HHI.out.2, allF_msg (by rw [HR.out]; exact hM0), HR.out]; simp)
          have HFAR := Lib.hid (show 0 < n3 → ∀ ad, A3 = some ad → some ad.block ≠ Value.ownBlock (.slice A1 n1 c1) from fun h0 ad he hown => by
            obtain ⟨a0, he0, hab⟩ := hfr h0 ad he
            have hk := (hM.own_lt _ hown.symm).1
            rcases hfar a0 he0 with h | h <;> omega)
          clear hmL hM0
          have k4 := (Below.refl W.heap.size W).alloc (Nat.le_refl _) (.cells #[.int .i64 K, .slice A3 n3 c3] 89)
          have hM4 := hM2.call k4
          have r5 := r3.call k4
          have hB4 := hB2.below k4 hB2.lt
          have b4 := btr b2 k4 b2.size
          have hR2 := Reads.two W 89 (.int .i64 K) (.slice A3 n3 c3) rfl
          have HML := Lib.hid (show ms.length ≤ 100000 by rw [HHI.out.1]; have := HKP.out; have := HP.out; omega)
          go_wp2_with (first
            | (at_builtin; refine wpl_appM rfl (.tmp 40) (.tmp 44) _ rfl Tryd.underlying83 msginfo (w.heap.size + 1) A1 n1 c1 ms (by rfl) hM4 _ _ _ (by rfl) K A3 n3 c3 Bd hR2 r5 HFAR.out HML.out (by simp; omega) ?_; intro A5 c5 w5 o5 b5 g5 _; have b25 := b4.trans (b5.mono (Nat.le_succ _)); have hB5 := hB4.below b5 (Nat.lt_succ_self _)))
          go_roundw
          case rel => exact ⟨k + 1, p + m, ms ++ [(K, Bd)], A5, n1 + 1, c5, by have := HM.out; have := HP.out; omega, by have := HM.out; have := HKP.out; omega, by go_num, by have := HM.out; have := HP.out; go_num, rfl, o5, hB5, b25, Lib.hid ⟨by simp [HHI.out.1], by rw [← HD2.out]; exact HE.out⟩⟩
          case measure => have := HM.out; have := HP.out; have := HKP.out; simp [intOf]; omega
      · have hM0 : M = 0 := by rcases HC.out with h | h | h; exact h.2; exact h.2; exact absurd h.1 hC
        have HE := Lib.hid (show F = (ms, (C, T, E), []) by rw [HHI.out.2, allF_fault (by rw [HR.out]; exact hC), HR.out]; simp)
        have hc : (C != 0) = true := by simpa using hC
        go_wp2_with fail
        try rw [hW]
        clear hW
        go_region
        all_goals
          try go_wp2_with fail
          have hBf := ((hB2.set_ 0 (.int .i64 C)).set_ 1 (.int .i64 T)).set_ 2 (.slice A4 n4 c4)
          have bf := ((b2.setCell (p := ⟨w.heap.size, 0, none⟩) (Nat.le_refl _) (.int .i64 C)).setCell (p := ⟨w.heap.size, 1, none⟩) (Nat.le_refl _) (.int .i64 T)).setCell (p := ⟨w.heap.size, 2, none⟩) (Nat.le_refl _) (.slice A4 n4 c4)
          have hgf := only_setCell (only_setCell (only_setCell (World.grownBy.refl W (some w.heap.size)) (p := ⟨w.heap.size, 0, none⟩) (.inl rfl) (.int .i64 C)) (p := ⟨w.heap.size, 1, none⟩) (.inl rfl) (.int .i64 T)) (p := ⟨w.heap.size, 2, none⟩) (.inl rfl) (.slice A4 n4 c4)
          refine bodyPost_ret (all_ret rfl _ _ w.heap.size (.int .i64 C) (.int .i64 T) (.slice A4 n4 c4) rfl (Blk.drew (by simpa using hBf))) rfl ?_
          rw [HE.out]
          exact ⟨A1, n1, c1, A4, n4, c4, rfl, ((hM2.at_ hB2 (by decide) flt_no' (only_drew hgf))).low (Nat.le_succ _), r4.grownAt (only_drew hgf) (r4.apart hB2 flt_no'), below_dr bf⟩
end Go.Proofs.YtdcldmblgbefnaaDoor
