/- Walks of layer 7 (frame): the document's Next, of bytes that begin with a marker. No conditions but sizes. -/
import Derived.Test.YtdcldmblgbefnaaDoorProg
import Derived.WalkKit
import Derived.WalkSpells
import Derived.WalkLawsBesides
import Derived.Outline
import Derived.Deep.QuietTactic
import Derived.BigQuiet
import Derived.Handy
import Derived.Lib.Hide
import Derived.Deep.RegionHeld
import Derived.Test.YtdcldmblgbefnaaDoorRefNext
namespace Go.Proofs.YtdcldmblgbefnaaDoor
open Go.RowKit
set_option maxHeartbeats 8000000 in
set_option maxRecDepth 100000 in
theorem refNextOk (b off n c : Nat) (l : List UInt8) (w : World) (h : BS w w.heap.size (some ⟨b, off, none⟩) n l) (hnc : n ≤ c) (hn : n ≤ 100000) (h19 : 19 ≤ n) (hbw : b < w.heap.size) (v16 v17 v18 : Nat)
    (hc16 : w.cell? ⟨b, off + 16, none⟩ = some (.int .u8 (v16 : Int))) (hc17 : w.cell? ⟨b, off + 17, none⟩ = some (.int .u8 (v17 : Int))) (hc18 : w.cell? ⟨b, off + 18, none⟩ = some (.int .u8 (v18 : Int)))
    (hv16 : v16 < 256) (hv17 : v17 < 256) (hv18 : v18 < 256) (hm : ∀ i, i < 16 → lb l i = 255) (N : Int) (hN : N = 256 * (v16 : Int) + v17) (Y : Int) (hY : Hid (leastOf (v18 : Int) = Y))
    (HR0 : Hid (nextR l = (if (headR l).2.2.1 ≠ 0 ∨ (n : Int) < (headR l).1 then (0, [], 0, (headR l).2.2.1, (headR l).2.2.2.1, (headR l).2.2.2.2) else ((headR l).2.1, (l.drop 19).take ((headR l).1.toNat - 19), (headR l).1, 0, 0, []))))
    (HH0 : Hid (headR l = (if N < 19 ∨ 4096 < N then (0, 0, 1, 2, [ub (v16 : Int), ub (v17 : Int)])
        else if Y = 0 then (0, 0, 1, 3, [ub (v18 : Int)])
        else if N < Y ∨ ((v18 : Int) = 4 ∧ N ≠ Y) then (0, 0, 1, 2, [ub (v16 : Int), ub (v17 : Int)])
        else (N, (v18 : Int), 0, 0, [])))) (hY4 : (v18 : Int) = 4 → Y = 19) (HX : Hid (¬ (N < 19 ∨ 4096 < N ∨ Y = 0 ∨ N < Y ∨ ((v18 : Int) = 4 ∧ N ≠ Y) ∨ (n : Int) < N))) :
    Calls Tryd.prog 64 #[.slice (some ⟨b, off, none⟩) n c] w (NxPost w (nextR l) fun A' => ∀ ad, A' = some ad → ad.block = b) := by
  have b0 := ((Below.refl w.heap.size w).alloc (Nat.le_refl _) (.cells #[.int .i64 0, .int .i64 0, .slice none 0 0] 29)).alloc (by simp) (.cells #[.int .i64 0, .int .i64 0, .slice none 0 0] 29)
  have h19i : (19 : Int) ≤ n := by omega
  have h19c : (19 : Int) ≤ c := by omega
  have h16i : (16 : Int) < n := by omega
  have h17i : (17 : Int) < n := by omega
  have h18i : (18 : Int) < n := by omega
  have HM := Lib.hid hm
  have hw1 : IntKind.i64.wrap (v16 : Int) = v16 := IntWalk.i64_in _ ⟨by omega, by omega⟩
  have hw2 : IntKind.i64.wrap (v17 : Int) = v17 := IntWalk.i64_in _ ⟨by omega, by omega⟩
  have hw3 : IntKind.i64.wrap (v18 : Int) = v18 := IntWalk.i64_in _ ⟨by omega, by omega⟩
  have hw4 : IntKind.i64.wrap (256 * (v16 : Int)) = 256 * (v16 : Int) := IntWalk.i64_in _ ⟨by omega, by omega⟩
  have hw5 : IntKind.i64.wrap (256 * (v16 : Int) + v17) = N := by rw [hN]; exact IntWalk.i64_in _ ⟨by omega, by omega⟩
  have hN0 : 0 ≤ N := by omega
  have e16 := (b0.cell (p := ⟨b, off + 16, none⟩) hbw).trans hc16
  have e17 := (b0.cell (p := ⟨b, off + 17, none⟩) hbw).trans hc17
  have e18 := (b0.cell (p := ⟨b, off + 18, none⟩) hbw).trans hc18
  clear hm hN
  go_enter Tryd.func64, Tryd.ntmps64
  go_wp2_with fail
  go_loop [7] (fun i => ∃ j : Nat, j ≤ 16 ∧ i = .int .i64 j) (fun i => 16 - (intOf i).toNat)
  case atStart => exact ⟨0, by omega, rfl⟩
  case round =>
    obtain ⟨j, hj, rfl⟩ := hrel
    by_cases hlt : j < 16
    · have hlti : (j : Int) < 16 := by omega
      obtain ⟨b', off', e, _, hcw⟩ := h.form (k := j) (by omega)
      injection e with e
      injection e with e1 e2 _
      subst e1 e2
      rw [HM.out j hlt] at hcw
      have hcj := (b0.cell (p := ⟨b, off + j, none⟩) hbw).trans hcw
      clear hcw
      have hjn : (j : Int) < n := by omega
      go_wp2_with fail
      go_round
      case rel => exact ⟨j + 1, by omega, by go_num⟩
      case measure => simp [intOf]; omega
    · obtain rfl : j = 16 := by omega
      go_wp2_with fail
      go_quiet (fail)
      go_wp2_with fail
      go_region_held (fun w' => Below w.heap.size w w' ∧ w'.cell? ⟨b, off + 16, none⟩ = some (.int .u8 (v16 : Int)) ∧ w'.cell? ⟨b, off + 17, none⟩ = some (.int .u8 (v17 : Int)) ∧ w'.cell? ⟨b, off + 18, none⟩ = some (.int .u8 (v18 : Int)))
        ((refine k3 hbw hc16 hc17 hc18 ?_; repeat' (first | (with_reducible exact Below.refl _ _) | (with_reducible exact And.left (by with_reducible assumption)) | (with_reducible assumption) | (with_reducible refine below_drewN ?_ _) | (with_reducible refine Below.drew ?_) | (with_reducible refine Below.alloc ?_ ?_ _) | (with_reducible refine Below.setCell ?_ ?_ _) | go_size | (with_reducible exact Below.size (And.left (by with_reducible assumption))))))
        (fail)
      all_goals
        have bQ := below_drewN b0 (nq + 1)
        have hsz : (((w.alloc (.cells #[.int .i64 0, .int .i64 0, .slice none 0 0] 29)).alloc (.cells #[.int .i64 0, .int .i64 0, .slice none 0 0] 29)).drewN (nq + 1)).heap.size = w.heap.size + 1 + 1 := by simp
        have hQ0 := ((Blk.new w 29 #[.int .i64 0, .int .i64 0, .slice none 0 0]).alloc (.cells #[.int .i64 0, .int .i64 0, .slice none 0 0] 29)).drewN (nq + 1)
        have hQ6 := (Blk.new (w.alloc (.cells #[.int .i64 0, .int .i64 0, .slice none 0 0] 29)) 29 #[.int .i64 0, .int .i64 0, .slice none 0 0]).drewN (nq + 1)
        rw [World.size_alloc] at hQ6
        obtain ⟨Q, hQ⟩ : ∃ Q, ((w.alloc (.cells #[.int .i64 0, .int .i64 0, .slice none 0 0] 29)).alloc (.cells #[.int .i64 0, .int .i64 0, .slice none 0 0] 29)).drewN (nq + 1) = Q := ⟨_, rfl⟩
        rw [hQ] at hsz hQ0 hQ6 bQ ⊢
        clear hQ
        first
          | (obtain ⟨bW, hBW, hB6, hBL, hBD⟩ := rnPack1 hv16 hv17 bQ hsz hQ0 hQ6; obtain ⟨W, hW⟩ : ∃ W, (Q.alloc (.cells #[.int .i64 1, .int .i64 2, .slice (some ⟨w.heap.size + 1 + 1 + 1, 0, none⟩) 2 2] 29)).alloc (.cells #[.int .u8 (v16 : Int), .int .u8 (v17 : Int)] 5) = W := ⟨_, rfl⟩; rw [hW] at bW hBW hB6 hBL hBD ⊢; clear hW; obtain ⟨g3, hg3⟩ : ∃ g, w.heap.size + 1 + 1 + 1 = g := ⟨_, rfl⟩; (try rw [hg3] at hBL); (try rw [hg3] at hBD); (try rw [hg3]); obtain ⟨g2, hg2⟩ : ∃ g, w.heap.size + 1 + 1 = g := ⟨_, rfl⟩; (try rw [hg2] at hBL); (try rw [hg2] at hBD); (try rw [hg2]); obtain ⟨gl, hgl⟩ : ∃ g, g2 = g := ⟨_, rfl⟩; obtain ⟨ga, hga⟩ : ∃ g, g3 = g := ⟨_, rfl⟩; rw [hgl, hga] at hBL; rw [hga] at hBD; (try rw [hgl]); (try rw [hga]))
          | (obtain ⟨bW, hBW, hB6, hBL, hBD⟩ := rnPack2 hv16 hv17 bQ hsz hQ0 hQ6; obtain ⟨W, hW⟩ : ∃ W, (Q.alloc (.cells #[.int .u8 (v16 : Int), .int .u8 (v17 : Int)] 5)).alloc (.cells #[.int .i64 1, .int .i64 2, .slice (some ⟨w.heap.size + 1 + 1, 0, none⟩) 2 2] 29) = W := ⟨_, rfl⟩; rw [hW] at bW hBW hB6 hBL hBD ⊢; clear hW; obtain ⟨g3, hg3⟩ : ∃ g, w.heap.size + 1 + 1 + 1 = g := ⟨_, rfl⟩; (try rw [hg3] at hBL); (try rw [hg3] at hBD); (try rw [hg3]); obtain ⟨g2, hg2⟩ : ∃ g, w.heap.size + 1 + 1 = g := ⟨_, rfl⟩; (try rw [hg2] at hBL); (try rw [hg2] at hBD); (try rw [hg2]); obtain ⟨gl, hgl⟩ : ∃ g, g3 = g := ⟨_, rfl⟩; obtain ⟨ga, hga⟩ : ∃ g, g2 = g := ⟨_, rfl⟩; rw [hgl, hga] at hBL; rw [hga] at hBD; (try rw [hgl]); (try rw [hga]))
        have kl0 := hBL.cell 0
        have kl1 := hBL.cell 1
        have kl2 := hBL.cell 2
        have k60 := hB6.cell 0
        have k61 := hB6.cell 1
        have k62 := hB6.cell 2
        have m0 := hBW.cell 0
        have m1 := hBW.cell 1
        have m2 := hBW.cell 2
        have f0 := hBW.frozen 0
        have f1 := hBW.frozen 1
        have f2 := hBW.frozen 2
        have q18 := (bW.cell (p := ⟨b, off + 18, none⟩) hbw).trans hc18
        clear e16 e17 e18 hc16 hc17
        by_cases c1 : N < 19
        · exfalso
          have := HX.out
          omega
        by_cases c2 : 4096 < N
        · exfalso
          have := HX.out
          omega
        by_cases c3 : Y = 0
        · exfalso
          have := HX.out
          omega
        by_cases c4 : N < Y
        · exfalso
          have := HX.out
          omega
        by_cases c5 : (v18 : Int) = 4 ∧ N ≠ Y
        · exfalso
          have := HX.out
          omega
        by_cases c8 : (n : Int) < N
        · by_cases c6 : (v18 : Int) = 4
          · exfalso
            have := hY4 c6
            omega
          · exfalso
            have := HX.out
            omega
        by_cases c6 : (v18 : Int) = 4
        · have hy : (Y == 0) = false := by simpa using c3
          have HHok := Lib.hid (show headR l = (N, (v18 : Int), 0, 0, []) by rw [HH0.out, if_neg (by omega), if_neg c3, if_neg (by omega)])
          have HR := Lib.hid (show nextR l = ((v18 : Int), (l.drop 19).take (N.toNat - 19), N, 0, 0, []) by rw [HR0.out, HHok.out, if_neg (by simp; omega)])
          have hk4 : ((v18 : Int) == 4) = true := by simpa using c6
          have h19N : ¬ 19 < N := by have := hY4 c6; omega
          have h19N' : N ≤ 19 := by omega
          clear c6
          obtain ⟨m, rfl⟩ := Int.eq_ofNat_of_zero_le hN0
          have hge : (m : Int) ≤ n := by omega
          have hge2 : (m : Int) ≤ c := by omega
          have hge3 : (19 : Int) ≤ m := by omega
          have hmn : m ≤ n := by omega
          have hP := (h.drop_ (k := 19) (by omega) hnc).take_ (k := m - 19) (by omega)
          by_cases hc19 : c = 19
          · subst hc19
            obtain rfl : m = 19 := by omega
            obtain rfl : n = 19 := by omega
            rw [if_pos rfl] at hP
            have HP := Lib.hid hP
            clear hP
            go_wp2_with fail
            refine (refLeast (v18 : Int) _).mono ?_
            rw [hY.out]
            rintro _ _ ⟨rfl, rfl⟩
            go_wp2_with fail
            refine (refLeast (v18 : Int) _).mono ?_
            rw [hY.out]
            rintro _ _ ⟨rfl, rfl⟩
            go_wp2_with fail
            go_region
            all_goals
              try go_wp2_with fail
              have hBf := ((hBW.set_ 0 (.int .i64 0)).set_ 1 (.int .i64 0)).set_ 2 (.slice none 0 0)
              have bf := ((bW.setCell (p := ⟨w.heap.size, 0, none⟩) (Nat.le_refl _) (.int .i64 0)).setCell (p := ⟨w.heap.size, 1, none⟩) (Nat.le_refl _) (.int .i64 0)).setCell (p := ⟨w.heap.size, 2, none⟩) (Nat.le_refl _) (.slice none 0 0)
              have hgf := only_setCell (only_setCell (only_setCell (World.grownBy.refl W (some w.heap.size)) (p := ⟨w.heap.size, 0, none⟩) (.inl rfl) (.int .i64 0)) (p := ⟨w.heap.size, 1, none⟩) (.inl rfl) (.int .i64 0)) (p := ⟨w.heap.size, 2, none⟩) (.inl rfl) (.slice none 0 0)
              refine bodyPost_ret (next_ret rfl _ _ w.heap.size (.int .i64 0) (.int .i64 0) (.slice none 0 0) rfl (Blk.drew (by simpa using hBf))) rfl ?_
              rw [HR.out]
              exact ⟨_, _, _, none, 0, 0, rfl, by omega, (HP.out.below bf).more bf.size, BS.none_, below_dr bf, by intro _ ad he; cases he; rfl⟩
          · rw [if_neg hc19] at hP
            have HP := Lib.hid hP
            clear hP
            go_wp2_with fail
            refine (refLeast (v18 : Int) _).mono ?_
            rw [hY.out]
            rintro _ _ ⟨rfl, rfl⟩
            go_wp2_with fail
            refine (refLeast (v18 : Int) _).mono ?_
            rw [hY.out]
            rintro _ _ ⟨rfl, rfl⟩
            go_wp2_with fail
            go_region
            all_goals
              try go_wp2_with fail
              have hBf := ((hBW.set_ 0 (.int .i64 0)).set_ 1 (.int .i64 0)).set_ 2 (.slice none 0 0)
              have bf := ((bW.setCell (p := ⟨w.heap.size, 0, none⟩) (Nat.le_refl _) (.int .i64 0)).setCell (p := ⟨w.heap.size, 1, none⟩) (Nat.le_refl _) (.int .i64 0)).setCell (p := ⟨w.heap.size, 2, none⟩) (Nat.le_refl _) (.slice none 0 0)
              have hgf := only_setCell (only_setCell (only_setCell (World.grownBy.refl W (some w.heap.size)) (p := ⟨w.heap.size, 0, none⟩) (.inl rfl) (.int .i64 0)) (p := ⟨w.heap.size, 1, none⟩) (.inl rfl) (.int .i64 0)) (p := ⟨w.heap.size, 2, none⟩) (.inl rfl) (.slice none 0 0)
              refine bodyPost_ret (next_ret rfl _ _ w.heap.size (.int .i64 0) (.int .i64 0) (.slice none 0 0) rfl (Blk.drew (by simpa using hBf))) rfl ?_
              rw [HR.out]
              exact ⟨_, _, _, none, 0, 0, rfl, by omega, (HP.out.below bf).more bf.size, BS.none_, below_dr bf, by intro _ ad he; cases he; rfl⟩
        have hy : (Y == 0) = false := by simpa using c3
        have HHok := Lib.hid (show headR l = (N, (v18 : Int), 0, 0, []) by rw [HH0.out, if_neg (by omega), if_neg c3, if_neg (by omega)])
        have HR := Lib.hid (show nextR l = ((v18 : Int), (l.drop 19).take (N.toNat - 19), N, 0, 0, []) by rw [HR0.out, HHok.out, if_neg (by simp; omega)])
        have hk4 : ((v18 : Int) == 4) = false := by simpa using c6
        clear c6
        obtain ⟨m, rfl⟩ := Int.eq_ofNat_of_zero_le hN0
        have hge : (m : Int) ≤ n := by omega
        have hge2 : (m : Int) ≤ c := by omega
        have hge3 : (19 : Int) ≤ m := by omega
        have hmn : m ≤ n := by omega
        have hP := (h.drop_ (k := 19) (by omega) hnc).take_ (k := m - 19) (by omega)
        by_cases hc19 : c = 19
        · subst hc19
          obtain rfl : m = 19 := by omega
          obtain rfl : n = 19 := by omega
          rw [if_pos rfl] at hP
          have HP := Lib.hid hP
          clear hP
          go_wp2_with fail
          refine (refLeast (v18 : Int) _).mono ?_
          rw [hY.out]
          rintro _ _ ⟨rfl, rfl⟩
          go_wp2_with fail
          refine (refLeast (v18 : Int) _).mono ?_
          rw [hY.out]
          rintro _ _ ⟨rfl, rfl⟩
          go_wp2_with fail
          go_region
          all_goals
            try go_wp2_with fail
            have hBf := ((hBW.set_ 0 (.int .i64 0)).set_ 1 (.int .i64 0)).set_ 2 (.slice none 0 0)
            have bf := ((bW.setCell (p := ⟨w.heap.size, 0, none⟩) (Nat.le_refl _) (.int .i64 0)).setCell (p := ⟨w.heap.size, 1, none⟩) (Nat.le_refl _) (.int .i64 0)).setCell (p := ⟨w.heap.size, 2, none⟩) (Nat.le_refl _) (.slice none 0 0)
            have hgf := only_setCell (only_setCell (only_setCell (World.grownBy.refl W (some w.heap.size)) (p := ⟨w.heap.size, 0, none⟩) (.inl rfl) (.int .i64 0)) (p := ⟨w.heap.size, 1, none⟩) (.inl rfl) (.int .i64 0)) (p := ⟨w.heap.size, 2, none⟩) (.inl rfl) (.slice none 0 0)
            refine bodyPost_ret (next_ret rfl _ _ w.heap.size (.int .i64 0) (.int .i64 0) (.slice none 0 0) rfl (Blk.drew (by simpa using hBf))) rfl ?_
            rw [HR.out]
            exact ⟨_, _, _, none, 0, 0, rfl, by omega, (HP.out.below bf).more bf.size, BS.none_, below_dr bf, by intro _ ad he; cases he; rfl⟩
        · rw [if_neg hc19] at hP
          have HP := Lib.hid hP
          clear hP
          go_wp2_with fail
          refine (refLeast (v18 : Int) _).mono ?_
          rw [hY.out]
          rintro _ _ ⟨rfl, rfl⟩
          go_wp2_with fail
          refine (refLeast (v18 : Int) _).mono ?_
          rw [hY.out]
          rintro _ _ ⟨rfl, rfl⟩
          go_wp2_with fail
          go_region
          all_goals
            try go_wp2_with fail
            have hBf := ((hBW.set_ 0 (.int .i64 0)).set_ 1 (.int .i64 0)).set_ 2 (.slice none 0 0)
            have bf := ((bW.setCell (p := ⟨w.heap.size, 0, none⟩) (Nat.le_refl _) (.int .i64 0)).setCell (p := ⟨w.heap.size, 1, none⟩) (Nat.le_refl _) (.int .i64 0)).setCell (p := ⟨w.heap.size, 2, none⟩) (Nat.le_refl _) (.slice none 0 0)
            have hgf := only_setCell (only_setCell (only_setCell (World.grownBy.refl W (some w.heap.size)) (p := ⟨w.heap.size, 0, none⟩) (.inl rfl) (.int .i64 0)) (p := ⟨w.heap.size, 1, none⟩) (.inl rfl) (.int .i64 0)) (p := ⟨w.heap.size, 2, none⟩) (.inl rfl) (.slice none 0 0)
            refine bodyPost_ret (next_ret rfl _ _ w.heap.size (.int .i64 0) (.int .i64 0) (.slice none 0 0) rfl (Blk.drew (by simpa using hBf))) rfl ?_
            rw [HR.out]
            exact ⟨_, _, _, none, 0, 0, rfl, by omega, (HP.out.below bf).more bf.size, BS.none_, below_dr bf, by intro _ ad he; cases he; rfl⟩
end Go.Proofs.YtdcldmblgbefnaaDoor
