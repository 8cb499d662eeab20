/- Walks of layer 7 (frame): the document's Next, of bytes that begin with a marker. No conditions but sizes. -/
import Derived.Test.YtdcldmblgbefnaaDoorProg
import Derived.WalkKit
import Derived.WalkSpells
import Derived.WalkLawsBesides
import Derived.Outline
import Derived.Deep.QuietTactic
import Derived.BigQuiet
import Derived.Handy
import Derived.Lib.Hide
import Derived.Deep.RegionHeld
import Derived.Test.YtdcldmblgbefnaaDoorNext
namespace Go.Proofs.YtdcldmblgbefnaaDoor
open Go.RowKit
theorem k3 {w W : World} {b : Nat} {i j k : Nat} {x y z : Value} (hb : b < w.heap.size) (h0 : w.cell? ⟨b, i, none⟩ = some x) (h1 : w.cell? ⟨b, j, none⟩ = some y) (h2 : w.cell? ⟨b, k, none⟩ = some z) (h : Below w.heap.size w W) :
    Below w.heap.size w W ∧ W.cell? ⟨b, i, none⟩ = some x ∧ W.cell? ⟨b, j, none⟩ = some y ∧ W.cell? ⟨b, k, none⟩ = some z :=
  ⟨h, (h.cell hb).trans h0, (h.cell hb).trans h1, (h.cell hb).trans h2⟩
theorem BS.two (w : World) (x y : Int) (h0 : 0 ≤ x) (h1 : x ≤ 255) (h2 : 0 ≤ y) (h3 : y ≤ 255) : BS (w.alloc (.cells #[.int .u8 x, .int .u8 y] 5)) (w.heap.size + 1) (some ⟨w.heap.size, 0, none⟩) 2 [ub x, ub y] := by
  have := BS.lit w 5 [ub x, ub y]
  simpa [bv, ub_toNat h0 h1, ub_toNat h2 h3] using this
theorem rnPack1 {w Q : World} {v16 v17 : Nat} (hv16 : v16 < 256) (hv17 : v17 < 256) (bQ : Below w.heap.size w Q) (hsz : Q.heap.size = w.heap.size + 1 + 1) (hQ0 : Blk Q w.heap.size 29 #[.int .i64 0, .int .i64 0, .slice none 0 0]) (hQ6 : Blk Q (w.heap.size + 1) 29 #[.int .i64 0, .int .i64 0, .slice none 0 0]) :
    Below w.heap.size w ((Q.alloc (.cells #[.int .i64 1, .int .i64 2, .slice (some ⟨w.heap.size + 1 + 1 + 1, 0, none⟩) 2 2] 29)).alloc (.cells #[.int .u8 (v16 : Int), .int .u8 (v17 : Int)] 5)) ∧ Blk ((Q.alloc (.cells #[.int .i64 1, .int .i64 2, .slice (some ⟨w.heap.size + 1 + 1 + 1, 0, none⟩) 2 2] 29)).alloc (.cells #[.int .u8 (v16 : Int), .int .u8 (v17 : Int)] 5)) w.heap.size 29 #[.int .i64 0, .int .i64 0, .slice none 0 0] ∧ Blk ((Q.alloc (.cells #[.int .i64 1, .int .i64 2, .slice (some ⟨w.heap.size + 1 + 1 + 1, 0, none⟩) 2 2] 29)).alloc (.cells #[.int .u8 (v16 : Int), .int .u8 (v17 : Int)] 5)) (w.heap.size + 1) 29 #[.int .i64 0, .int .i64 0, .slice none 0 0] ∧ Blk ((Q.alloc (.cells #[.int .i64 1, .int .i64 2, .slice (some ⟨w.heap.size + 1 + 1 + 1, 0, none⟩) 2 2] 29)).alloc (.cells #[.int .u8 (v16 : Int), .int .u8 (v17 : Int)] 5)) (w.heap.size + 1 + 1) 29 #[.int .i64 1, .int .i64 2, .slice (some ⟨w.heap.size + 1 + 1 + 1, 0, none⟩) 2 2] ∧ BS ((Q.alloc (.cells #[.int .i64 1, .int .i64 2, .slice (some ⟨w.heap.size + 1 + 1 + 1, 0, none⟩) 2 2] 29)).alloc (.cells #[.int .u8 (v16 : Int), .int .u8 (v17 : Int)] 5)) ((Q.alloc (.cells #[.int .i64 1, .int .i64 2, .slice (some ⟨w.heap.size + 1 + 1 + 1, 0, none⟩) 2 2] 29)).alloc (.cells #[.int .u8 (v16 : Int), .int .u8 (v17 : Int)] 5)).heap.size (some ⟨w.heap.size + 1 + 1 + 1, 0, none⟩) 2 [ub (v16 : Int), ub (v17 : Int)] := by
  have s1 : (Q.alloc (.cells #[.int .i64 1, .int .i64 2, .slice (some ⟨w.heap.size + 1 + 1 + 1, 0, none⟩) 2 2] 29)).heap.size = w.heap.size + 1 + 1 + 1 := by simp [hsz]
  refine ⟨(bQ.alloc bQ.size _).alloc (by rw [s1]; omega) _, (hQ0.alloc _).alloc _, (hQ6.alloc _).alloc _, ?_, ?_⟩
  · have hx := (Blk.new Q 29 #[.int .i64 1, .int .i64 2, .slice (some ⟨w.heap.size + 1 + 1 + 1, 0, none⟩) 2 2]).alloc (.cells #[.int .u8 (v16 : Int), .int .u8 (v17 : Int)] 5)
    rw [hsz] at hx
    exact hx
  · have hx := BS.two (Q.alloc (.cells #[.int .i64 1, .int .i64 2, .slice (some ⟨w.heap.size + 1 + 1 + 1, 0, none⟩) 2 2] 29)) (v16 : Int) (v17 : Int) (by omega) (by omega) (by omega) (by omega)
    rw [s1] at hx
    exact hx.more (by simp [hsz])
theorem rnPack2 {w Q : World} {v16 v17 : Nat} (hv16 : v16 < 256) (hv17 : v17 < 256) (bQ : Below w.heap.size w Q) (hsz : Q.heap.size = w.heap.size + 1 + 1) (hQ0 : Blk Q w.heap.size 29 #[.int .i64 0, .int .i64 0, .slice none 0 0]) (hQ6 : Blk Q (w.heap.size + 1) 29 #[.int .i64 0, .int .i64 0, .slice none 0 0]) :
    Below w.heap.size w ((Q.alloc (.cells #[.int .u8 (v16 : Int), .int .u8 (v17 : Int)] 5)).alloc (.cells #[.int .i64 1, .int .i64 2, .slice (some ⟨w.heap.size + 1 + 1, 0, none⟩) 2 2] 29)) ∧ Blk ((Q.alloc (.cells #[.int .u8 (v16 : Int), .int .u8 (v17 : Int)] 5)).alloc (.cells #[.int .i64 1, .int .i64 2, .slice (some ⟨w.heap.size + 1 + 1, 0, none⟩) 2 2] 29)) w.heap.size 29 #[.int .i64 0, .int .i64 0, .slice none 0 0] ∧ Blk ((Q.alloc (.cells #[.int .u8 (v16 : Int), .int .u8 (v17 : Int)] 5)).alloc (.cells #[.int .i64 1, .int .i64 2, .slice (some ⟨w.heap.size + 1 + 1, 0, none⟩) 2 2] 29)) (w.heap.size + 1) 29 #[.int .i64 0, .int .i64 0, .slice none 0 0] ∧ Blk ((Q.alloc (.cells #[.int .u8 (v16 : Int), .int .u8 (v17 : Int)] 5)).alloc (.cells #[.int .i64 1, .int .i64 2, .slice (some ⟨w.heap.size + 1 + 1, 0, none⟩) 2 2] 29)) (w.heap.size + 1 + 1 + 1) 29 #[.int .i64 1, .int .i64 2, .slice (some ⟨w.heap.size + 1 + 1, 0, none⟩) 2 2] ∧ BS ((Q.alloc (.cells #[.int .u8 (v16 : Int), .int .u8 (v17 : Int)] 5)).alloc (.cells #[.int .i64 1, .int .i64 2, .slice (some ⟨w.heap.size + 1 + 1, 0, none⟩) 2 2] 29)) ((Q.alloc (.cells #[.int .u8 (v16 : Int), .int .u8 (v17 : Int)] 5)).alloc (.cells #[.int .i64 1, .int .i64 2, .slice (some ⟨w.heap.size + 1 + 1, 0, none⟩) 2 2] 29)).heap.size (some ⟨w.heap.size + 1 + 1, 0, none⟩) 2 [ub (v16 : Int), ub (v17 : Int)] := by
  have s1 : (Q.alloc (.cells #[.int .u8 (v16 : Int), .int .u8 (v17 : Int)] 5)).heap.size = w.heap.size + 1 + 1 + 1 := by simp [hsz]
  refine ⟨(bQ.alloc bQ.size _).alloc (by rw [s1]; omega) _, (hQ0.alloc _).alloc _, (hQ6.alloc _).alloc _, ?_, ?_⟩
  · have hx := Blk.new (Q.alloc (.cells #[.int .u8 (v16 : Int), .int .u8 (v17 : Int)] 5)) 29 #[.int .i64 1, .int .i64 2, .slice (some ⟨w.heap.size + 1 + 1, 0, none⟩) 2 2]
    rw [s1] at hx
    exact hx
  · have hx := (BS.two Q (v16 : Int) (v17 : Int) (by omega) (by omega) (by omega) (by omega)).alloc (by simp) (.cells #[.int .i64 1, .int .i64 2, .slice (some ⟨w.heap.size + 1 + 1, 0, none⟩) 2 2] 29)
    rw [hsz] at hx
    exact hx.more (by simp [hsz])
set_option maxHeartbeats 8000000 in
set_option maxRecDepth 100000 in
theorem refNextRest (b off n c : Nat) (l : List UInt8) (w : World) (h : BS w w.heap.size (some ⟨b, off, none⟩) n l) (hnc : n ≤ c) (hn : n ≤ 100000) (h19 : 19 ≤ n) (hbw : b < w.heap.size) (v16 v17 v18 : Nat)
    (hc16 : w.cell? ⟨b, off + 16, none⟩ = some (.int .u8 (v16 : Int))) (hc17 : w.cell? ⟨b, off + 17, none⟩ = some (.int .u8 (v17 : Int))) (hc18 : w.cell? ⟨b, off + 18, none⟩ = some (.int .u8 (v18 : Int)))
    (hv16 : v16 < 256) (hv17 : v17 < 256) (hv18 : v18 < 256) (hm : ∀ i, i < 16 → lb l i = 255) (N : Int) (hN : N = 256 * (v16 : Int) + v17) (Y : Int) (hY : Hid (leastOf (v18 : Int) = Y))
    (HR0 : Hid (nextR l = (if (headR l).2.2.1 ≠ 0 ∨ (n : Int) < (headR l).1 then (0, [], 0, (headR l).2.2.1, (headR l).2.2.2.1, (headR l).2.2.2.2) else ((headR l).2.1, (l.drop 19).take ((headR l).1.toNat - 19), (headR l).1, 0, 0, []))))
    (HH0 : Hid (headR l = (if N < 19 ∨ 4096 < N then (0, 0, 1, 2, [ub (v16 : Int), ub (v17 : Int)])
        else if Y = 0 then (0, 0, 1, 3, [ub (v18 : Int)])
        else if N < Y ∨ ((v18 : Int) = 4 ∧ N ≠ Y) then (0, 0, 1, 2, [ub (v16 : Int), ub (v17 : Int)])
        else (N, (v18 : Int), 0, 0, [])))) (hY4 : (v18 : Int) = 4 → Y = 19) (HX : Hid (N < 19 ∨ 4096 < N ∨ Y = 0 ∨ N < Y ∨ ((v18 : Int) = 4 ∧ N ≠ Y) ∨ (n : Int) < N)) :
    Calls Tryd.prog 64 #[.slice (some ⟨b, off, none⟩) n c] w (NxPost w (nextR l) fun A' => ∀ ad, A' = some ad → ad.block = b) := by
  have b0 := ((Below.refl w.heap.size w).alloc (Nat.le_refl _) (.cells #[.int .i64 0, .int .i64 0, .slice none 0 0] 29)).alloc (by simp) (.cells #[.int .i64 0, .int .i64 0, .slice none 0 0] 29)
  have h19i : (19 : Int) ≤ n := by omega
  have h19c : (19 : Int) ≤ c := by omega
  have h16i : (16 : Int) < n := by omega
  have h17i : (17 : Int) < n := by omega
  have h18i : (18 : Int) < n := by omega
  have HM := Lib.hid hm
  have hw1 : IntKind.i64.wrap (v16 : Int) = v16 := IntWalk.i64_in _ ⟨by omega, by omega⟩
  have hw2 : IntKind.i64.wrap (v17 : Int) = v17 := IntWalk.i64_in _ ⟨by omega, by omega⟩
  have hw3 : IntKind.i64.wrap (v18 : Int) = v18 := IntWalk.i64_in _ ⟨by omega, by omega⟩
  have hw4 : IntKind.i64.wrap (256 * (v16 : Int)) = 256 * (v16 : Int) := IntWalk.i64_in _ ⟨by omega, by omega⟩
  have hw5 : IntKind.i64.wrap (256 * (v16 : Int) + v17) = N := by rw [hN]; exact IntWalk.i64_in _ ⟨by omega, by omega⟩
  have hN0 : 0 ≤ N := by omega
  have e16 := (b0.cell (p := ⟨b, off + 16, none⟩) hbw).trans hc16
  have e17 := (b0.cell (p := ⟨b, off + 17, none⟩) hbw).trans hc17
  have e18 := (b0.cell (p := ⟨b, off + 18, none⟩) hbw).trans hc18
  clear hm hN
  go_enter Tryd.func64, Tryd.ntmps64
  go_wp2_with fail
  go_loop [7] (fun i => ∃ j : Nat, j ≤ 16 ∧ i = .int .i64 j) (fun i => 16 - (intOf i).toNat)
  case atStart => exact ⟨0, by omega, rfl⟩
  case round =>
    obtain ⟨j, hj, rfl⟩ := hrel
    by_cases hlt : j < 16
    · have hlti : (j : Int) < 16 := by omega
      obtain ⟨b', off', e, _, hcw⟩ := h.form (k := j) (by omega)
      injection e with e
      injection e with e1 e2 _
      subst e1 e2
      rw [HM.out j hlt] at hcw
      have hcj := (b0.cell (p := ⟨b, off + j, none⟩) hbw).trans hcw
      clear hcw
      have hjn : (j : Int) < n := by omega
      go_wp2_with fail
      go_round
      case rel => exact ⟨j + 1, by omega, by go_num⟩
      case measure => simp [intOf]; omega
    · obtain rfl : j = 16 := by omega
      go_wp2_with fail
      go_quiet (fail)
      go_wp2_with fail
      go_region_held (fun w' => Below w.heap.size w w' ∧ w'.cell? ⟨b, off + 16, none⟩ = some (.int .u8 (v16 : Int)) ∧ w'.cell? ⟨b, off + 17, none⟩ = some (.int .u8 (v17 : Int)) ∧ w'.cell? ⟨b, off + 18, none⟩ = some (.int .u8 (v18 : Int)))
        ((refine k3 hbw hc16 hc17 hc18 ?_; repeat' (first | (with_reducible exact Below.refl _ _) | (with_reducible exact And.left (by with_reducible assumption)) | (with_reducible assumption) | (with_reducible refine below_drewN ?_ _) | (with_reducible refine Below.drew ?_) | (with_reducible refine Below.alloc ?_ ?_ _) | (with_reducible refine Below.setCell ?_ ?_ _) | go_size | (with_reducible exact Below.size (And.left (by with_reducible assumption))))))
        (fail)
      all_goals
        have bQ := below_drewN b0 (nq + 1)
        have hsz : (((w.alloc (.cells #[.int .i64 0, .int .i64 0, .slice none 0 0] 29)).alloc (.cells #[.int .i64 0, .int .i64 0, .slice none 0 0] 29)).drewN (nq + 1)).heap.size = w.heap.size + 1 + 1 := by simp
        have hQ0 := ((Blk.new w 29 #[.int .i64 0, .int .i64 0, .slice none 0 0]).alloc (.cells #[.int .i64 0, .int .i64 0, .slice none 0 0] 29)).drewN (nq + 1)
        have hQ6 := (Blk.new (w.alloc (.cells #[.int .i64 0, .int .i64 0, .slice none 0 0] 29)) 29 #[.int .i64 0, .int .i64 0, .slice none 0 0]).drewN (nq + 1)
        rw [World.size_alloc] at hQ6
        obtain ⟨Q, hQ⟩ : ∃ Q, ((w.alloc (.cells #[.int .i64 0, .int .i64 0, .slice none 0 0] 29)).alloc (.cells #[.int .i64 0, .int .i64 0, .slice none 0 0] 29)).drewN (nq + 1) = Q := ⟨_, rfl⟩
        rw [hQ] at hsz hQ0 hQ6 bQ ⊢
        clear hQ
        first
          | (obtain ⟨bW, hBW, hB6, hBL, hBD⟩ := rnPack1 hv16 hv17 bQ hsz hQ0 hQ6; obtain ⟨W, hW⟩ : ∃ W, (Q.alloc (.cells #[.int .i64 1, .int .i64 2, .slice (some ⟨w.heap.size + 1 + 1 + 1, 0, none⟩) 2 2] 29)).alloc (.cells #[.int .u8 (v16 : Int), .int .u8 (v17 : Int)] 5) = W := ⟨_, rfl⟩; rw [hW] at bW hBW hB6 hBL hBD ⊢; clear hW; obtain ⟨g3, hg3⟩ : ∃ g, w.heap.size + 1 + 1 + 1 = g := ⟨_, rfl⟩; (try rw [hg3] at hBL); (try rw [hg3] at hBD); (try rw [hg3]); obtain ⟨g2, hg2⟩ : ∃ g, w.heap.size + 1 + 1 = g := ⟨_, rfl⟩; (try rw [hg2] at hBL); (try rw [hg2] at hBD); (try rw [hg2]); obtain ⟨gl, hgl⟩ : ∃ g, g2 = g := ⟨_, rfl⟩; obtain ⟨ga, hga⟩ : ∃ g, g3 = g := ⟨_, rfl⟩; rw [hgl, hga] at hBL; rw [hga] at hBD; (try rw [hgl]); (try rw [hga]))
          | (obtain ⟨bW, hBW, hB6, hBL, hBD⟩ := rnPack2 hv16 hv17 bQ hsz hQ0 hQ6; obtain ⟨W, hW⟩ : ∃ W, (Q.alloc (.cells #[.int .u8 (v16 : Int), .int .u8 (v17 : Int)] 5)).alloc (.cells #[.int .i64 1, .int .i64 2, .slice (some ⟨w.heap.size + 1 + 1, 0, none⟩) 2 2] 29) = W := ⟨_, rfl⟩; rw [hW] at bW hBW hB6 hBL hBD ⊢; clear hW; obtain ⟨g3, hg3⟩ : ∃ g, w.heap.size + 1 + 1 + 1 = g := ⟨_, rfl⟩; (try rw [hg3] at hBL); (try rw [hg3] at hBD); (try rw [hg3]); obtain ⟨g2, hg2⟩ : ∃ g, w.heap.size + 1 + 1 = g := ⟨_, rfl⟩; (try rw [hg2] at hBL); (try rw [hg2] at hBD); (try rw [hg2]); obtain ⟨gl, hgl⟩ : ∃ g, g3 = g := ⟨_, rfl⟩; obtain ⟨ga, hga⟩ : ∃ g, g2 = g := ⟨_, rfl⟩; rw [hgl, hga] at hBL; rw [hga] at hBD; (try rw [hgl]); (try rw [hga]))
        have kl0 := hBL.cell 0
        have kl1 := hBL.cell 1
        have kl2 := hBL.cell 2
        have k60 := hB6.cell 0
        have k61 := hB6.cell 1
        have k62 := hB6.cell 2
        have m0 := hBW.cell 0
        have m1 := hBW.cell 1
        have m2 := hBW.cell 2
        have f0 := hBW.frozen 0
        have f1 := hBW.frozen 1
        have f2 := hBW.frozen 2
        have q18 := (bW.cell (p := ⟨b, off + 18, none⟩) hbw).trans hc18
        clear e16 e17 e18 hc16 hc17
        by_cases c1 : N < 19
        · have HR := Lib.hid (show nextR l = (0, [], 0, 1, 2, [ub (v16 : Int), ub (v17 : Int)]) by
            have hh : headR l = (0, 0, 1, 2, [ub (v16 : Int), ub (v17 : Int)]) := by rw [HH0.out, if_pos (.inl c1)]
            rw [HR0.out, hh, if_pos (.inl (by simp))])
          go_wp2_with fail
          go_region
          all_goals
            try go_wp2_with fail
            have hBf := ((hBW.set_ 0 (.int .i64 1)).set_ 1 (.int .i64 2)).set_ 2 (.slice (some ⟨ga, 0, none⟩) 2 2)
            have bf := ((bW.setCell (p := ⟨w.heap.size, 0, none⟩) (Nat.le_refl _) (.int .i64 1)).setCell (p := ⟨w.heap.size, 1, none⟩) (Nat.le_refl _) (.int .i64 2)).setCell (p := ⟨w.heap.size, 2, none⟩) (Nat.le_refl _) (.slice (some ⟨ga, 0, none⟩) 2 2)
            have hgf := only_setCell (only_setCell (only_setCell (World.grownBy.refl W (some w.heap.size)) (p := ⟨w.heap.size, 0, none⟩) (.inl rfl) (.int .i64 1)) (p := ⟨w.heap.size, 1, none⟩) (.inl rfl) (.int .i64 2)) (p := ⟨w.heap.size, 2, none⟩) (.inl rfl) (.slice (some ⟨ga, 0, none⟩) 2 2)
            refine bodyPost_ret (next_ret rfl _ _ w.heap.size (.int .i64 1) (.int .i64 2) (.slice (some ⟨ga, 0, none⟩) 2 2) rfl (Blk.drew (by simpa using hBf))) rfl ?_
            rw [HR.out]
            exact ⟨none, 0, 0, _, _, _, rfl, Nat.le_refl _, BS.none_, hBD.grownAt (only_drew hgf) (hBD.apart hBW flt_no'), below_dr bf, fun hh => absurd hh (Nat.lt_irrefl 0)⟩
        by_cases c2 : 4096 < N
        · have HR := Lib.hid (show nextR l = (0, [], 0, 1, 2, [ub (v16 : Int), ub (v17 : Int)]) by
            have hh : headR l = (0, 0, 1, 2, [ub (v16 : Int), ub (v17 : Int)]) := by rw [HH0.out, if_pos (.inr c2)]
            rw [HR0.out, hh, if_pos (.inl (by simp))])
          go_wp2_with fail
          go_region
          all_goals
            try go_wp2_with fail
            have hBf := ((hBW.set_ 0 (.int .i64 1)).set_ 1 (.int .i64 2)).set_ 2 (.slice (some ⟨ga, 0, none⟩) 2 2)
            have bf := ((bW.setCell (p := ⟨w.heap.size, 0, none⟩) (Nat.le_refl _) (.int .i64 1)).setCell (p := ⟨w.heap.size, 1, none⟩) (Nat.le_refl _) (.int .i64 2)).setCell (p := ⟨w.heap.size, 2, none⟩) (Nat.le_refl _) (.slice (some ⟨ga, 0, none⟩) 2 2)
            have hgf := only_setCell (only_setCell (only_setCell (World.grownBy.refl W (some w.heap.size)) (p := ⟨w.heap.size, 0, none⟩) (.inl rfl) (.int .i64 1)) (p := ⟨w.heap.size, 1, none⟩) (.inl rfl) (.int .i64 2)) (p := ⟨w.heap.size, 2, none⟩) (.inl rfl) (.slice (some ⟨ga, 0, none⟩) 2 2)
            refine bodyPost_ret (next_ret rfl _ _ w.heap.size (.int .i64 1) (.int .i64 2) (.slice (some ⟨ga, 0, none⟩) 2 2) rfl (Blk.drew (by simpa using hBf))) rfl ?_
            rw [HR.out]
            exact ⟨none, 0, 0, _, _, _, rfl, Nat.le_refl _, BS.none_, hBD.grownAt (only_drew hgf) (hBD.apart hBW flt_no'), below_dr bf, fun hh => absurd hh (Nat.lt_irrefl 0)⟩
        by_cases c3 : Y = 0
        · have HR := Lib.hid (show nextR l = (0, [], 0, 1, 3, [ub (v18 : Int)]) by
            have hh : headR l = (0, 0, 1, 3, [ub (v18 : Int)]) := by rw [HH0.out, if_neg (by omega), if_pos c3]
            rw [HR0.out, hh, if_pos (.inl (by simp))])
          have hy : (Y == 0) = true := by simpa using c3
          clear c3
          go_wp2_with fail
          refine (refLeast (v18 : Int) _).mono ?_
          rw [hY.out]
          rintro _ _ ⟨rfl, rfl⟩
          go_wp2_with fail
          have hBW2 := hBW.alloc (.cells #[.int .u8 (v18 : Int)] 5)
          have x0 := hBW2.cell 0
          have x1 := hBW2.cell 1
          have x2 := hBW2.cell 2
          have y0 := hBW2.frozen 0
          have y1 := hBW2.frozen 1
          have y2 := hBW2.frozen 2
          have hlW := hBW.lt
          have hneW : ¬ w.heap.size = W.heap.size := by omega
          go_region
          all_goals
            try go_wp2_with fail
            have hBf := ((hBW.set_ 0 (.int .i64 1)).set_ 1 (.int .i64 3)).set_ 2 (.slice (some ⟨W.heap.size, 0, none⟩) 1 1)
            have bf := ((bW.setCell (p := ⟨w.heap.size, 0, none⟩) (Nat.le_refl _) (.int .i64 1)).setCell (p := ⟨w.heap.size, 1, none⟩) (Nat.le_refl _) (.int .i64 3)).setCell (p := ⟨w.heap.size, 2, none⟩) (Nat.le_refl _) (.slice (some ⟨W.heap.size, 0, none⟩) 1 1)
            have bf2 := bf.alloc bf.size (.cells #[.int .u8 (v18 : Int)] 5)
            have hx := BS.one (((W.setCell ⟨w.heap.size, 0, none⟩ (.int .i64 1)).setCell ⟨w.heap.size, 1, none⟩ (.int .i64 3)).setCell ⟨w.heap.size, 2, none⟩ (.slice (some ⟨W.heap.size, 0, none⟩) 1 1)) 5 (v18 : Int) (by omega) (by omega)
            simp only [World.size_setCell] at hx
            refine bodyPost_ret (next_ret rfl _ _ w.heap.size (.int .i64 1) (.int .i64 3) (.slice (some ⟨W.heap.size, 0, none⟩) 1 1) rfl (Blk.drew (Blk.alloc (by simpa using hBf) _))) rfl ?_
            rw [HR.out]
            exact ⟨none, 0, 0, _, _, _, rfl, Nat.le_refl _, BS.none_, BS.drew (hx.more (by simp)), below_dr bf2, fun hh => absurd hh (Nat.lt_irrefl 0)⟩
        by_cases c4 : N < Y
        · have hy : (Y == 0) = false := by simpa using c3
          have HR := Lib.hid (show nextR l = (0, [], 0, 1, 2, [ub (v16 : Int), ub (v17 : Int)]) by
            have hh : headR l = (0, 0, 1, 2, [ub (v16 : Int), ub (v17 : Int)]) := by rw [HH0.out, if_neg (by omega), if_neg c3, if_pos (.inl c4)]
            rw [HR0.out, hh, if_pos (.inl (by simp))])
          go_wp2_with fail
          refine (refLeast (v18 : Int) _).mono ?_
          rw [hY.out]
          rintro _ _ ⟨rfl, rfl⟩
          go_wp2_with fail
          refine (refLeast (v18 : Int) _).mono ?_
          rw [hY.out]
          rintro _ _ ⟨rfl, rfl⟩
          go_wp2_with fail
          go_region
          all_goals
            try go_wp2_with fail
            have hBf := ((hBW.set_ 0 (.int .i64 1)).set_ 1 (.int .i64 2)).set_ 2 (.slice (some ⟨ga, 0, none⟩) 2 2)
            have bf := ((bW.setCell (p := ⟨w.heap.size, 0, none⟩) (Nat.le_refl _) (.int .i64 1)).setCell (p := ⟨w.heap.size, 1, none⟩) (Nat.le_refl _) (.int .i64 2)).setCell (p := ⟨w.heap.size, 2, none⟩) (Nat.le_refl _) (.slice (some ⟨ga, 0, none⟩) 2 2)
            have hgf := only_setCell (only_setCell (only_setCell (World.grownBy.refl W (some w.heap.size)) (p := ⟨w.heap.size, 0, none⟩) (.inl rfl) (.int .i64 1)) (p := ⟨w.heap.size, 1, none⟩) (.inl rfl) (.int .i64 2)) (p := ⟨w.heap.size, 2, none⟩) (.inl rfl) (.slice (some ⟨ga, 0, none⟩) 2 2)
            refine bodyPost_ret (next_ret rfl _ _ w.heap.size (.int .i64 1) (.int .i64 2) (.slice (some ⟨ga, 0, none⟩) 2 2) rfl (Blk.drew (by simpa using hBf))) rfl ?_
            rw [HR.out]
            exact ⟨none, 0, 0, _, _, _, rfl, Nat.le_refl _, BS.none_, hBD.grownAt (only_drew hgf) (hBD.apart hBW flt_no'), below_dr bf, fun hh => absurd hh (Nat.lt_irrefl 0)⟩
        by_cases c5 : (v18 : Int) = 4 ∧ N ≠ Y
        · obtain ⟨c6, c7⟩ := c5
          have hy : (Y == 0) = false := by simpa using c3
          have HR := Lib.hid (show nextR l = (0, [], 0, 1, 2, [ub (v16 : Int), ub (v17 : Int)]) by
            have hh : headR l = (0, 0, 1, 2, [ub (v16 : Int), ub (v17 : Int)]) := by rw [HH0.out, if_neg (by omega), if_neg c3, if_pos (.inr ⟨c6, c7⟩)]
            rw [HR0.out, hh, if_pos (.inl (by simp))])
          have hk4 : ((v18 : Int) == 4) = true := by simpa using c6
          have h19N : 19 < N := by have := hY4 c6; omega
          clear c6 c7
          go_wp2_with fail
          refine (refLeast (v18 : Int) _).mono ?_
          rw [hY.out]
          rintro _ _ ⟨rfl, rfl⟩
          go_wp2_with fail
          refine (refLeast (v18 : Int) _).mono ?_
          rw [hY.out]
          rintro _ _ ⟨rfl, rfl⟩
          go_wp2_with fail
          go_region
          all_goals
            try go_wp2_with fail
            have hBf := ((hBW.set_ 0 (.int .i64 1)).set_ 1 (.int .i64 2)).set_ 2 (.slice (some ⟨ga, 0, none⟩) 2 2)
            have bf := ((bW.setCell (p := ⟨w.heap.size, 0, none⟩) (Nat.le_refl _) (.int .i64 1)).setCell (p := ⟨w.heap.size, 1, none⟩) (Nat.le_refl _) (.int .i64 2)).setCell (p := ⟨w.heap.size, 2, none⟩) (Nat.le_refl _) (.slice (some ⟨ga, 0, none⟩) 2 2)
            have hgf := only_setCell (only_setCell (only_setCell (World.grownBy.refl W (some w.heap.size)) (p := ⟨w.heap.size, 0, none⟩) (.inl rfl) (.int .i64 1)) (p := ⟨w.heap.size, 1, none⟩) (.inl rfl) (.int .i64 2)) (p := ⟨w.heap.size, 2, none⟩) (.inl rfl) (.slice (some ⟨ga, 0, none⟩) 2 2)
            refine bodyPost_ret (next_ret rfl _ _ w.heap.size (.int .i64 1) (.int .i64 2) (.slice (some ⟨ga, 0, none⟩) 2 2) rfl (Blk.drew (by simpa using hBf))) rfl ?_
            rw [HR.out]
            exact ⟨none, 0, 0, _, _, _, rfl, Nat.le_refl _, BS.none_, hBD.grownAt (only_drew hgf) (hBD.apart hBW flt_no'), below_dr bf, fun hh => absurd hh (Nat.lt_irrefl 0)⟩
        by_cases c8 : (n : Int) < N
        · by_cases c6 : (v18 : Int) = 4
          · exfalso
            have := hY4 c6
            omega
          · have hy : (Y == 0) = false := by simpa using c3
            have HHok := Lib.hid (show headR l = (N, (v18 : Int), 0, 0, []) by rw [HH0.out, if_neg (by omega), if_neg c3, if_neg (by omega)])
            have HR := Lib.hid (show nextR l = (0, [], 0, 0, 0, []) by rw [HR0.out, HHok.out, if_pos (.inr c8)])
            have hk4 : ((v18 : Int) == 4) = false := by simpa using c6
            clear c6
            go_wp2_with fail
            refine (refLeast (v18 : Int) _).mono ?_
            rw [hY.out]
            rintro _ _ ⟨rfl, rfl⟩
            go_wp2_with fail
            refine (refLeast (v18 : Int) _).mono ?_
            rw [hY.out]
            rintro _ _ ⟨rfl, rfl⟩
            go_wp2_with fail
            go_region
            all_goals
              try go_wp2_with fail
              have hBf := ((hBW.set_ 0 (.int .i64 0)).set_ 1 (.int .i64 0)).set_ 2 (.slice none 0 0)
              have bf := ((bW.setCell (p := ⟨w.heap.size, 0, none⟩) (Nat.le_refl _) (.int .i64 0)).setCell (p := ⟨w.heap.size, 1, none⟩) (Nat.le_refl _) (.int .i64 0)).setCell (p := ⟨w.heap.size, 2, none⟩) (Nat.le_refl _) (.slice none 0 0)
              have hgf := only_setCell (only_setCell (only_setCell (World.grownBy.refl W (some w.heap.size)) (p := ⟨w.heap.size, 0, none⟩) (.inl rfl) (.int .i64 0)) (p := ⟨w.heap.size, 1, none⟩) (.inl rfl) (.int .i64 0)) (p := ⟨w.heap.size, 2, none⟩) (.inl rfl) (.slice none 0 0)
              refine bodyPost_ret (next_ret rfl _ _ w.heap.size (.int .i64 0) (.int .i64 0) (.slice none 0 0) rfl (Blk.drew (by simpa using hBf))) rfl ?_
              rw [HR.out]
              exact ⟨none, 0, 0, none, 0, 0, rfl, Nat.le_refl _, BS.none_, BS.none_, below_dr bf, fun hh => absurd hh (Nat.lt_irrefl 0)⟩
        by_cases c6 : (v18 : Int) = 4
        · exfalso
          have := HX.out
          omega
        exfalso
        have := HX.out
        omega
end Go.Proofs.YtdcldmblgbefnaaDoor
