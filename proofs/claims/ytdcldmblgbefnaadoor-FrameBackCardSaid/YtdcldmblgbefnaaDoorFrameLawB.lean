/- The walk of the law FrameNext. Conditions: the table of least lengths (LeaTab). -/
import Derived.Test.YtdcldmblgbefnaaDoorProg
import Derived.WalkKit
import Derived.WalkSpells
import Derived.WalkLawsBesides
import Derived.Outline
import Derived.Deep.QuietTactic
import Derived.BigQuiet
import Derived.Handy
import Derived.Lib.Hide
import Derived.Test.YtdcldmblgbefnaaDoorFrameLaw
import Derived.Test.YtdcldmblgbefnaaDoorRefNextOk
import Derived.Test.YtdcldmblgbefnaaDoorFsmC
namespace Go.Proofs.YtdcldmblgbefnaaDoor
open Go.RowKit
theorem drop16 {l : List UInt8} (h : 18 ≤ l.length) : (l.drop 16).take 2 = [ub (lb l 16 : Int), ub (lb l 17 : Int)] := by
  rw [lb_eq l 16 (by omega), lb_eq l 17 (by omega), ub_of, ub_of, List.drop_eq_getElem_cons (by omega), List.drop_eq_getElem_cons (by omega)]
  rfl
theorem lea4 {v : Nat} (h : (v : Int) = 4) : leastOf (v : Int) = 19 := by rw [h]; rfl
set_option maxHeartbeats 1000000 in
set_option maxRecDepth 100000 in
theorem refNext_short (A : Option Addr) (n c : Nat) (l : List UInt8) (w : World) (h : BS w w.heap.size A n l) (h19 : n < 19) :
    Calls Tryd.prog 64 #[.slice A n c] w (NxPost w (nextR l) fun A' => ∀ ad, A' = some ad → ∃ a0, A = some a0 ∧ ad.block = a0.block) := by
  have h19i : (n : Int) < 19 := by omega
  have HR := Lib.hid (show nextR l = (0, [], 0, 0, 0, []) by rw [nextR, if_pos (by rw [← h.len]; exact h19)])
  have hB0 := (Blk.new w 29 #[.int .i64 0, .int .i64 0, .slice none 0 0]).alloc (.cells #[.int .i64 0, .int .i64 0, .slice none 0 0] 29)
  have b0 := ((Below.refl w.heap.size w).alloc (Nat.le_refl _) (.cells #[.int .i64 0, .int .i64 0, .slice none 0 0] 29)).alloc (by simp) (.cells #[.int .i64 0, .int .i64 0, .slice none 0 0] 29)
  go_enter Tryd.func64, Tryd.ntmps64
  go_wp2_with fail
  obtain ⟨W, hW⟩ : ∃ W, (w.alloc (.cells #[.int .i64 0, .int .i64 0, .slice none 0 0] 29)).alloc (.cells #[.int .i64 0, .int .i64 0, .slice none 0 0] 29) = W := ⟨_, rfl⟩
  have hB6 : Blk W (w.heap.size + 1) 29 #[.int .i64 0, .int .i64 0, .slice none 0 0] := by
    have := Blk.new (w.alloc (.cells #[.int .i64 0, .int .i64 0, .slice none 0 0] 29)) 29 #[.int .i64 0, .int .i64 0, .slice none 0 0]
    rw [World.size_alloc, hW] at this
    exact this
  rw [hW] at hB0 b0
  have m0 := hB0.cell 0
  have m1 := hB0.cell 1
  have m2 := hB0.cell 2
  have f0 := hB0.frozen 0
  have f1 := hB0.frozen 1
  have f2 := hB0.frozen 2
  have k0 := hB6.cell 0
  have k1 := hB6.cell 1
  have k2 := hB6.cell 2
  rw [hW]
  clear hW
  go_region
  all_goals
    try go_wp2_with fail
    have hBf := ((hB0.set_ 0 (.int .i64 0)).set_ 1 (.int .i64 0)).set_ 2 (.slice none 0 0)
    have bf := ((b0.setCell (p := ⟨w.heap.size, 0, none⟩) (Nat.le_refl _) (.int .i64 0)).setCell (p := ⟨w.heap.size, 1, none⟩) (Nat.le_refl _) (.int .i64 0)).setCell (p := ⟨w.heap.size, 2, none⟩) (Nat.le_refl _) (.slice none 0 0)
    refine bodyPost_ret (next_ret rfl _ _ w.heap.size (.int .i64 0) (.int .i64 0) (.slice none 0 0) rfl (Blk.drew (by simpa using hBf))) rfl ?_
    rw [HR.out]
    exact ⟨none, 0, 0, none, 0, 0, rfl, Nat.le_refl _, BS.none_, BS.none_, below_dr bf, fun hh => absurd hh (Nat.lt_irrefl 0)⟩
set_option maxHeartbeats 1000000 in
set_option maxRecDepth 100000 in
theorem refNext_bad (b off n c : Nat) (l : List UInt8) (w : World) (h : BS w w.heap.size (some ⟨b, off, none⟩) n l) (hn : n ≤ 100000) (h19 : 19 ≤ n) (hm : hdMark l = false) :
    Calls Tryd.prog 64 #[.slice (some ⟨b, off, none⟩) n c] w (NxPost w (nextR l) fun A' => ∀ ad, A' = some ad → ad.block = b) := by
  have h19i : (19 : Int) ≤ n := by omega
  have HR := Lib.hid (show nextR l = (0, [], 0, 1, 1, []) by
    have hh : headR l = (0, 0, 1, 1, []) := by rw [headR, if_pos hm]
    rw [nextR, if_neg (by rw [← h.len]; omega), hh, if_pos (.inl (by simp))])
  have hB0 := (Blk.new w 29 #[.int .i64 0, .int .i64 0, .slice none 0 0]).alloc (.cells #[.int .i64 0, .int .i64 0, .slice none 0 0] 29)
  have b0 := ((Below.refl w.heap.size w).alloc (Nat.le_refl _) (.cells #[.int .i64 0, .int .i64 0, .slice none 0 0] 29)).alloc (by simp) (.cells #[.int .i64 0, .int .i64 0, .slice none 0 0] 29)
  have HM := Lib.hid hm
  clear hm
  go_enter Tryd.func64, Tryd.ntmps64
  go_wp2_with fail
  obtain ⟨W, hW⟩ : ∃ W, (w.alloc (.cells #[.int .i64 0, .int .i64 0, .slice none 0 0] 29)).alloc (.cells #[.int .i64 0, .int .i64 0, .slice none 0 0] 29) = W := ⟨_, rfl⟩
  rw [hW] at hB0 b0
  have m0 := hB0.cell 0
  have m1 := hB0.cell 1
  have m2 := hB0.cell 2
  have f0 := hB0.frozen 0
  have f1 := hB0.frozen 1
  have f2 := hB0.frozen 2
  rw [hW]
  clear hW
  go_loop [7] (fun i => ∃ j : Nat, j ≤ 16 ∧ i = .int .i64 j ∧ Hid (∀ k, k < j → lb l k = 255)) (fun i => 16 - (intOf i).toNat)
  case atStart => exact ⟨0, by omega, rfl, Lib.hid (fun k hk => by omega)⟩
  case round =>
    obtain ⟨j, hj, rfl, hall⟩ := hrel
    by_cases hlt : j < 16
    · have hlti : (j : Int) < 16 := by omega
      have hjn : (j : Int) < n := by omega
      obtain ⟨b', off', e, hbw, hcw⟩ := h.form (k := j) (by omega)
      injection e with e
      injection e with e1 e2 _
      subst e1 e2
      have hcj := (b0.cell (p := ⟨b, off + j, none⟩) hbw).trans hcw
      clear hcw
      obtain ⟨v, hv⟩ : ∃ v, lb l j = v := ⟨_, rfl⟩
      rw [hv] at hcj
      have HV := Lib.hid hv
      clear hv
      by_cases hv : v = 255
      · subst hv
        go_wp2_with fail
        go_round
        case rel =>
          refine ⟨j + 1, by omega, by go_num, Lib.hid fun k hk => ?_⟩
          rcases Nat.lt_or_ge k j with h1 | h1
          · exact hall.out k h1
          · have : k = j := by omega
            rw [this]; exact HV.out
        case measure => simp [intOf]; omega
      · have ht2 : ((v : Int) != 255) = true := by simpa using (by omega : ¬ (v : Int) = 255)
        go_wp2_with fail
        have hBf := ((hB0.set_ 0 (.int .i64 1)).set_ 1 (.int .i64 1)).set_ 2 (.slice none 0 0)
        have bf := ((b0.setCell (p := ⟨w.heap.size, 0, none⟩) (Nat.le_refl _) (.int .i64 1)).setCell (p := ⟨w.heap.size, 1, none⟩) (Nat.le_refl _) (.int .i64 1)).setCell (p := ⟨w.heap.size, 2, none⟩) (Nat.le_refl _) (.slice none 0 0)
        refine bodyPost_ret (next_ret rfl _ _ w.heap.size (.int .i64 1) (.int .i64 1) (.slice none 0 0) rfl (by simpa using hBf)) rfl ?_
        rw [HR.out]
        exact ⟨none, 0, 0, none, 0, 0, rfl, Nat.le_refl _, BS.none_, BS.none_, bf, fun hh => absurd hh (Nat.lt_irrefl 0)⟩
    · exact absurd ((hdMark_iff l).2 (fun i hi => hall.out i (by omega))) (by rw [HM.out]; simp)
theorem nx_at {w : World} {r : Int × List UInt8 × Int × Int × Int × List UInt8} (b off : Nat) (e : Ending) (w' : World) (h : NxPost w r (fun A' => ∀ ad, A' = some ad → ad.block = b) e w') : NxPost w r (fun A' => ∀ ad, A' = some ad → ∃ a0, (some (⟨b, off, none⟩ : Addr)) = some a0 ∧ ad.block = a0.block) e w' := by
  obtain ⟨A1, n1, c1, A2, n2, c2, h1, h2, h3, h4, h5, h6⟩ := h
  exact ⟨A1, n1, c1, A2, n2, c2, h1, h2, h3, h4, h5, fun hn ad he => ⟨_, rfl, h6 hn ad he⟩⟩
theorem refNext (A : Option Addr) (n c : Nat) (l : List UInt8) (w : World) (h : BS w w.heap.size A n l) (hnc : n ≤ c) (hn : n ≤ 100000) :
    Calls Tryd.prog 64 #[.slice A n c] w (NxPost w (nextR l) fun A' => ∀ ad, A' = some ad → ∃ a0, A = some a0 ∧ ad.block = a0.block) := by
  by_cases h19 : n < 19
  · exact refNext_short A n c l w h h19
  · have hl := h.len
    obtain ⟨b, off, rfl, hbw, _⟩ := h.form (k := 0) (by omega)
    cases hm : hdMark l
    · exact (refNext_bad b off n c l w h hn (by omega) hm).mono (nx_at b off)
    · obtain ⟨b1, o1, e1, _, c16⟩ := h.form (k := 16) (by omega)
      obtain ⟨b2, o2, e2, _, c17⟩ := h.form (k := 17) (by omega)
      obtain ⟨b3, o3, e3, _, c18⟩ := h.form (k := 18) (by omega)
      injection e1 with e1
      injection e1 with e1 e1' _
      injection e2 with e2
      injection e2 with e2 e2' _
      injection e3 with e3
      injection e3 with e3 e3' _
      subst e1 e1' e2 e2' e3 e3'
      have hd := drop16 (l := l) (by omega)
      have g1 : nextR l = (if (headR l).2.2.1 ≠ 0 ∨ (n : Int) < (headR l).1 then (0, [], 0, (headR l).2.2.1, (headR l).2.2.2.1, (headR l).2.2.2.2) else ((headR l).2.1, (l.drop 19).take ((headR l).1.toNat - 19), (headR l).1, 0, 0, [])) := by
        rw [nextR, if_neg (by rw [← hl]; exact h19), ← hl]
      have g2 : headR l = (if hdN l < 19 ∨ 4096 < hdN l then (0, 0, 1, 2, [ub (lb l 16 : Int), ub (lb l 17 : Int)])
          else if leastOf (hdK l) = 0 then (0, 0, 1, 3, [ub (lb l 18 : Int)])
          else if hdN l < leastOf (hdK l) ∨ ((lb l 18 : Int) = 4 ∧ hdN l ≠ leastOf (hdK l)) then (0, 0, 1, 2, [ub (lb l 16 : Int), ub (lb l 17 : Int)])
          else (hdN l, (lb l 18 : Int), 0, 0, [])) := by
        rw [headR, if_neg (by rw [hm]; simp), hd]
        rfl
      by_cases hx : hdN l < 19 ∨ 4096 < hdN l ∨ leastOf (hdK l) = 0 ∨ hdN l < leastOf (hdK l) ∨ ((lb l 18 : Int) = 4 ∧ hdN l ≠ leastOf (hdK l)) ∨ (n : Int) < hdN l
      · exact (refNextRest b off n c l w h hnc hn (by omega) hbw (lb l 16) (lb l 17) (lb l 18) c16 c17 c18 (lb_lt l 16) (lb_lt l 17) (lb_lt l 18) ((hdMark_iff l).1 hm) (hdN l) rfl (leastOf (hdK l)) (Lib.hid rfl) (Lib.hid g1) (Lib.hid g2) (fun h4 => lea4 h4) (Lib.hid hx)).mono (nx_at b off)
      · exact (refNextOk b off n c l w h hnc hn (by omega) hbw (lb l 16) (lb l 17) (lb l 18) c16 c17 c18 (lb_lt l 16) (lb_lt l 17) (lb_lt l 18) ((hdMark_iff l).1 hm) (hdN l) rfl (leastOf (hdK l)) (Lib.hid rfl) (Lib.hid g1) (Lib.hid g2) (fun h4 => lea4 h4) (Lib.hid hx)).mono (nx_at b off)
set_option maxHeartbeats 1000000 in
set_option maxRecDepth 100000 in
theorem lawFrameNext (w : World) (A : Option Addr) (n c : Nat) (l : List UInt8) (h : BS w w.heap.size A n l) (hnc : n ≤ c) (_ : c ≤ maxLen) (ht : LeaTab w) :
    Calls Tryd.prog 15 #[.slice A n c] w fun en w' => en = .returned (.bool true) ∧ Below w.heap.size w w' := by
  by_cases hn : n ≤ 5000
  · have hni : (n : Int) ≤ 5000 := by omega
    obtain ⟨R, hR⟩ : ∃ R, nextR l = R := ⟨_, rfl⟩
    obtain ⟨K, B, M, C, S, D⟩ := R
    have HR := Lib.hid hR
    clear hR
    go_enter Tryd.func15, Tryd.ntmps15
    go_wp2_with fail
    refine (frameNext A n c l _ ht h hnc (by omega)).mono ?_
    rintro _ w1 ⟨A1, n1, c1, A2, n2, c2, rfl, _, o1, o2, b1, _⟩
    rw [HR.out] at o1 o2 ⊢
    dsimp only at o1 o2 ⊢
    have b1a := b1.alloc b1.size (.cells #[.int .i64 C, .int .i64 S, .slice A2 n2 c2] 29)
    have k1 := (Below.refl w1.heap.size w1).alloc (Nat.le_refl _) (.cells #[.int .i64 C, .int .i64 S, .slice A2 n2 c2] 29)
    have hF1 := Blk.new w1 29 #[.int .i64 C, .int .i64 S, .slice A2 n2 c2]
    go_wp2_with fail
    refine (refNext A n c l _ (h.call b1a) hnc (by omega)).mono ?_
    rintro _ w2 ⟨A3, n3, c3, A4, n4, c4, rfl, _, o3, o4, b2, _⟩
    rw [HR.out] at o3 o4 ⊢
    dsimp only at o3 o4 ⊢
    have b12 := btr b1a b2 b1a.size
    have k2 := btr k1 b2 k1.size
    have hF2 := hF1.below b2 (by simp)
    have b13 := b12.alloc b12.size (.cells #[.int .i64 C, .int .i64 S, .slice A4 n4 c4] 29)
    have k3' := k2.alloc k2.size (.cells #[.int .i64 C, .int .i64 S, .slice A4 n4 c4] 29)
    have m3 := (Below.refl w2.heap.size w2).alloc (Nat.le_refl _) (.cells #[.int .i64 C, .int .i64 S, .slice A4 n4 c4] 29)
    have hF3 := hF2.alloc (.cells #[.int .i64 C, .int .i64 S, .slice A4 n4 c4] 29)
    have hG3 := Blk.new w2 29 #[.int .i64 C, .int .i64 S, .slice A4 n4 c4]
    have r1 := o1.call k3'
    have r2 := o2.call k3'
    have r3 := o3.call m3
    have r4 := o4.call m3
    have t3 := ht.call b13
    obtain ⟨W, hW⟩ : ∃ W, w2.alloc (.cells #[.int .i64 C, .int .i64 S, .slice A4 n4 c4] 29) = W := ⟨_, rfl⟩
    rw [hW] at b13 hF3 hG3 r1 r2 r3 r4 t3
    have c0 := hF3.cell 0
    have c1' := hF3.cell 1
    have c2' := hF3.cell 2
    have d0 := hG3.cell 0
    have d1 := hG3.cell 1
    have d2 := hG3.cell 2
    go_wp2_with fail
    try rw [hW]
    clear hW
    refine (ref01Same A1 A3 n1 n3 c1 c3 _ _ _ _ _ r1 r3).mono ?_
    simp only [beq_self_eq_true]
    rintro _ _ ⟨rfl, rfl⟩
    go_wp2_with fail
    refine (sameFault_any C S C S A2 A4 n2 c2 n4 c4 D D _ r2 r4).mono ?_
    simp only [beq_self_eq_true, Bool.and_self]
    rintro _ w5 ⟨rfl, b5⟩
    have b15 := btr b13 b5 b13.size
    go_wp2_with fail
    refine (awake07 _ (ht.call b15)).mono ?_
    rintro _ w6 ⟨rfl, b6⟩
    go_wp2_with fail
    go_ret
    exact ⟨rfl, btr b15 b6 b15.size⟩
  · have hni : 5000 < (n : Int) := by omega
    go_enter Tryd.func15, Tryd.ntmps15
    go_wp2_with fail
    refine (awake07 _ ht).mono ?_
    rintro _ w5 ⟨rfl, b5⟩
    go_wp2_with fail
    go_ret
    exact ⟨rfl, b5⟩
end Go.Proofs.YtdcldmblgbefnaaDoor
