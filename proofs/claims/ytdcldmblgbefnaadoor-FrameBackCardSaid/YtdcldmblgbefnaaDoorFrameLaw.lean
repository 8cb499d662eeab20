/- The walk of the law FramePuts. Conditions: the table of least lengths (LeaTab). -/
import Derived.Test.YtdcldmblgbefnaaDoorProg
import Derived.WalkKit
import Derived.WalkSpells
import Derived.WalkLawsBesides
import Derived.Outline
import Derived.Deep.QuietTactic
import Derived.BigQuiet
import Derived.Handy
import Derived.Lib.Hide
import Derived.Test.YtdcldmblgbefnaaDoorFrameB
import Derived.Test.YtdcldmblgbefnaaDoorNext
namespace Go.Proofs.YtdcldmblgbefnaaDoor
open Go.RowKit
set_option maxHeartbeats 1000000 in
set_option maxRecDepth 100000 in
theorem frameNew (w : World) : Calls Tryd.prog 76 #[] w fun en w' => ∃ g, en = .returned (.pointer (some ⟨g, 0, none⟩)) ∧ w.heap.size ≤ g ∧ Blk w' g 95 #[.slice none 0 0, .int .i64 0, .int .i64 0, .slice none 0 0] ∧ Below w.heap.size w w' := by
  go_enter Tryd.func76, Tryd.ntmps76
  go_wp2_with fail
  go_ret
  exact ⟨_, rfl, Nat.le_refl _, Blk.new _ _ _, (Below.refl _ _).alloc (Nat.le_refl _) _⟩
set_option maxHeartbeats 1000000 in
set_option maxRecDepth 100000 in
theorem streamLeft (g : Nat) (A : Option Addr) (n c : Nat) (x : Value) (y : Value) (z : Value) (w : World) (h : Blk w g 95 #[.slice A n c, x, y, z]) : Calls Tryd.prog 81 #[.pointer (some ⟨g, 0, none⟩)] w fun en w' => en = .returned (.int .i64 n) ∧ w = w' := by
  have hc := h.cell 0
  go_enter Tryd.func81, Tryd.ntmps81
  go_wp2_with fail
  go_ret
  exact ⟨rfl, rfl⟩
set_option maxHeartbeats 1000000 in
set_option maxRecDepth 100000 in
theorem awake07 (w : World) (ht : LeaTab w) : Calls Tryd.prog 58 #[] w fun en w' => en = .returned (.bool true) ∧ Below w.heap.size w w' := by
  have hE := Lib.hid (show fpE 4 ([] : List UInt8).length = 0 by decide)
  have hO := Lib.hid (show fpOut 4 [] = List.replicate 16 255 ++ [0, 19] ++ [4] by decide)
  obtain ⟨L, hL⟩ : ∃ L : List UInt8, List.replicate 16 255 ++ [0, 19] ++ [4] = L := ⟨_, rfl⟩
  have hl := Lib.hid (show L.length = 19 by rw [← hL]; rfl)
  have hlb := Lib.hid (show lb L 18 = 4 by rw [← hL]; rfl)
  have hR := Lib.hid (show nextR L = (4, [], 19, 0, 0, []) by rw [← hL]; decide +kernel)
  rw [hL] at hO
  clear hL
  go_enter Tryd.func58, Tryd.ntmps58
  go_wp2_with fail
  refine (framePut 4 none 0 0 [] _ ht BS.none_ (by omega)).mono ?_
  rintro _ w1 ⟨A1, n1, c1, rfl, o1, b1⟩
  rw [hE.out]
  rw [hO.out] at o1
  obtain rfl : n1 = 19 := o1.1.trans hl.out
  obtain ⟨b, off, rfl, hbw, hcw⟩ := o1.bs.form (k := 18) (by omega)
  rw [hlb.out] at hcw
  have hcap := o1.cap
  go_wp2_with fail
  refine (frameNext _ 19 c1 L _ (ht.call b1) o1.bs hcap (by omega)).mono ?_
  rintro _ w2 ⟨A2, n2, c2, A3, n3, c3, rfl, hn2, o2, o3, b2, _⟩
  rw [hR.out] at o2 o3 ⊢
  dsimp only at o2 o3 ⊢
  obtain rfl : n2 = 0 := o2.1
  have b12 := btr b1 b2 b1.size
  have hcw2 := (b2.cell (p := ⟨b, off + 18, none⟩) hbw).trans hcw
  have b13 := b12.alloc b12.size (.cells #[.int .i64 0, .int .i64 0, .slice A3 n3 c3] 29)
  have hlt2 : b < w2.heap.size := Nat.lt_of_lt_of_le hbw b2.size
  have hF := Blk.new w2 29 #[.int .i64 0, .int .i64 0, .slice A3 n3 c3]
  have hcw3 := hcw2
  go_wp2_with fail
  refine (frameNew _).mono ?_
  rintro _ w4 ⟨g, rfl, hg, hG, b4⟩
  have b14 := btr b13 b4 b13.size
  go_wp2_with fail
  refine (streamLeft g _ 0 0 _ _ _ _ hG).mono ?_
  rintro _ _ ⟨rfl, rfl⟩
  go_wp2_with fail
  go_ret
  exact ⟨rfl, b14⟩
set_option maxHeartbeats 1000000 in
set_option maxRecDepth 100000 in
theorem lawFramePuts (w : World) (k : Int) (_ : (Lit.int .i64 k).wf = true) (A : Option Addr) (n c : Nat) (l : List UInt8) (h : BS w w.heap.size A n l) (_ : n ≤ c) (_ : c ≤ maxLen) (ht : LeaTab w) :
    Calls Tryd.prog 14 #[.int .i64 k, .slice A n c] w fun en w' => en = .returned (.bool true) ∧ Below w.heap.size w w' := by
  by_cases hn : n ≤ 5000
  · have hni : (n : Int) ≤ 5000 := by omega
    obtain ⟨E, hE⟩ : ∃ E, fpE k l.length = E := ⟨_, rfl⟩
    obtain ⟨L, hL⟩ : ∃ L, fpOut k l = L := ⟨_, rfl⟩
    obtain ⟨Y, hY⟩ : ∃ Y, leastOf k = Y := ⟨_, rfl⟩
    have HE := Lib.hid hE
    have HL := Lib.hid hL
    have HY := Lib.hid hY
    clear hE hL hY
    go_enter Tryd.func14, Tryd.ntmps14
    go_wp2_with fail
    refine (framePut k A n c l _ ht h (by omega)).mono ?_
    rintro _ w1 ⟨A1, n1, c1, rfl, o1, b1⟩
    rw [HE.out]
    rw [HL.out] at o1
    go_wp2_with fail
    refine (refFramePut k A n c l _ (h.call b1) (by omega)).mono ?_
    rintro _ w2 ⟨A2, n2, c2, rfl, o2, b2⟩
    rw [HE.out]
    rw [HL.out] at o2
    have b12 := btr b1 b2 b1.size
    go_wp2_with fail
    refine (ref01Same A1 A2 n1 n2 c1 c2 _ _ _ _ _ (o1.below b2).bs o2.bs).mono ?_
    simp only [beq_self_eq_true]
    rintro _ _ ⟨rfl, rfl⟩
    go_wp2_with fail
    refine (frameLeast k _ (ht.call b12)).mono ?_
    rw [HY.out]
    rintro _ _ ⟨rfl, rfl⟩
    go_wp2_with fail
    refine (refLeast k _).mono ?_
    rw [HY.out]
    rintro _ _ ⟨rfl, rfl⟩
    go_wp2_with fail
    refine (awake07 _ (ht.call b12)).mono ?_
    rintro _ w3 ⟨rfl, b3⟩
    go_wp2_with fail
    go_ret
    exact ⟨rfl, btr b12 b3 b12.size⟩
  · have hni : 5000 < (n : Int) := by omega
    go_enter Tryd.func14, Tryd.ntmps14
    go_wp2_with fail
    refine (awake07 _ ht).mono ?_
    rintro _ w5 ⟨rfl, b5⟩
    go_wp2_with fail
    go_ret
    exact ⟨rfl, b5⟩
end Go.Proofs.YtdcldmblgbefnaaDoor
