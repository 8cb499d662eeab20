/- The walk of the law FilterWider. Conditions: the table of digits (DigTab). -/
import Derived.Test.YtnhkpnohadbcdaaDoorProg
import Derived.WalkKit
import Derived.WalkSpells
import Derived.WalkLawsBesides
import Derived.Outline
import Derived.Deep.QuietTactic
import Derived.BigQuiet
import Derived.Handy
import Derived.Lib.Hide
import Derived.Test.YtnhkpnohadbcdaaDoorFilLawA
namespace Go.Proofs.YtnhkpnohadbcdaaDoor
open Go.RowKit
set_option linter.unusedSimpArgs false
theorem box4c (w : World) (c1 c2 c3 c4 : Array Value) (t1 t2 t3 t4 : TypeId) : ∃ W, (((w.alloc (.cells c1 t1)).alloc (.cells c2 t2)).alloc (.cells c3 t3)).alloc (.cells c4 t4) = W ∧ Blk W w.heap.size t1 c1 ∧ Blk W (w.heap.size + 1) t2 c2 ∧ Blk W (w.heap.size + 1 + 1) t3 c3 ∧ Blk W (w.heap.size + 1 + 1 + 1) t4 c4 ∧ Below w.heap.size w W := by
  obtain ⟨V, hV, h1, h2, hb⟩ := box2c w c1 c2 t1 t2
  have hz : V.heap.size = w.heap.size + 1 + 1 := by rw [← hV]; simp
  obtain ⟨U, hU, h3, h4, hb2⟩ := box2c V c3 c4 t3 t4
  rw [hV, hU]
  rw [hz] at h3 h4
  refine ⟨_, rfl, h1.below hb2 (by omega), h2.below hb2 (by omega), h3, h4, btr hb hb2 (by omega)⟩
set_option maxHeartbeats 1000000 in
set_option maxRecDepth 100000 in
theorem lawFilterWider (w : World) (a : Nat) (n lo hi : Int) (ha : a < 4294967296) (b : Nat) (m : Int) (hb : b < 4294967296) (_ : (Lit.int .i64 m).wf = true) (c : Nat) (k : Int) (hc : c < 4294967296) (_ : (Lit.int .i64 k).wf = true) (ht : DigTab w) :
    Calls Tryd.prog 10 #[.agg #[.int .u32 a, .int .i64 n, .int .i64 lo, .int .i64 hi], .agg #[.int .u32 b, .int .i64 m], .agg #[.int .u32 c, .int .i64 k]] w fun en w' => en = .returned (.bool true) ∧ Below w.heap.size w w' := by
  have HR := Lib.hid (fun r (h : r = rgIn a n lo hi b m) v => h ▸ filterIn a ha n lo hi b hb m v)
  have HC := Lib.hid (fun r (h : r = pCovers c k a n) v => h ▸ ref02Covers c hc k a ha n v)
  obtain ⟨W, hW, hX, hP, hQ, hY, b0⟩ := box4c w #[.int .u32 a, .int .i64 n, .int .i64 lo, .int .i64 hi] #[.int .u32 b, .int .i64 m] #[.int .u32 c, .int .i64 k] #[.int .u32 c, .int .i64 k, .int .i64 lo, .int .i64 hi] 47 24 24 47
  go_enter Tryd.func10, Tryd.ntmps10
  go_upto_region 3 with fail
  try rw [hW]
  clear hW
  have c_hX0 := hX.cell 0
  have c_hX1 := hX.cell 1
  have c_hX2 := hX.cell 2
  have c_hX3 := hX.cell 3
  have c_hP0 := hP.cell 0
  have c_hP1 := hP.cell 1
  cases h1 : rgIn a n lo hi b m
  · have K1 := HR.out false h1.symm
    go_wp2_with fail
    refine (K1 _).mono ?_
    rintro _ w1 ⟨rfl, b1⟩
    clear c_hX0 c_hX1 c_hX2 c_hX3 c_hP0 c_hP1
    have b01 := btr b0 b1 b0.size
    have hX_1 := hX.below b1 hX.lt
    have hP_1 := hP.below b1 hP.lt
    have hQ_1 := hQ.below b1 hQ.lt
    have hY_1 := hY.below b1 hY.lt
    have c_hX0 := hX_1.cell 0
    have c_hX1 := hX_1.cell 1
    have c_hX2 := hX_1.cell 2
    have c_hX3 := hX_1.cell 3
    have c_hP0 := hP_1.cell 0
    have c_hP1 := hP_1.cell 1
    go_wp2_with fail
    refine (awake12 _ (ht.call b01)).mono ?_
    rintro _ w2 ⟨rfl, b2⟩
    clear c_hX0 c_hX1 c_hX2 c_hX3 c_hP0 c_hP1
    have b02 := btr b01 b2 b01.size
    have hX_2 := hX_1.below b2 hX_1.lt
    clear hX_1
    have hP_2 := hP_1.below b2 hP_1.lt
    clear hP_1
    have hQ_2 := hQ_1.below b2 hQ_1.lt
    clear hQ_1
    have hY_2 := hY_1.below b2 hY_1.lt
    clear hY_1
    have c_hX0 := hX_2.cell 0
    have c_hX1 := hX_2.cell 1
    have c_hX2 := hX_2.cell 2
    have c_hX3 := hX_2.cell 3
    have c_hP0 := hP_2.cell 0
    have c_hP1 := hP_2.cell 1
    go_wp2_with fail
    go_ret
    exact ⟨rfl, b02⟩
  have K1 := HR.out true h1.symm
  cases h2 : pCovers c k a n
  · have K2 := HC.out false h2.symm
    go_wp2_with fail
    refine (K1 _).mono ?_
    rintro _ w1 ⟨rfl, b1⟩
    clear c_hX0 c_hX1 c_hX2 c_hX3 c_hP0 c_hP1
    have b01 := btr b0 b1 b0.size
    have hX_1 := hX.below b1 hX.lt
    have hP_1 := hP.below b1 hP.lt
    have hQ_1 := hQ.below b1 hQ.lt
    have hY_1 := hY.below b1 hY.lt
    have c_hX0 := hX_1.cell 0
    have c_hX1 := hX_1.cell 1
    have c_hX2 := hX_1.cell 2
    have c_hX3 := hX_1.cell 3
    have c_hP0 := hP_1.cell 0
    have c_hP1 := hP_1.cell 1
    have c_hQ0 := hQ_1.cell 0
    have c_hQ1 := hQ_1.cell 1
    go_wp2_with fail
    refine (K2 _).mono ?_
    rintro _ w2 ⟨rfl, b2⟩
    clear c_hX0 c_hX1 c_hX2 c_hX3 c_hP0 c_hP1 c_hQ0 c_hQ1
    have b02 := btr b01 b2 b01.size
    have hX_2 := hX_1.below b2 hX_1.lt
    clear hX_1
    have hP_2 := hP_1.below b2 hP_1.lt
    clear hP_1
    have hQ_2 := hQ_1.below b2 hQ_1.lt
    clear hQ_1
    have hY_2 := hY_1.below b2 hY_1.lt
    clear hY_1
    have c_hX0 := hX_2.cell 0
    have c_hX1 := hX_2.cell 1
    have c_hX2 := hX_2.cell 2
    have c_hX3 := hX_2.cell 3
    have c_hP0 := hP_2.cell 0
    have c_hP1 := hP_2.cell 1
    have c_hQ0 := hQ_2.cell 0
    have c_hQ1 := hQ_2.cell 1
    go_wp2_with fail
    refine (awake12 _ (ht.call b02)).mono ?_
    rintro _ w3 ⟨rfl, b3⟩
    clear c_hX0 c_hX1 c_hX2 c_hX3 c_hP0 c_hP1 c_hQ0 c_hQ1
    have b03 := btr b02 b3 b02.size
    have hX_3 := hX_2.below b3 hX_2.lt
    clear hX_2
    have hP_3 := hP_2.below b3 hP_2.lt
    clear hP_2
    have hQ_3 := hQ_2.below b3 hQ_2.lt
    clear hQ_2
    have hY_3 := hY_2.below b3 hY_2.lt
    clear hY_2
    have c_hX0 := hX_3.cell 0
    have c_hX1 := hX_3.cell 1
    have c_hX2 := hX_3.cell 2
    have c_hX3 := hX_3.cell 3
    have c_hP0 := hP_3.cell 0
    have c_hP1 := hP_3.cell 1
    have c_hQ0 := hQ_3.cell 0
    have c_hQ1 := hQ_3.cell 1
    go_wp2_with fail
    go_ret
    exact ⟨rfl, b03⟩
  have K2 := HC.out true h2.symm
  have K3 := filterIn c hc k lo hi b hb m
  rw [in_wider h1 h2] at K3
  go_wp2_with fail
  refine (K1 _).mono ?_
  rintro _ w1 ⟨rfl, b1⟩
  clear c_hX0 c_hX1 c_hX2 c_hX3 c_hP0 c_hP1
  have b01 := btr b0 b1 b0.size
  have hX_1 := hX.below b1 hX.lt
  have hP_1 := hP.below b1 hP.lt
  have hQ_1 := hQ.below b1 hQ.lt
  have hY_1 := hY.below b1 hY.lt
  have c_hX0 := hX_1.cell 0
  have c_hX1 := hX_1.cell 1
  have c_hX2 := hX_1.cell 2
  have c_hX3 := hX_1.cell 3
  have c_hP0 := hP_1.cell 0
  have c_hP1 := hP_1.cell 1
  have c_hQ0 := hQ_1.cell 0
  have c_hQ1 := hQ_1.cell 1
  go_wp2_with fail
  refine (K2 _).mono ?_
  rintro _ w2 ⟨rfl, b2⟩
  clear c_hX0 c_hX1 c_hX2 c_hX3 c_hP0 c_hP1 c_hQ0 c_hQ1
  have b02 := btr b01 b2 b01.size
  have hX_2 := hX_1.below b2 hX_1.lt
  clear hX_1
  have hP_2 := hP_1.below b2 hP_1.lt
  clear hP_1
  have hQ_2 := hQ_1.below b2 hQ_1.lt
  clear hQ_1
  have hY_2 := hY_1.below b2 hY_1.lt
  clear hY_1
  have c_hX0 := hX_2.cell 0
  have c_hX1 := hX_2.cell 1
  have c_hX2 := hX_2.cell 2
  have c_hX3 := hX_2.cell 3
  have c_hP0 := hP_2.cell 0
  have c_hP1 := hP_2.cell 1
  have c_hQ0 := hQ_2.cell 0
  have c_hQ1 := hQ_2.cell 1
  have c_hY0 := hY_2.cell 0
  have c_hY1 := hY_2.cell 1
  have c_hY2 := hY_2.cell 2
  have c_hY3 := hY_2.cell 3
  go_wp2_with fail
  refine (K3 _).mono ?_
  rintro _ w3 ⟨rfl, b3⟩
  clear c_hX0 c_hX1 c_hX2 c_hX3 c_hP0 c_hP1 c_hQ0 c_hQ1 c_hY0 c_hY1 c_hY2 c_hY3
  have b03 := btr b02 b3 b02.size
  have hX_3 := hX_2.below b3 hX_2.lt
  clear hX_2
  have hP_3 := hP_2.below b3 hP_2.lt
  clear hP_2
  have hQ_3 := hQ_2.below b3 hQ_2.lt
  clear hQ_2
  have hY_3 := hY_2.below b3 hY_2.lt
  clear hY_2
  have c_hX0 := hX_3.cell 0
  have c_hX1 := hX_3.cell 1
  have c_hX2 := hX_3.cell 2
  have c_hX3 := hX_3.cell 3
  have c_hP0 := hP_3.cell 0
  have c_hP1 := hP_3.cell 1
  have c_hQ0 := hQ_3.cell 0
  have c_hQ1 := hQ_3.cell 1
  have c_hY0 := hY_3.cell 0
  have c_hY1 := hY_3.cell 1
  have c_hY2 := hY_3.cell 2
  have c_hY3 := hY_3.cell 3
  go_wp2_with fail
  refine (awake12 _ (ht.call b03)).mono ?_
  rintro _ w4 ⟨rfl, b4⟩
  clear c_hX0 c_hX1 c_hX2 c_hX3 c_hP0 c_hP1 c_hQ0 c_hQ1 c_hY0 c_hY1 c_hY2 c_hY3
  have b04 := btr b03 b4 b03.size
  have hX_4 := hX_3.below b4 hX_3.lt
  clear hX_3
  have hP_4 := hP_3.below b4 hP_3.lt
  clear hP_3
  have hQ_4 := hQ_3.below b4 hQ_3.lt
  clear hQ_3
  have hY_4 := hY_3.below b4 hY_3.lt
  clear hY_3
  have c_hX0 := hX_4.cell 0
  have c_hX1 := hX_4.cell 1
  have c_hX2 := hX_4.cell 2
  have c_hX3 := hX_4.cell 3
  have c_hP0 := hP_4.cell 0
  have c_hP1 := hP_4.cell 1
  have c_hQ0 := hQ_4.cell 0
  have c_hQ1 := hQ_4.cell 1
  have c_hY0 := hY_4.cell 0
  have c_hY1 := hY_4.cell 1
  have c_hY2 := hY_4.cell 2
  have c_hY3 := hY_4.cell 3
  go_wp2_with fail
  go_ret
  exact ⟨rfl, b04⟩
end Go.Proofs.YtnhkpnohadbcdaaDoor
