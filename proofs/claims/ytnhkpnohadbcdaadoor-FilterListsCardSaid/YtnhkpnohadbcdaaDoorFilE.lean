/- Walks of layer 12 (filter): Right, In, and the document's. No conditions. -/
import Derived.Test.YtnhkpnohadbcdaaDoorProg
import Derived.WalkKit
import Derived.WalkSpells
import Derived.WalkLawsBesides
import Derived.Outline
import Derived.Deep.QuietTactic
import Derived.BigQuiet
import Derived.Handy
import Derived.Lib.Hide
import Derived.Deep.RegionHeld
import Derived.Test.YtnhkpnohadbcdaaDoorPfxU
import Derived.Test.YtnhkpnohadbcdaaDoorFilPlain
namespace Go.Proofs.YtnhkpnohadbcdaaDoor
open Go.RowKit
set_option maxHeartbeats 2000000 in
set_option maxRecDepth 100000 in
theorem filterRight (a : Nat) (ha : a < 4294967296) (n lo hi : Int) (w : World) :
    Calls Tryd.prog 60 #[.agg #[.int .u32 a, .int .i64 n, .int .i64 lo, .int .i64 hi]] w fun en w' => en = .returned (.bool (rgRight a n lo hi)) ∧ Below w.heap.size w w' := by
  have hB := Blk.new w 47 #[.int .u32 a, .int .i64 n, .int .i64 lo, .int .i64 hi]
  have c0 := hB.cell 0
  have c1 := hB.cell 1
  have b0 := (Below.refl w.heap.size w).alloc (Nat.le_refl _) (.cells #[.int .u32 a, .int .i64 n, .int .i64 lo, .int .i64 hi] 47)
  have key : ∀ (v : Bool) (r p q s : Bool) (hr : pRight a n = r) (hp : decide (n ≤ lo) = p) (hq : decide (lo ≤ hi) = q) (hs : decide (hi ≤ 32) = s) (e : rgRight a n lo hi = v) (f : (r && p && q && s) = v), Calls Tryd.prog 60 #[.agg #[.int .u32 a, .int .i64 n, .int .i64 lo, .int .i64 hi]] w fun en w' => en = .returned (.bool v) ∧ Below w.heap.size w w' := by
    intro v r p q s hr hp hq hs e f
    have HR := Lib.hid hr
    clear e hr
    go_enter Tryd.func60, Tryd.ntmps60
    go_wp2_with fail
    refine (prefixRight a ha n _).mono ?_
    rw [HR.out]
    rintro _ w1 ⟨rfl, b1⟩
    have b01 := btr b0 b1 b0.size
    have hB1 := hB.below b1 hB.lt
    have x1 := hB1.cell 1
    have x2 := hB1.cell 2
    have x3 := hB1.cell 3
    clear c0 c1
    subst f
    cases r
    · go_wp2_with fail
      go_ret
      exact ⟨rfl, b01⟩
    cases p
    · go_wp2_with fail
      go_ret
      exact ⟨rfl, b01⟩
    cases q
    · go_wp2_with fail
      go_ret
      exact ⟨rfl, b01⟩
    cases s
    all_goals
      go_wp2_with fail
      go_ret
      exact ⟨rfl, b01⟩
  refine key _ _ _ _ _ rfl rfl rfl rfl rfl ?_
  unfold rgRight
  by_cases h1 : n ≤ lo <;> by_cases h2 : lo ≤ hi <;> by_cases h3 : hi ≤ 32 <;> simp [h1, h2, h3]
set_option maxHeartbeats 2000000 in
set_option maxRecDepth 100000 in
theorem ref12Right (a : Nat) (ha : a < 4294967296) (n lo hi : Int) (w : World) :
    Calls Tryd.prog 52 #[.agg #[.int .u32 a, .int .i64 n, .int .i64 lo, .int .i64 hi]] w fun en w' => en = .returned (.bool (rgRight a n lo hi)) ∧ Below w.heap.size w w' := by
  have hB := Blk.new w 47 #[.int .u32 a, .int .i64 n, .int .i64 lo, .int .i64 hi]
  have c0 := hB.cell 0
  have c1 := hB.cell 1
  have b0 := (Below.refl w.heap.size w).alloc (Nat.le_refl _) (.cells #[.int .u32 a, .int .i64 n, .int .i64 lo, .int .i64 hi] 47)
  have key : ∀ (v : Bool) (r p q s : Bool) (hr : pRight a n = r) (hp : decide (n ≤ lo) = p) (hq : decide (lo ≤ hi) = q) (hs : decide (hi ≤ 32) = s) (e : rgRight a n lo hi = v) (f : (r && p && q && s) = v), Calls Tryd.prog 52 #[.agg #[.int .u32 a, .int .i64 n, .int .i64 lo, .int .i64 hi]] w fun en w' => en = .returned (.bool v) ∧ Below w.heap.size w w' := by
    intro v r p q s hr hp hq hs e f
    have HR := Lib.hid hr
    clear e hr
    go_enter Tryd.func52, Tryd.ntmps52
    go_wp2_with fail
    refine (refRight a ha n _).mono ?_
    rw [HR.out]
    rintro _ w1 ⟨rfl, b1⟩
    have b01 := btr b0 b1 b0.size
    have hB1 := hB.below b1 hB.lt
    have x1 := hB1.cell 1
    have x2 := hB1.cell 2
    have x3 := hB1.cell 3
    clear c0 c1
    subst f
    cases r
    · go_wp2_with fail
      go_ret
      exact ⟨rfl, b01⟩
    cases p
    · go_wp2_with fail
      go_ret
      exact ⟨rfl, b01⟩
    cases q
    · go_wp2_with fail
      go_ret
      exact ⟨rfl, b01⟩
    cases s
    all_goals
      go_wp2_with fail
      go_ret
      exact ⟨rfl, b01⟩
  refine key _ _ _ _ _ rfl rfl rfl rfl rfl ?_
  unfold rgRight
  by_cases h1 : n ≤ lo <;> by_cases h2 : lo ≤ hi <;> by_cases h3 : hi ≤ 32 <;> simp [h1, h2, h3]
set_option maxHeartbeats 2000000 in
set_option maxRecDepth 100000 in
theorem filterIn (a : Nat) (ha : a < 4294967296) (n lo hi : Int) (b : Nat) (hb : b < 4294967296) (m : Int) (w : World) :
    Calls Tryd.prog 53 #[.agg #[.int .u32 a, .int .i64 n, .int .i64 lo, .int .i64 hi], .agg #[.int .u32 b, .int .i64 m]] w fun en w' => en = .returned (.bool (rgIn a n lo hi b m)) ∧ Below w.heap.size w w' := by
  have hB := (Blk.new w 47 #[.int .u32 a, .int .i64 n, .int .i64 lo, .int .i64 hi]).alloc (.cells #[.int .u32 b, .int .i64 m] 24)
  have hP := Blk.new (w.alloc (.cells #[.int .u32 a, .int .i64 n, .int .i64 lo, .int .i64 hi] 47)) 24 #[.int .u32 b, .int .i64 m]
  have hz : (w.alloc (.cells #[.int .u32 a, .int .i64 n, .int .i64 lo, .int .i64 hi] 47)).heap.size = w.heap.size + 1 := by simp
  rw [hz] at hP
  have b0 := ((Below.refl w.heap.size w).alloc (Nat.le_refl _) (.cells #[.int .u32 a, .int .i64 n, .int .i64 lo, .int .i64 hi] 47)).alloc (by rw [hz]; omega) (.cells #[.int .u32 b, .int .i64 m] 24)
  have key : ∀ (v : Bool) (r c p q : Bool) (hr : rgRight a n lo hi = r) (hc : pCovers a n b m = c) (hp : decide (lo ≤ m) = p) (hq : decide (m ≤ hi) = q) (f : (r && c && p && q) = v), Calls Tryd.prog 53 #[.agg #[.int .u32 a, .int .i64 n, .int .i64 lo, .int .i64 hi], .agg #[.int .u32 b, .int .i64 m]] w fun en w' => en = .returned (.bool v) ∧ Below w.heap.size w w' := by
    intro v r c p q hr hc hp hq f
    have HR := Lib.hid hr
    have HC := Lib.hid hc
    clear hr hc hz
    subst f
    go_enter Tryd.func53, Tryd.ntmps53
    go_wp2_with fail
    obtain ⟨W, hW⟩ : ∃ W, (w.alloc (.cells #[.int .u32 a, .int .i64 n, .int .i64 lo, .int .i64 hi] 47)).alloc (.cells #[.int .u32 b, .int .i64 m] 24) = W := ⟨_, rfl⟩
    rw [hW] at hB hP b0
    try rw [hW]
    clear hW
    have c0 := hB.cell 0
    have c1 := hB.cell 1
    have c2 := hB.cell 2
    have c3 := hB.cell 3
    go_wp2_with fail
    refine (filterRight a ha n lo hi _).mono ?_
    rw [HR.out]
    rintro _ w1 ⟨rfl, b1⟩
    have b01 := btr b0 b1 b0.size
    have hB1 := hB.below b1 hB.lt
    have hP1 := hP.below b1 hP.lt
    have x0 := hB1.cell 0
    have x1 := hB1.cell 1
    have y0 := hP1.cell 0
    have y1 := hP1.cell 1
    clear c0 c1 c2 c3
    cases r
    · go_wp2_with fail
      go_ret
      exact ⟨rfl, b01⟩
    go_wp2_with fail
    refine (prefixCovers a ha n b hb m _).mono ?_
    rw [HC.out]
    rintro _ w2 ⟨rfl, b2⟩
    have b02 := btr b01 b2 b01.size
    have hB2 := hB1.below b2 hB1.lt
    have hP2 := hP1.below b2 hP1.lt
    have u2 := hB2.cell 2
    have u3 := hB2.cell 3
    have v1 := hP2.cell 1
    clear x0 x1 y0 y1
    cases c
    · go_wp2_with fail
      go_ret
      exact ⟨rfl, b02⟩
    cases p
    · go_wp2_with fail
      go_ret
      exact ⟨rfl, b02⟩
    cases q
    all_goals
      go_wp2_with fail
      go_ret
      exact ⟨rfl, b02⟩
  refine key _ _ _ _ _ rfl rfl rfl rfl ?_
  unfold rgIn
  by_cases h1 : lo ≤ m <;> by_cases h2 : m ≤ hi <;> simp [h1, h2]
set_option maxHeartbeats 2000000 in
set_option maxRecDepth 100000 in
theorem ref12In (a : Nat) (ha : a < 4294967296) (n lo hi : Int) (b : Nat) (hb : b < 4294967296) (m : Int) (w : World) :
    Calls Tryd.prog 61 #[.agg #[.int .u32 a, .int .i64 n, .int .i64 lo, .int .i64 hi], .agg #[.int .u32 b, .int .i64 m]] w fun en w' => en = .returned (.bool (rgIn a n lo hi b m)) ∧ Below w.heap.size w w' := by
  have hB := (Blk.new w 47 #[.int .u32 a, .int .i64 n, .int .i64 lo, .int .i64 hi]).alloc (.cells #[.int .u32 b, .int .i64 m] 24)
  have hP := Blk.new (w.alloc (.cells #[.int .u32 a, .int .i64 n, .int .i64 lo, .int .i64 hi] 47)) 24 #[.int .u32 b, .int .i64 m]
  have hz : (w.alloc (.cells #[.int .u32 a, .int .i64 n, .int .i64 lo, .int .i64 hi] 47)).heap.size = w.heap.size + 1 := by simp
  rw [hz] at hP
  have b0 := ((Below.refl w.heap.size w).alloc (Nat.le_refl _) (.cells #[.int .u32 a, .int .i64 n, .int .i64 lo, .int .i64 hi] 47)).alloc (by rw [hz]; omega) (.cells #[.int .u32 b, .int .i64 m] 24)
  have key : ∀ (v : Bool) (r c p q : Bool) (hr : rgRight a n lo hi = r) (hc : pCovers a n b m = c) (hp : decide (lo ≤ m) = p) (hq : decide (m ≤ hi) = q) (f : (r && c && p && q) = v), Calls Tryd.prog 61 #[.agg #[.int .u32 a, .int .i64 n, .int .i64 lo, .int .i64 hi], .agg #[.int .u32 b, .int .i64 m]] w fun en w' => en = .returned (.bool v) ∧ Below w.heap.size w w' := by
    intro v r c p q hr hc hp hq f
    have HR := Lib.hid hr
    have HC := Lib.hid hc
    clear hr hc hz
    subst f
    go_enter Tryd.func61, Tryd.ntmps61
    go_wp2_with fail
    obtain ⟨W, hW⟩ : ∃ W, (w.alloc (.cells #[.int .u32 a, .int .i64 n, .int .i64 lo, .int .i64 hi] 47)).alloc (.cells #[.int .u32 b, .int .i64 m] 24) = W := ⟨_, rfl⟩
    rw [hW] at hB hP b0
    try rw [hW]
    clear hW
    have c0 := hB.cell 0
    have c1 := hB.cell 1
    have c2 := hB.cell 2
    have c3 := hB.cell 3
    go_wp2_with fail
    refine (ref12Right a ha n lo hi _).mono ?_
    rw [HR.out]
    rintro _ w1 ⟨rfl, b1⟩
    have b01 := btr b0 b1 b0.size
    have hB1 := hB.below b1 hB.lt
    have hP1 := hP.below b1 hP.lt
    have x0 := hB1.cell 0
    have x1 := hB1.cell 1
    have y0 := hP1.cell 0
    have y1 := hP1.cell 1
    clear c0 c1 c2 c3
    cases r
    · go_wp2_with fail
      go_ret
      exact ⟨rfl, b01⟩
    go_wp2_with fail
    refine (ref02Covers a ha n b hb m _).mono ?_
    rw [HC.out]
    rintro _ w2 ⟨rfl, b2⟩
    have b02 := btr b01 b2 b01.size
    have hB2 := hB1.below b2 hB1.lt
    have hP2 := hP1.below b2 hP1.lt
    have u2 := hB2.cell 2
    have u3 := hB2.cell 3
    have v1 := hP2.cell 1
    clear x0 x1 y0 y1
    cases c
    · go_wp2_with fail
      go_ret
      exact ⟨rfl, b02⟩
    cases p
    · go_wp2_with fail
      go_ret
      exact ⟨rfl, b02⟩
    cases q
    all_goals
      go_wp2_with fail
      go_ret
      exact ⟨rfl, b02⟩
  refine key _ _ _ _ _ rfl rfl rfl rfl ?_
  unfold rgIn
  by_cases h1 : lo ≤ m <;> by_cases h2 : m ≤ hi <;> simp [h1, h2]
end Go.Proofs.YtnhkpnohadbcdaaDoor
