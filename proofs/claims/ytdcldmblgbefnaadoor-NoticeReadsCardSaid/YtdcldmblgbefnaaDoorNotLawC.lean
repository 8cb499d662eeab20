/- The walk of the law NoticeReads. Conditions: the table of digits (DigTab). -/
import Derived.Test.YtdcldmblgbefnaaDoorProg
import Derived.WalkKit
import Derived.WalkSpells
import Derived.WalkLawsBesides
import Derived.Outline
import Derived.Deep.QuietTactic
import Derived.BigQuiet
import Derived.Handy
import Derived.Lib.Hide
import Derived.Test.YtdcldmblgbefnaaDoorNotLaw
import Derived.Test.YtdcldmblgbefnaaDoorNotReadR
import Derived.Test.YtdcldmblgbefnaaDoorLegalB
import Derived.Deep.RegionHeld
namespace Go.Proofs.YtdcldmblgbefnaaDoor
open Go.RowKit
theorem keep9 {w W W' : World} {p0 p1 p2 p3 p4 p5 p6 p7 p8 : Addr} {x0 x1 x2 x3 x4 x5 x6 x7 x8 : Value} (h0 : p0.block < w.heap.size) (h1 : p1.block < w.heap.size) (h2 : p2.block < w.heap.size) (h3 : p3.block < w.heap.size) (h4 : p4.block < w.heap.size) (h5 : p5.block < w.heap.size) (h6 : p6.block < w.heap.size) (h7 : p7.block < w.heap.size) (h8 : p8.block < w.heap.size) (hb : Below W.heap.size W W') (h : Below w.heap.size w W ∧ W.cell? p0 = some x0 ∧ W.cell? p1 = some x1 ∧ W.cell? p2 = some x2 ∧ W.cell? p3 = some x3 ∧ W.cell? p4 = some x4 ∧ W.cell? p5 = some x5 ∧ W.cell? p6 = some x6 ∧ W.cell? p7 = some x7 ∧ W.cell? p8 = some x8) :
    Below w.heap.size w W' ∧ W'.cell? p0 = some x0 ∧ W'.cell? p1 = some x1 ∧ W'.cell? p2 = some x2 ∧ W'.cell? p3 = some x3 ∧ W'.cell? p4 = some x4 ∧ W'.cell? p5 = some x5 ∧ W'.cell? p6 = some x6 ∧ W'.cell? p7 = some x7 ∧ W'.cell? p8 = some x8 :=
  ⟨btr h.1 hb h.1.size, (hb.cell (Nat.lt_of_lt_of_le h0 h.1.size)).trans h.2.1, (hb.cell (Nat.lt_of_lt_of_le h1 h.1.size)).trans h.2.2.1, (hb.cell (Nat.lt_of_lt_of_le h2 h.1.size)).trans h.2.2.2.1, (hb.cell (Nat.lt_of_lt_of_le h3 h.1.size)).trans h.2.2.2.2.1, (hb.cell (Nat.lt_of_lt_of_le h4 h.1.size)).trans h.2.2.2.2.2.1, (hb.cell (Nat.lt_of_lt_of_le h5 h.1.size)).trans h.2.2.2.2.2.2.1, (hb.cell (Nat.lt_of_lt_of_le h6 h.1.size)).trans h.2.2.2.2.2.2.2.1, (hb.cell (Nat.lt_of_lt_of_le h7 h.1.size)).trans h.2.2.2.2.2.2.2.2.1, (hb.cell (Nat.lt_of_lt_of_le h8 h.1.size)).trans h.2.2.2.2.2.2.2.2.2⟩
set_option maxHeartbeats 1000000 in
set_option maxRecDepth 100000 in
theorem lawNoticeReads_in (w : World) (A : Option Addr) (n c : Nat) (l : List UInt8) (h : BS w w.heap.size A n l) (hnc : n ≤ c) (a b : Int) (A' : Option Addr) (n' c' : Nat) (l' : List UInt8) (h' : BS w w.heap.size A' n' l') (ht : DigTab w) (hn : n ≤ 2000) (hn' : n' ≤ 2000) :
    Calls Tryd.prog 22 #[.slice A n c, .agg #[.int .i64 a, .int .i64 b, .slice A' n' c']] w fun en w' => en = .returned (.bool true) ∧ Below w.heap.size w w' := by
  have b0 := (Below.refl w.heap.size w).alloc (Nat.le_refl _) (.cells #[.int .i64 a, .int .i64 b, .slice A' n' c'] 29)
  have hB0 := Blk.new w 29 #[.int .i64 a, .int .i64 b, .slice A' n' c']
  have hni : (n : Int) ≤ 2000 := by omega
  have hni' : (n' : Int) ≤ 2000 := by omega
  obtain ⟨L, hL⟩ : ∃ L, l.drop 2 = L := ⟨_, rfl⟩
  obtain ⟨X, hX⟩ : ∃ X : Int, (((if l.length < 2 then 0 else lb l 0 : Nat) : Nat) : Int) = X := ⟨_, rfl⟩
  obtain ⟨Y, hY⟩ : ∃ X : Int, (((if l.length < 2 then 0 else lb l 1 : Nat) : Nat) : Int) = X := ⟨_, rfl⟩
  obtain ⟨Z, hZ⟩ : ∃ X : Int, (((if l.length < 2 then 3 else 0 : Nat) : Nat) : Int) = X := ⟨_, rfl⟩
  obtain ⟨B, hB⟩ : ∃ B : Bool, (X == a && Y == b && L == l') = B := ⟨_, rfl⟩
  have HL := Lib.hid hL
  have HX := Lib.hid hX
  have HY := Lib.hid hY
  have HZ := Lib.hid hZ
  have HB := Lib.hid hB
  have hLl : L.length ≤ 2000 := by rw [← hL, List.length_drop, ← h.len]; omega
  clear hL hX hY hZ hB
  go_enter Tryd.func22, Tryd.ntmps22
  go_wp2_with fail
  refine (noticeRead A n c l _ (h.call b0) hnc (by omega)).mono ?_
  rintro _ w1 ⟨A1, n1, c1, rfl, o1, b1⟩
  rw [HX.out, HY.out, HZ.out]
  rw [HL.out] at o1
  have b01 := btr b0 b1 b0.size
  have hB1 := hB0.below b1 (by simp)
  have b02 := b01.alloc b01.size (.cells #[.int .i64 X, .int .i64 Y, .slice A1 n1 c1] 29)
  have hB2 := hB1.alloc (.cells #[.int .i64 X, .int .i64 Y, .slice A1 n1 c1] 29)
  have hF2 := Blk.new w1 29 #[.int .i64 X, .int .i64 Y, .slice A1 n1 c1]
  have k2 := (Below.refl w1.heap.size w1).alloc (Nat.le_refl _) (.cells #[.int .i64 X, .int .i64 Y, .slice A1 n1 c1] 29)
  go_wp2_with fail
  refine (refRead8 A n c l _ (h.call b02) hnc (by omega)).mono ?_
  rintro _ w2 ⟨A2, n2, c2, rfl, o2, b2⟩
  rw [HX.out, HY.out, HZ.out]
  rw [HL.out] at o2
  have b03 := btr b02 b2 b02.size
  have hB3 := hB2.below b2 hB2.lt
  have hF3 := hF2.below b2 (by simp)
  have k3 := btr k2 b2 k2.size
  have b04 := b03.alloc b03.size (.cells #[.int .i64 X, .int .i64 Y, .slice A2 n2 c2] 29)
  have hB4 := hB3.alloc (.cells #[.int .i64 X, .int .i64 Y, .slice A2 n2 c2] 29)
  have hF4 := hF3.alloc (.cells #[.int .i64 X, .int .i64 Y, .slice A2 n2 c2] 29)
  have hX4 := Blk.new w2 29 #[.int .i64 X, .int .i64 Y, .slice A2 n2 c2]
  have k4 := k3.alloc k3.size (.cells #[.int .i64 X, .int .i64 Y, .slice A2 n2 c2] 29)
  have m4 := (Below.refl w2.heap.size w2).alloc (Nat.le_refl _) (.cells #[.int .i64 X, .int .i64 Y, .slice A2 n2 c2] 29)
  have r1 := o1.call k4
  have r2 := o2.call m4
  have r3 := h'.call b04
  have t4 := ht.call b04
  obtain ⟨W4, hW4⟩ : ∃ W4, w2.alloc (.cells #[.int .i64 X, .int .i64 Y, .slice A2 n2 c2] 29) = W4 := ⟨_, rfl⟩
  rw [hW4] at b04 hB4 hF4 hX4 r1 r2 r3 t4
  have g0 := hB4.lt
  have g1 := hF4.lt
  have g2 := hX4.lt
  have chB40 : W4.cell? ⟨w.heap.size, 0, none⟩ = some (.int .i64 a) := hB4.cell 0
  have chB41 : W4.cell? ⟨w.heap.size, 1, none⟩ = some (.int .i64 b) := hB4.cell 1
  have chB42 : W4.cell? ⟨w.heap.size, 2, none⟩ = some (.slice A' n' c') := hB4.cell 2
  have chF40 : W4.cell? ⟨w1.heap.size, 0, none⟩ = some (.int .i64 X) := hF4.cell 0
  have chF41 : W4.cell? ⟨w1.heap.size, 1, none⟩ = some (.int .i64 Y) := hF4.cell 1
  have chF42 : W4.cell? ⟨w1.heap.size, 2, none⟩ = some (.slice A1 n1 c1) := hF4.cell 2
  have chX40 : W4.cell? ⟨w2.heap.size, 0, none⟩ = some (.int .i64 X) := hX4.cell 0
  have chX41 : W4.cell? ⟨w2.heap.size, 1, none⟩ = some (.int .i64 Y) := hX4.cell 1
  have chX42 : W4.cell? ⟨w2.heap.size, 2, none⟩ = some (.slice A2 n2 c2) := hX4.cell 2
  go_wp2_with fail
  try rw [hW4]
  clear hW4
  go_region_held (fun w' => Below W4.heap.size W4 w' ∧ w'.cell? ⟨w.heap.size, 0, none⟩ = some (.int .i64 a) ∧ w'.cell? ⟨w.heap.size, 1, none⟩ = some (.int .i64 b) ∧ w'.cell? ⟨w.heap.size, 2, none⟩ = some (.slice A' n' c') ∧ w'.cell? ⟨w1.heap.size, 0, none⟩ = some (.int .i64 X) ∧ w'.cell? ⟨w1.heap.size, 1, none⟩ = some (.int .i64 Y) ∧ w'.cell? ⟨w1.heap.size, 2, none⟩ = some (.slice A1 n1 c1) ∧ w'.cell? ⟨w2.heap.size, 0, none⟩ = some (.int .i64 X) ∧ w'.cell? ⟨w2.heap.size, 1, none⟩ = some (.int .i64 Y) ∧ w'.cell? ⟨w2.heap.size, 2, none⟩ = some (.slice A2 n2 c2))
    (first | (refine keep9 g0 g0 g0 g1 g1 g1 g2 g2 g2 b9 ?_; assumption) | (refine keep9 g0 g0 g0 g1 g1 g1 g2 g2 g2 b8 ?_; assumption) | (refine keep9 g0 g0 g0 g1 g1 g1 g2 g2 g2 b7 ?_; assumption) | (refine keep9 g0 g0 g0 g1 g1 g1 g2 g2 g2 b6 ?_; assumption) | (refine keep9 g0 g0 g0 g1 g1 g1 g2 g2 g2 b5 ?_; assumption) | ((repeat' apply And.intro) <;> first | (with_reducible exact Below.drew (Below.refl _ _)) | go_keep))
    (first
      | (go_at_call_of 28 (Value.agg #[.int .i64 X, .int .i64 Y, .slice A1 n1 c1]); refine (sameFault_any X Y X Y A1 A2 n1 c1 n2 c2 L L _ (r1.call (And.left (by with_reducible assumption))) (r2.call (And.left (by with_reducible assumption)))).mono ?_; simp only [beq_self_eq_true, Bool.and_self]; rintro _ w5 ⟨rfl, b5⟩)
      | (go_at_call 28; refine (sameFault_any X Y a b A2 A' n2 c2 n' c' L l' _ (r2.call (And.left (by with_reducible assumption))) (r3.call (And.left (by with_reducible assumption)))).mono ?_; rw [HB.out]; rintro _ w7 ⟨rfl, b7⟩)
      | (go_at_call_of 83 (Value.agg #[.int .i64 X, .int .i64 Y, .slice A1 n1 c1]); refine (noticeSame X Y a b A1 A' n1 c1 n' c' L l' _ (r1.call (And.left (by with_reducible assumption))) (r3.call (And.left (by with_reducible assumption))) (by have := r1.len; omega)).mono ?_; rw [HB.out]; rintro _ w6 ⟨rfl, b6⟩)
      | (go_at_call 83; refine (noticeSame a b a b A' A' n' c' n' c' l' l' _ (r3.call (And.left (by with_reducible assumption))) (r3.call (And.left (by with_reducible assumption))) (by omega)).mono ?_; simp only [beq_self_eq_true, Bool.and_self]; rintro _ w8 ⟨rfl, b8⟩)
      | (go_at_call 65; refine (awake08 _ (t4.call (And.left (by with_reducible assumption)))).mono ?_; rintro _ w9 ⟨rfl, b9⟩))
  all_goals
    try go_wp2_with fail
    go_ret
    exact ⟨rfl, btr b04 (And.left (by with_reducible assumption)) b04.size⟩
set_option maxHeartbeats 1000000 in
set_option maxRecDepth 100000 in
theorem lawNoticeReads (w : World) (A : Option Addr) (n c : Nat) (l : List UInt8) (h : BS w w.heap.size A n l) (hnc : n ≤ c) (_ : c ≤ maxLen) (a b : Int) (A' : Option Addr) (n' c' : Nat) (l' : List UInt8) (_ : (Lit.int .i64 a).wf = true) (_ : (Lit.int .i64 b).wf = true) (h' : BS w w.heap.size A' n' l') (_ : n' ≤ c') (_ : c' ≤ maxLen) (ht : DigTab w) :
    Calls Tryd.prog 22 #[.slice A n c, .agg #[.int .i64 a, .int .i64 b, .slice A' n' c']] w fun en w' => en = .returned (.bool true) ∧ Below w.heap.size w w' := by
  have b0 := (Below.refl w.heap.size w).alloc (Nat.le_refl _) (.cells #[.int .i64 a, .int .i64 b, .slice A' n' c'] 29)
  by_cases hn : n ≤ 2000
  · by_cases hn' : n' ≤ 2000
    · exact lawNoticeReads_in w A n c l h hnc a b A' n' c' l' h' ht hn hn'
    · have hni : (n : Int) ≤ 2000 := by omega
      have hni' : 2000 < (n' : Int) := by omega
      go_enter Tryd.func22, Tryd.ntmps22
      go_wp2_with fail
      refine (awake08 _ (ht.call b0)).mono ?_
      rintro _ w1 ⟨rfl, b1⟩
      go_wp2_with fail
      go_ret
      exact ⟨rfl, btr b0 b1 b0.size⟩
  · have hni : 2000 < (n : Int) := by omega
    go_enter Tryd.func22, Tryd.ntmps22
    go_wp2_with fail
    refine (awake08 _ (ht.call b0)).mono ?_
    rintro _ w1 ⟨rfl, b1⟩
    go_wp2_with fail
    go_ret
    exact ⟨rfl, btr b0 b1 b0.size⟩
end Go.Proofs.YtdcldmblgbefnaaDoor
