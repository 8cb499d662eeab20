/- The walk of the law PrefixPuts. Conditions: the table of digits (DigTab). -/
import Derived.Test.YtnhkpnohadbcdaaDoorProg
import Derived.WalkKit
import Derived.WalkSpells
import Derived.WalkLawsBesides
import Derived.Outline
import Derived.Deep.QuietTactic
import Derived.BigQuiet
import Derived.Handy
import Derived.Lib.Hide
import Derived.Deep.RegionHeld3
import Derived.Test.YtnhkpnohadbcdaaDoorPfxW
import Derived.Test.YtnhkpnohadbcdaaDoorRef01
namespace Go.Proofs.YtnhkpnohadbcdaaDoor
open Go.RowKit
theorem ob_empty (w : World) {T base : Nat} (hb : base ≤ w.heap.size) : OB (w.alloc (.cells #[] T)) T base (some ⟨w.heap.size, 0, none⟩) 0 0 [] :=
  ⟨rfl, rfl, .inr ⟨w.heap.size, 0, #[], rfl, hb, Blk.new w T #[], Nat.le_refl _, by unfold maxLen; omega, rfl, rfl⟩⟩
theorem addr_at (g n : Nat) : (⟨g, 0, none⟩ : Addr).add n = ⟨g, n, none⟩ := by
  unfold Addr.add
  split
  · rename_i h; rw [h]
  · simp
set_option maxHeartbeats 2000000 in
set_option maxRecDepth 100000 in
theorem prefixPuts_long (w : World) (A : Option Addr) (n c : Nat) (a : Nat) (m : Int) (A' : Option Addr) (n' c' : Nat) (ht : DigTab w) (hl : 500 < n ∨ 500 < n') :
    Calls Tryd.prog 11 #[.slice A n c, .agg #[.int .u32 a, .int .i64 m], .slice A' n' c'] w fun en w' => en = .returned (.bool true) ∧ Below w.heap.size w w' := by
  have b0 := (Below.refl w.heap.size w).alloc (Nat.le_refl _) (.cells #[.int .u32 a, .int .i64 m] 24)
  have t0 := ht.call b0
  by_cases h1 : 500 < n
  · have e1 : decide (500 < (n : Int)) = true := decide_eq_true (by omega)
    go_enter Tryd.func11, Tryd.ntmps11
    go_wp2_with fail
    refine (awake02 _ t0).mono ?_
    rintro _ w1 ⟨rfl, b1⟩
    have b01 := btr b0 b1 b0.size
    go_wp2_with fail
    go_ret
    exact ⟨rfl, b01⟩
  · have e1 : decide (500 < (n : Int)) = false := decide_eq_false (by omega)
    have e2 : decide (500 < (n' : Int)) = true := decide_eq_true (by omega)
    go_enter Tryd.func11, Tryd.ntmps11
    go_wp2_with fail
    refine (awake02 _ t0).mono ?_
    rintro _ w1 ⟨rfl, b1⟩
    have b01 := btr b0 b1 b0.size
    go_wp2_with fail
    go_ret
    exact ⟨rfl, b01⟩
set_option maxHeartbeats 2000000 in
set_option maxRecDepth 100000 in
theorem prefixPuts_no (w : World) (A : Option Addr) (n c : Nat) (a : Nat) (ha : a < 4294967296) (m : Int) (A' : Option Addr) (n' c' : Nat) (ht : DigTab w) (hn : n ≤ 500) (hn' : n' ≤ 500) (hr : pRight a m = false) :
    Calls Tryd.prog 11 #[.slice A n c, .agg #[.int .u32 a, .int .i64 m], .slice A' n' c'] w fun en w' => en = .returned (.bool true) ∧ Below w.heap.size w w' := by
  have hB := Blk.new w 24 #[.int .u32 a, .int .i64 m]
  have k0 := hB.cell 0
  have k1 := hB.cell 1
  have b0 := (Below.refl w.heap.size w).alloc (Nat.le_refl _) (.cells #[.int .u32 a, .int .i64 m] 24)
  have e1 : decide (500 < (n : Int)) = false := decide_eq_false (by omega)
  have e2 : decide (500 < (n' : Int)) = false := decide_eq_false (by omega)
  go_enter Tryd.func11, Tryd.ntmps11
  go_wp2_with fail
  refine (prefixPut_no A n c a ha m _ hr).mono ?_
  rintro _ w1 ⟨A1, n1, c1, rfl, o1, b1⟩
  have b01 := btr b0 b1 b0.size
  have hB1 := hB.below b1 hB.lt
  have x0 := hB1.cell 0
  have x1 := hB1.cell 1
  clear k0 k1
  go_wp2_with fail
  refine (ref02Put_no A n c a ha m _ hr).mono ?_
  rintro _ w2 ⟨A2, n2, c2, rfl, o2, b2⟩
  have b02 := btr b01 b2 b01.size
  have t2 := ht.call b02
  go_wp2_with (go_at_call 56; refine (ref01Same A1 A2 n1 n2 c1 c2 _ _ _ _ _ (o1.below b2).bs o2.bs).mono ?_; simp only [beq_self_eq_true]; rintro _ _ ⟨rfl, rfl⟩)
  refine (awake02 _ t2).mono ?_
  rintro _ w3 ⟨rfl, b3⟩
  have b03 := btr b02 b3 b02.size
  go_wp2_with fail
  go_ret
  exact ⟨rfl, b03⟩
set_option maxHeartbeats 4000000 in
set_option maxRecDepth 100000 in
theorem prefixPuts_yes (w : World) (A : Option Addr) (n c : Nat) (l : List UInt8) (a : Nat) (ha : a < 4294967296) (k : Nat) (hk : k ≤ 32) (A' : Option Addr) (n' c' : Nat) (l' : List UInt8) (h : BS w w.heap.size A n l) (h' : BS w w.heap.size A' n' l') (ht : DigTab w) (hn : n ≤ 500) (hn' : n' ≤ 500) (hr : pRight a (k : Int) = true) :
    Calls Tryd.prog 11 #[.slice A n c, .agg #[.int .u32 a, .int .i64 k], .slice A' n' c'] w fun en w' => en = .returned (.bool true) ∧ Below w.heap.size w w' := by
  have hB := Blk.new w 24 #[.int .u32 a, .int .i64 k]
  have k0 := hB.cell 0
  have k1 := hB.cell 1
  have b0 := (Below.refl w.heap.size w).alloc (Nat.le_refl _) (.cells #[.int .u32 a, .int .i64 k] 24)
  have e1 : decide (500 < (n : Int)) = false := decide_eq_false (by omega)
  have e2 : decide (500 < (n' : Int)) = false := decide_eq_false (by omega)
  have hlen := h.len
  have hlen' := h'.len
  have hp := pBytes_len a k hk
  have HD := Lib.hid (show (l ++ pBytes a k).drop n = pBytes a k by rw [hlen, List.drop_left])
  have HL := Lib.hid (show (l ++ pBytes a k).length = n + (1 + (k + 7) / 8) by rw [List.length_append, hp]; omega)
  have HM := Lib.hid (show (pBytes a k ++ l').length ≤ 100000 by rw [List.length_append, hp]; omega)
  have HP := Lib.hid (show (pBytes a k).length ≤ 5 by rw [hp]; omega)
  have HN := Lib.hid hlen'
  clear hlen hlen' hp
  go_enter Tryd.func11, Tryd.ntmps11
  go_wp2_with fail
  refine (prefixPut_yes A n c l a ha k hk _ (h.call b0) (by omega) hr).mono ?_
  rintro _ w1 ⟨A1, n1, c1, rfl, o1, b1⟩
  have b01 := btr b0 b1 b0.size
  have hB1 := hB.below b1 hB.lt
  have x0 := hB1.cell 0
  have x1 := hB1.cell 1
  clear k0 k1
  go_wp2_with fail
  refine (ref02Put_yes A n c l a ha k hk _ (h.call b01) (by omega) hr).mono ?_
  rintro _ w2 ⟨A2, n2, c2, rfl, o2, b2⟩
  have b02 := btr b01 b2 b01.size
  have hB2 := hB1.below b2 hB1.lt
  have y0 := hB2.cell 0
  have y1 := hB2.cell 1
  have q1 := o1.below b2
  have hn1 : n1 = n + (1 + (k + 7) / 8) := q1.1.trans HL.out
  have hc1 := q1.cap
  have s1 := q1.bs.drop_ (k := n) (by omega) hc1
  rw [if_neg (by omega), HD.out] at s1
  obtain ⟨g1, cap1, hv1, hg1, hgl1⟩ := q1.2.form (by omega)
  have hA1 : A1 = some ⟨g1, 0, none⟩ := by injection hv1
  subst hA1
  clear hv1
  rw [Option.map_some, addr_at] at s1
  have hnc : (n : Int) ≤ n1 := by omega
  have hnc2 : (n : Int) ≤ c1 := by omega
  have hnc3 : ¬ c1 = n := by omega
  have HN1 := Lib.hid hn1
  have hnl : n < n1 := by omega
  clear x0 x1 hn1
  go_wp2_with (first
    | (go_at_call 56; refine (ref01Same _ A2 n1 n2 c1 c2 _ _ _ _ _ q1.bs o2.bs).mono ?_; simp only [beq_self_eq_true]; rintro _ _ ⟨rfl, rfl⟩)
    | (at_builtin; refine wpl_app rfl (.tmp 47) (.tmp 51) _ rfl 5 Tryd.underlying55 u8info w2.heap.size _ 0 0 [] (by rfl) (ob_empty w2 (Nat.le_refl _)) w2.heap.size (some ⟨g1, n, none⟩) (n1 - n) (c1 - n) (pBytes a k) (by rfl) (s1.alloc (Nat.le_refl _) _) (by have := HP.out; simp; omega) (by simp) ?_; intro A3 n3 c3 w3 o3 b3 g3; rw [List.nil_append] at o3; have b23 : Below w2.heap.size w2 w3 := ((Below.refl _ _).alloc (Nat.le_refl _) _).trans b3; have b03 := btr b02 b23 b02.size; have h3 := h'.call b03; have hB3 := hB2.below b23 hB2.lt)
    | (at_builtin; refine wpl_app rfl (.tmp 52) (.tmp 53) _ rfl 5 Tryd.underlying55 u8info w2.heap.size A3 n3 c3 (pBytes a k) (by rfl) o3 w3.heap.size A' n' c' l' (by rfl) h3 (by have := HP.out; have := h3.len; omega) b23.size ?_; intro A4 n4 c4 w4 o4 b4 g4; have b24 := b23.trans b4; have b04 := btr b02 b24 b02.size; have hB4 := hB2.below b24 hB2.lt))
  refine (readerNew A4 n4 c4 (pBytes a k ++ l') _ o4.bs (by rw [o4.1]; exact HM.out)).mono ?_
  rintro _ w5 ⟨g, rfl, hg, r5, b5⟩
  have b05 := btr b04 b5 b04.size
  have hB5 := hB4.below b5 hB4.lt
  have hgw : w.heap.size ≤ g := Nat.le_trans b04.size hg
  go_wp2_with fail
  refine (prefixRead_ok g a ha k hk l' _ r5 HM.out hr).mono ?_
  rintro _ w6 ⟨rfl, r6, g6⟩
  have b06 := at_below b05 g6 b05.size hgw
  have hB6 := hB5.grown g6 (by intro e; injection e with e; have := hB4.lt; omega)
  have b07 := b06.alloc b06.size (.cells #[.int .u32 a, .int .i64 k] 24)
  have z0 := hB6.cell 0
  have z1 := hB6.cell 1
  have hpl := hB6.lt
  clear y0 y1
  go_wp2_with fail
  refine (readerLeft g l' false _ (rd_below r6 ((Below.refl _ _).alloc (Nat.le_refl _) (.cells #[.int .u32 a, .int .i64 k] 24)) (Nat.le_refl _))).mono ?_
  simp only [Bool.false_eq_true, if_false, ← HN.out]
  rintro _ _ ⟨rfl, rfl⟩
  go_wp2_with fail
  refine (awake02 _ (ht.call b07)).mono ?_
  rintro _ w9 ⟨rfl, b9⟩
  have b09 := btr b07 b9 b07.size
  go_wp2_with fail
  go_ret
  exact ⟨rfl, b09⟩
theorem lawPrefixPuts (w : World) (A : Option Addr) (n c : Nat) (l : List UInt8) (h : BS w w.heap.size A n l) (_ : n ≤ c) (_ : c ≤ maxLen) (a : Nat) (m : Int) (ha : a < 4294967296) (_ : (Lit.int .i64 m).wf = true) (A' : Option Addr) (n' c' : Nat) (l' : List UInt8) (h' : BS w w.heap.size A' n' l') (_ : n' ≤ c') (_ : c' ≤ maxLen) (ht : DigTab w) :
    Calls Tryd.prog 11 #[.slice A n c, .agg #[.int .u32 a, .int .i64 m], .slice A' n' c'] w fun en w' => en = .returned (.bool true) ∧ Below w.heap.size w w' := by
  by_cases hl : 500 < n ∨ 500 < n'
  · exact prefixPuts_long w A n c a m A' n' c' ht hl
  · cases hr : pRight a m
    · exact prefixPuts_no w A n c a ha m A' n' c' ht (by omega) (by omega) hr
    · obtain ⟨k, rfl, hk, _⟩ := pRight_of hr
      exact prefixPuts_yes w A n c l a ha k hk A' n' c' l' h h' ht (by omega) (by omega) hr
end Go.Proofs.YtnhkpnohadbcdaaDoor
