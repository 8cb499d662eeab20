/- The walk of the law OctetTakes. Conditions: the table of digits (DigTab). -/
import Derived.Test.YtdcldmblgbefnaaDoorProg
import Derived.WalkKit
import Derived.WalkSpells
import Derived.WalkLawsBesides
import Derived.Outline
import Derived.Deep.QuietTactic
import Derived.BigQuiet
import Derived.Handy
import Derived.Lib.Hide
import Derived.Deep.RegionHeld3
import Derived.Test.YtdcldmblgbefnaaDoorOctLaw
import Derived.Test.YtdcldmblgbefnaaDoorReaderB
namespace Go.Proofs.YtdcldmblgbefnaaDoor
open Go.RowKit
theorem keepT {w w2 W W' : World} (h12 : w.heap.size ≤ w2.heap.size) (hb : Below W.heap.size W W') (h : Below w.heap.size w W ∧ Below w2.heap.size w2 W) : Below w.heap.size w W' ∧ Below w2.heap.size w2 W' :=
  ⟨btr h.1 hb (Nat.le_trans h12 h.2.size), btr h.2 hb h.2.size⟩
theorem keepT2 {w w2 W W' : World} {C1 C2 : World → Prop} (h12 : w.heap.size ≤ w2.heap.size) (h1 : ∀ W, Below w2.heap.size w2 W → C1 W) (h2 : ∀ W, Below w2.heap.size w2 W → C2 W) (hb : Below W.heap.size W W') (h : Below w.heap.size w W ∧ Below w2.heap.size w2 W ∧ C1 W ∧ C2 W) : Below w.heap.size w W' ∧ Below w2.heap.size w2 W' ∧ C1 W' ∧ C2 W' :=
  have e := keepT h12 hb ⟨h.1, h.2.1⟩
  ⟨e.1, e.2, h1 _ e.2, h2 _ e.2⟩
theorem RD.below {w w' : World} {B g : Nat} {l : List UInt8} {s : Bool} (h : RD w g l s) (hb : Below B w w') (hB : w.heap.size ≤ B) : RD w' g l s := by
  have hlt := h.lt
  obtain ⟨A, n, c, h1, h2, h3⟩ := h
  exact ⟨A, n, c, h1.below hb (by omega), h2, (h3.below (hb.mono hB)).more hb.size⟩
theorem DigTab.grownAt {w w' : World} {g : Nat} (h : DigTab w) (hg : w.grownBy w' (some g)) (hne : 1 ≠ g) : DigTab w' := by
  have hlt := h.lt
  obtain ⟨t, fr, h⟩ := h
  exact ⟨t, fr, (hg.block _ hlt (fun e => hne (by injection e))).trans h⟩
/-- A call that changes one block of the call's own. -/
theorem below_at {B : Nat} {a w w' : World} {g : Nat} (h : Below B a w) (hg : w.grownBy w' (some g)) (hB : B ≤ w.heap.size) (hle : B ≤ g) : Below B a w' :=
  h.grown hg hB (fun k hk => by injection hk; omega)
set_option maxHeartbeats 1000000 in
set_option maxRecDepth 100000 in
theorem octetTakes_bad (w : World) (A : Option Addr) (n c : Nat) (l : List UInt8) (h : BS w w.heap.size A n l) (hn : n ≤ 2000) (_ : (n : Int) ≤ 2000) (k : Int) (hk : k < 0 ∨ (n : Int) < k) (ht : DigTab w) :
    Calls Tryd.prog 10 #[.slice A n c, .int .i64 k] w fun en w' => en = .returned (.bool true) ∧ Below w.heap.size w w' := by
  have hk' : k < 0 ∨ (l.length : Int) < k := by rw [← h.len]; exact hk
  have ho : false = true ∨ k < 0 ∨ (l.length : Int) < k := .inr hk'
  have E1 := Lib.hid (show tkOut l false k = [] by rw [tkOut, if_pos ho])
  have E2 := Lib.hid (show tkLeft l false k = l by rw [tkLeft, if_pos ho])
  have E3 := Lib.hid (show tkShort l false k = true by rw [tkShort, decide_eq_true ho])
  clear ho hk'
  by_cases hk0 : k < 0
  · clear hk
    go_enter Tryd.func10, Tryd.ntmps10
    go_wp2_with fail
    refine (readerNew A n c l _ h (by omega)).mono ?_
    rintro _ w1 ⟨g, rfl, hg, r1, b1⟩
    go_wp2_with fail
    refine (readerTake g l false k _ r1 (by rw [← h.len]; omega)).mono ?_
    rintro _ w2 ⟨A2, n2, c2, rfl, o2, r2, g2⟩
    rw [E1.out] at o2
    rw [E2.out, E3.out] at r2
    have b2 := below_at b1 g2 b1.size hg
    obtain rfl : n2 = 0 := o2.1
    go_wp2_with fail
    refine (readerLeft g l true _ r2).mono ?_
    rintro _ _ ⟨rfl, rfl⟩
    go_wp2_with fail
    refine (readerErr g l true _ r2).mono ?_
    rintro _ _ ⟨rfl, rfl⟩
    go_wp2_with fail
    refine (readerTake g l true 0 _ r2 (by rw [← h.len]; omega)).mono ?_
    rintro _ w3 ⟨A3, n3, c3, rfl, o3, r3, g3⟩
    rw [tkOut, if_pos (Or.inl rfl)] at o3
    rw [tkLeft, if_pos (Or.inl rfl), tkShort, decide_eq_true (Or.inl rfl)] at r3
    have b3 := below_at b2 g3 b2.size hg
    obtain rfl : n3 = 0 := o3.1
    go_wp2_with fail
    refine (readerByte g l true _ r3 (by rw [← h.len]; omega)).mono ?_
    rw [tkOut, if_pos (Or.inl rfl), tkLeft, if_pos (Or.inl rfl), tkShort, decide_eq_true (Or.inl rfl)]
    rintro _ w4 ⟨rfl, r4, g4⟩
    have b4 := below_at b3 g4 b3.size hg
    go_wp2_with fail
    refine (readerErr g l true _ r4).mono ?_
    rintro _ _ ⟨rfl, rfl⟩
    go_wp2_with fail
    refine (awake01 _ (ht.call b4)).mono ?_
    rintro _ w5 ⟨rfl, b5⟩
    go_wp2_with fail
    go_ret
    exact ⟨rfl, btr b4 b5 b4.size⟩
  · have hk1 : (n : Int) < k := by omega
    have hk2 : (0 : Int) ≤ k := by omega
    clear hk
    go_enter Tryd.func10, Tryd.ntmps10
    go_wp2_with fail
    refine (readerNew A n c l _ h (by omega)).mono ?_
    rintro _ w1 ⟨g, rfl, hg, r1, b1⟩
    go_wp2_with fail
    refine (readerTake g l false k _ r1 (by rw [← h.len]; omega)).mono ?_
    rintro _ w2 ⟨A2, n2, c2, rfl, o2, r2, g2⟩
    rw [E1.out] at o2
    rw [E2.out, E3.out] at r2
    have b2 := below_at b1 g2 b1.size hg
    obtain rfl : n2 = 0 := o2.1
    go_wp2_with fail
    refine (readerLeft g l true _ r2).mono ?_
    rintro _ _ ⟨rfl, rfl⟩
    go_wp2_with fail
    refine (readerErr g l true _ r2).mono ?_
    rintro _ _ ⟨rfl, rfl⟩
    go_wp2_with fail
    refine (readerTake g l true 0 _ r2 (by rw [← h.len]; omega)).mono ?_
    rintro _ w3 ⟨A3, n3, c3, rfl, o3, r3, g3⟩
    rw [tkOut, if_pos (Or.inl rfl)] at o3
    rw [tkLeft, if_pos (Or.inl rfl), tkShort, decide_eq_true (Or.inl rfl)] at r3
    have b3 := below_at b2 g3 b2.size hg
    obtain rfl : n3 = 0 := o3.1
    go_wp2_with fail
    refine (readerByte g l true _ r3 (by rw [← h.len]; omega)).mono ?_
    rw [tkOut, if_pos (Or.inl rfl), tkLeft, if_pos (Or.inl rfl), tkShort, decide_eq_true (Or.inl rfl)]
    rintro _ w4 ⟨rfl, r4, g4⟩
    have b4 := below_at b3 g4 b3.size hg
    go_wp2_with fail
    refine (readerErr g l true _ r4).mono ?_
    rintro _ _ ⟨rfl, rfl⟩
    go_wp2_with fail
    refine (awake01 _ (ht.call b4)).mono ?_
    rintro _ w5 ⟨rfl, b5⟩
    go_wp2_with fail
    go_ret
    exact ⟨rfl, btr b4 b5 b4.size⟩
set_option maxHeartbeats 1000000 in
set_option maxRecDepth 100000 in
theorem octetTakes_ok (w : World) (A : Option Addr) (n c : Nat) (l : List UInt8) (h : BS w w.heap.size A n l) (hnc : n ≤ c) (hn : n ≤ 2000) (_ : (n : Int) ≤ 2000) (k : Nat) (hk : k ≤ n) (ht : DigTab w) :
    Calls Tryd.prog 10 #[.slice A n c, .int .i64 k] w fun en w' => en = .returned (.bool true) ∧ Below w.heap.size w w' := by
  have hl2 := h.len
  have ho : ¬ (false = true ∨ (k : Int) < 0 ∨ (l.length : Int) < k) := by simp; omega
  have E1 := Lib.hid (show tkOut l false k = l.take k by rw [tkOut, if_neg ho, Int.toNat_natCast])
  have E2 := Lib.hid (show tkLeft l false k = l.drop k by rw [tkLeft, if_neg ho, Int.toNat_natCast])
  have E3 := Lib.hid (show tkShort l false k = false by rw [tkShort, decide_eq_false ho])
  have E4 := Lib.hid (show (l.drop k).length = n - k by rw [List.length_drop, hl2])
  have hk1 : (k : Int) ≤ n := by omega
  have hk0 : (0 : Int) ≤ k := by omega
  have hkc : k ≤ c := by omega
  have hw : IntKind.i64.wrap ((n : Int) - k) = ((n - k : Nat) : Int) := by rw [IntWalk.i64_in _ ⟨by omega, by omega⟩]; omega
  clear ho hl2
  go_enter Tryd.func10, Tryd.ntmps10
  go_wp2_with fail
  refine (readerNew A n c l _ h (by omega)).mono ?_
  rintro _ w1 ⟨g, rfl, hg, r1, b1⟩
  go_wp2_with fail
  refine (readerTake g l false k _ r1 (by rw [← h.len]; omega)).mono ?_
  rintro _ w2 ⟨A2, n2, c2, rfl, o2, r2, g2⟩
  rw [E1.out] at o2
  rw [E2.out, E3.out] at r2
  have b2 := below_at b1 g2 b1.size hg
  have h12 := b2.size
  have hbk := (h.call b2).take_ hk
  have HC1 := Lib.hid (show ∀ W, Below w2.heap.size w2 W → (convert 27 9 (.slice A2 n2 c2)).run Tryd.prog W = .ok (.string ⟨(l.take k).toArray⟩) W from fun W hW => (o2.below hW).bs.conv (P := Tryd.prog) 27 9 5 c2 Tryd.underlying27 Tryd.underlying5 Tryd.underlying9)
  have HC2 := Lib.hid (show ∀ W, Below w2.heap.size w2 W → (convert 27 9 (.slice A k c)).run Tryd.prog W = .ok (.string ⟨(l.take k).toArray⟩) W from fun W hW => (hbk.below hW).conv (P := Tryd.prog) 27 9 5 c Tryd.underlying27 Tryd.underlying5 Tryd.underlying9)
  have hc1 := (BS.drew o2.bs).conv (P := Tryd.prog) 27 9 5 c2 Tryd.underlying27 Tryd.underlying5 Tryd.underlying9
  have hc2 := (BS.drew ((h.call b2).take_ hk)).conv (P := Tryd.prog) 27 9 5 c Tryd.underlying27 Tryd.underlying5 Tryd.underlying9
  go_wp2_with fail
  go_region_held3 (fun w' => Below w.heap.size w w' ∧ Below w2.heap.size w2 w' ∧ (convert 27 9 (.slice A2 n2 c2)).run Tryd.prog w' = .ok (.string ⟨(l.take k).toArray⟩) w' ∧ (convert 27 9 (.slice A k c)).run Tryd.prog w' = .ok (.string ⟨(l.take k).toArray⟩) w')
    (first | (with_reducible apply keepT2 h12 HC1.out HC2.out <;> with_reducible assumption) | ((repeat' apply And.intro) <;> first | (with_reducible exact Below.drew (by assumption)) | (with_reducible exact Below.drew (Below.refl _ _)) | go_keep))
    (first
      | (go_at_call 49; refine (readerLeft g (l.drop k) false _ (r2.below (And.left (And.right (by with_reducible assumption))) (Nat.le_refl _))).mono ?_; simp only [Bool.false_eq_true, if_false, E4.out]; rintro _ _ ⟨rfl, rfl⟩)
      | (go_at_call 50; refine (readerErr g (l.drop k) false _ (r2.below (And.left (And.right (by with_reducible assumption))) (Nat.le_refl _))).mono ?_; rintro _ _ ⟨rfl, rfl⟩)
      | (go_at_call 31; refine (awake01 _ (ht.call (And.left (by with_reducible assumption)))).mono ?_; rintro _ w5 ⟨rfl, b5⟩))
  all_goals
    try go_wp2_with fail
    go_ret
    exact ⟨rfl, And.left (by with_reducible assumption)⟩
set_option maxHeartbeats 1000000 in
theorem lawOctetTakes (w : World) (A : Option Addr) (n c : Nat) (l : List UInt8) (h : BS w w.heap.size A n l) (hnc : n ≤ c) (_ : c ≤ maxLen) (k : Int) (_ : (Lit.int .i64 k).wf = true) (ht : DigTab w) :
    Calls Tryd.prog 10 #[.slice A n c, .int .i64 k] w fun en w' => en = .returned (.bool true) ∧ Below w.heap.size w w' := by
  by_cases hn : n ≤ 2000
  · have hni : (n : Int) ≤ 2000 := by omega
    by_cases hk : k < 0 ∨ (n : Int) < k
    · exact octetTakes_bad w A n c l h hn hni k hk ht
    · obtain ⟨m, rfl⟩ := Int.eq_ofNat_of_zero_le (show 0 ≤ k by omega)
      exact octetTakes_ok w A n c l h hnc hn hni m (by omega) ht
  · have hni : 2000 < (n : Int) := by omega
    go_enter Tryd.func10, Tryd.ntmps10
    go_wp2_with fail
    refine (awake01 _ ht).mono ?_
    rintro _ w5 ⟨rfl, b5⟩
    go_wp2_with fail
    go_ret
    exact ⟨rfl, b5⟩
end Go.Proofs.YtdcldmblgbefnaaDoor
