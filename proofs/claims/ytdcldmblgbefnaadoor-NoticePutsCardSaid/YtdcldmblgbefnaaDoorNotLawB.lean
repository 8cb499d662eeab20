/- The walks of two laws of layer 8: NoticePuts, NoticeReads. Conditions: the table of digits (DigTab). -/
import Derived.Test.YtdcldmblgbefnaaDoorProg
import Derived.WalkKit
import Derived.WalkSpells
import Derived.WalkLawsBesides
import Derived.Outline
import Derived.Deep.QuietTactic
import Derived.BigQuiet
import Derived.Handy
import Derived.Lib.Hide
import Derived.Test.YtdcldmblgbefnaaDoorNotLaw
import Derived.Test.YtdcldmblgbefnaaDoorNotReadR
namespace Go.Proofs.YtdcldmblgbefnaaDoor
open Go.RowKit
theorem npOut_ok {a b : Int} {l : List UInt8} (h : npE a b l.length = 0) : (0 ≤ a ∧ a ≤ 255 ∧ 0 ≤ b ∧ b ≤ 255) ∧ npOut a b l = ub a :: ub b :: l := by
  unfold npE at h
  split at h
  · cases h
  · split at h
    · cases h
    · rename_i h1 h2
      exact ⟨by omega, by rw [npOut, if_neg (by omega)]⟩
theorem npOut_len (a b : Int) (l : List UInt8) : (npOut a b l).length ≤ l.length + 2 := by
  unfold npOut
  split
  · simp
  · simp
set_option maxHeartbeats 1000000 in
set_option maxRecDepth 100000 in
theorem lawNoticePuts (w : World) (a b : Int) (A : Option Addr) (n c : Nat) (l : List UInt8) (_ : (Lit.int .i64 a).wf = true) (_ : (Lit.int .i64 b).wf = true) (h : BS w w.heap.size A n l) (_ : n ≤ c) (_ : c ≤ maxLen) (ht : DigTab w) :
    Calls Tryd.prog 18 #[.agg #[.int .i64 a, .int .i64 b, .slice A n c]] w fun en w' => en = .returned (.bool true) ∧ Below w.heap.size w w' := by
  have b0 := (Below.refl w.heap.size w).alloc (Nat.le_refl _) (.cells #[.int .i64 a, .int .i64 b, .slice A n c] 29)
  have hB0 := Blk.new w 29 #[.int .i64 a, .int .i64 b, .slice A n c]
  by_cases hn : n ≤ 5000
  · have hni : (n : Int) ≤ 5000 := by omega
    have HLN := Lib.hid h.len
    have hol := npOut_len a b l
    rw [← HLN.out] at hol
    obtain ⟨E, hE⟩ : ∃ E, npE a b l.length = E := ⟨_, rfl⟩
    obtain ⟨L, hL⟩ : ∃ L, npOut a b l = L := ⟨_, rfl⟩
    rw [hL] at hol
    by_cases hE0 : E = 0
    · subst hE0
      obtain ⟨⟨ha0, ha1, hb0, hb1⟩, hO⟩ := npOut_ok hE
      rw [hL] at hO
      have HX := Lib.hid (show (((if L.length < 2 then 0 else lb L 0 : Nat) : Nat) : Int) = a by rw [hO, if_neg (by simp)]; exact ub_toNat ha0 ha1)
      have HY := Lib.hid (show (((if L.length < 2 then 0 else lb L 1 : Nat) : Nat) : Int) = b by rw [hO, if_neg (by simp)]; exact ub_toNat hb0 hb1)
      have HZ := Lib.hid (show (((if L.length < 2 then 3 else 0 : Nat) : Nat) : Int) = 0 by rw [hO, if_neg (by simp)]; rfl)
      have HD := Lib.hid (show L.drop 2 = l by rw [hO]; rfl)
      have HE := Lib.hid hE
      have HL := Lib.hid hL
      clear hE hL hO
      go_enter Tryd.func18, Tryd.ntmps18
      go_wp2_with fail
      refine (noticePut a b A n c l _ (h.call b0) (by omega)).mono ?_
      rintro _ w1 ⟨A1, n1, c1, rfl, o1, b1⟩
      rw [HE.out]
      rw [HL.out] at o1
      have hB1 := hB0.below b1 (by simp)
      have b01 := btr b0 b1 b0.size
      have e0 := hB1.cell 0
      have e1 := hB1.cell 1
      have e2 := hB1.cell 2
      go_wp2_with fail
      refine (refNoticePut a b A n c l _ (h.call b01) (by omega)).mono ?_
      rintro _ w2 ⟨A2, n2, c2, rfl, o2, b2⟩
      rw [HE.out]
      rw [HL.out] at o2
      have hB2 := hB1.below b2 hB1.lt
      have b02 := btr b01 b2 b01.size
      go_wp2_with fail
      refine (ref01Same A1 A2 n1 n2 c1 c2 _ _ _ _ _ (o1.below b2).bs o2.bs).mono ?_
      simp only [beq_self_eq_true]
      rintro _ _ ⟨rfl, rfl⟩
      go_wp2_with fail
      refine (noticeRead A1 n1 c1 L _ (o1.below b2).bs o1.cap (by have := o1.1; omega)).mono ?_
      rintro _ w3 ⟨A3, n3, c3, rfl, o3, b3⟩
      rw [HX.out, HY.out, HZ.out]
      rw [HD.out] at o3
      have hB3 := hB2.below b3 hB2.lt
      have b03 := btr b02 b3 b02.size
      have b04 := b03.alloc b03.size (.cells #[.int .i64 a, .int .i64 b, .slice A3 n3 c3] 29)
      have hB4 := hB3.alloc (.cells #[.int .i64 a, .int .i64 b, .slice A3 n3 c3] 29)
      have e0 := hB4.cell 0
      have e1 := hB4.cell 1
      have e2 := hB4.cell 2
      go_wp2_with fail
      refine (sameFault_any a b a b A3 A n3 c3 n c l l _ ((o3.alloc (Nat.le_refl _) _).more (by simp)) (h.call b04)).mono ?_
      simp only [beq_self_eq_true, Bool.and_self]
      rintro _ w5 ⟨rfl, b5⟩
      have b05 := btr b04 b5 b04.size
      go_wp2_with fail
      refine (awake08 _ (ht.call b05)).mono ?_
      rintro _ w6 ⟨rfl, b6⟩
      go_wp2_with fail
      go_ret
      exact ⟨rfl, btr b05 b6 b05.size⟩
    · have hE1 : (E != 0) = true := by simpa using hE0
      have HE := Lib.hid hE
      have HL := Lib.hid hL
      clear hE hL
      go_enter Tryd.func18, Tryd.ntmps18
      go_wp2_with fail
      refine (noticePut a b A n c l _ (h.call b0) (by omega)).mono ?_
      rintro _ w1 ⟨A1, n1, c1, rfl, o1, b1⟩
      rw [HE.out]
      rw [HL.out] at o1
      have hB1 := hB0.below b1 (by simp)
      have b01 := btr b0 b1 b0.size
      have e0 := hB1.cell 0
      have e1 := hB1.cell 1
      have e2 := hB1.cell 2
      go_wp2_with fail
      refine (refNoticePut a b A n c l _ (h.call b01) (by omega)).mono ?_
      rintro _ w2 ⟨A2, n2, c2, rfl, o2, b2⟩
      rw [HE.out]
      rw [HL.out] at o2
      have b02 := btr b01 b2 b01.size
      go_wp2_with fail
      refine (ref01Same A1 A2 n1 n2 c1 c2 _ _ _ _ _ (o1.below b2).bs o2.bs).mono ?_
      simp only [beq_self_eq_true]
      rintro _ _ ⟨rfl, rfl⟩
      go_wp2_with fail
      refine (noticeRead A1 n1 c1 L _ (o1.below b2).bs o1.cap (by have := o1.1; omega)).mono ?_
      rintro _ w3 ⟨A3, n3, c3, rfl, o3, b3⟩
      obtain ⟨X, hX⟩ : ∃ X : Int, (((if L.length < 2 then 0 else lb L 0 : Nat) : Nat) : Int) = X := ⟨_, rfl⟩
      obtain ⟨Y, hY⟩ : ∃ X : Int, (((if L.length < 2 then 0 else lb L 1 : Nat) : Nat) : Int) = X := ⟨_, rfl⟩
      obtain ⟨Z, hZ⟩ : ∃ X : Int, (((if L.length < 2 then 3 else 0 : Nat) : Nat) : Int) = X := ⟨_, rfl⟩
      rw [hX, hY, hZ]
      clear hX hY hZ
      have b03 := btr b02 b3 b02.size
      have b04 := b03.alloc b03.size (.cells #[.int .i64 X, .int .i64 Y, .slice A3 n3 c3] 29)
      go_wp2_with fail
      refine (awake08 _ (ht.call b04)).mono ?_
      rintro _ w6 ⟨rfl, b6⟩
      go_wp2_with fail
      go_ret
      exact ⟨rfl, btr b04 b6 b04.size⟩
  · have hni : 5000 < (n : Int) := by omega
    go_enter Tryd.func18, Tryd.ntmps18
    go_wp2_with fail
    refine (awake08 _ (ht.call b0)).mono ?_
    rintro _ w1 ⟨rfl, b1⟩
    go_wp2_with fail
    go_ret
    exact ⟨rfl, btr b0 b1 b0.size⟩
end Go.Proofs.YtdcldmblgbefnaaDoor
