/- The walk of the law OctetHex. Conditions: the table of digits (DigTab). -/
import Derived.Test.YtdcldmblgbefnaaDoorProg
import Derived.WalkKit
import Derived.WalkSpells
import Derived.WalkLawsBesides
import Derived.Outline
import Derived.Deep.QuietTactic
import Derived.BigQuiet
import Derived.Handy
import Derived.Lib.Hide
import Derived.Test.YtdcldmblgbefnaaDoorRefHex
import Derived.Test.YtdcldmblgbefnaaDoorOctLaw
namespace Go.Proofs.YtdcldmblgbefnaaDoor
open Go.RowKit
set_option maxHeartbeats 2000000 in
set_option maxRecDepth 100000 in
theorem lawOctetHex (w : World) (A : Option Addr) (n c : Nat) (l : List UInt8) (h : BS w w.heap.size A n l) (_ : n ≤ c) (_ : c ≤ maxLen) (s : ByteArray) (_ : s.size ≤ maxLen) (ht : DigTab w) :
    Calls Tryd.prog 7 #[.slice A n c, .string s] w fun en w' => en = .returned (.bool true) ∧ Below w.heap.size w w' := by
  by_cases hn : n ≤ 300
  · by_cases hs : s.size ≤ 300
    · have hni : (n : Int) ≤ 300 := by omega
      have hsi : (s.size : Int) ≤ 300 := by omega
      obtain ⟨S, hS⟩ : ∃ S : ByteArray, S = ⟨(hexL l).toArray⟩ := ⟨_, rfl⟩
      have hSs : S.size ≤ 100000 := by
        have e : S.size = (hexL l).length := by rw [hS]; rfl
        have := h.len
        rw [e, hexL_length]; omega
      have HU : Hid (unhexL S.data.toList = some l) := Lib.hid (by rw [hS]; exact unhexL_hexL l)
      have HS := Lib.hid hS
      clear hS
      go_enter Tryd.func7, Tryd.ntmps7
      go_wp2_with fail
      refine (hex_any A n c l S _ ht h (by omega) HS).mono ?_
      rintro _ w1 ⟨rfl, b1⟩
      go_wp2_with fail
      refine (unhex_any S _ (ht.call b1) hSs).mono ?_
      rw [HU.out]
      rintro _ w2 ⟨A2, n2, c2, rfl, o2, b2⟩
      have b12 := b1.trans (b2.mono b1.size)
      go_wp2_with fail
      refine (unhex_any s _ (ht.call b12) (by omega)).mono ?_
      rintro _ w3 ⟨A3, n3, c3, rfl, o3, b3⟩
      have b13 := b12.trans (b3.mono b12.size)
      go_wp2_with fail
      refine (refUnhex_any s _ (by omega)).mono ?_
      rintro _ w4 ⟨A4, n4, c4, rfl, o4, b4⟩
      have b14 := b13.trans (b4.mono b13.size)
      go_wp2_with fail
      refine (refHex_any A n c l S _ (h.call b14) (by omega) HS).mono ?_
      rintro _ w5 ⟨rfl, b5⟩
      have b15 := b14.trans (b5.mono b14.size)
      go_wp2_with fail
      refine (ref01Same A2 A n2 n c2 c _ _ _ _ _ (((o2.below b3).below b4).below b5).bs (h.call b15)).mono ?_
      simp only [Option.getD_some, beq_self_eq_true]
      rintro _ _ ⟨rfl, rfl⟩
      go_wp2_with fail
      refine (ref01Same A3 A4 n3 n4 c3 c4 _ _ _ _ _ ((o3.below b4).below b5).bs (o4.below b5).bs).mono ?_
      simp only [beq_self_eq_true]
      rintro _ _ ⟨rfl, rfl⟩
      go_wp2_with fail
      refine (awake01 _ (ht.call b15)).mono ?_
      rintro _ w6 ⟨rfl, b6⟩
      go_wp2_with fail
      go_ret
      exact ⟨rfl, b15.trans (b6.mono b15.size)⟩
    · have hni : (n : Int) ≤ 300 := by omega
      have hsi : 300 < (s.size : Int) := by omega
      go_enter Tryd.func7, Tryd.ntmps7
      go_wp2_with fail
      refine (awake01 _ ht).mono ?_
      rintro _ w6 ⟨rfl, b6⟩
      go_wp2_with fail
      go_ret
      exact ⟨rfl, b6⟩
  · have hni : 300 < (n : Int) := by omega
    go_enter Tryd.func7, Tryd.ntmps7
    go_wp2_with fail
    refine (awake01 _ ht).mono ?_
    rintro _ w6 ⟨rfl, b6⟩
    go_wp2_with fail
    go_ret
    exact ⟨rfl, b6⟩
end Go.Proofs.YtdcldmblgbefnaaDoor
