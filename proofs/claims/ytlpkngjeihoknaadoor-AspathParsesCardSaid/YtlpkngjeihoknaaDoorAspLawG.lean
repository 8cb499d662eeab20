/- The statement AspathParses: its walk. Conditions: the table of digits. -/
import Derived.Test.YtlpkngjeihoknaaDoorProg
import Derived.WalkKit
import Derived.WalkSpells
import Derived.WalkLawsBesides
import Derived.Outline
import Derived.Deep.QuietTactic
import Derived.BigQuiet
import Derived.Handy
import Derived.Lib.Hide
import Derived.Test.YtlpkngjeihoknaaDoorAspXC
import Derived.Test.YtlpkngjeihoknaaDoorAspLawA
namespace Go.Proofs.YtlpkngjeihoknaaDoor
open Go.RowKit
set_option linter.unusedSimpArgs false
set_option linter.unusedVariables false
theorem refP_bd (l : List UInt8) : (refP l).1.length ≤ 8 ∧ sumN (refP l).1 ≤ 64 := by
  unfold refP
  split
  · split
    · rename_i h
      have := rightA_of h
      exact ⟨this.2.2, this.2.1⟩
    · exact ⟨by simp, by simp [sumN]⟩
  · exact ⟨by simp, by simp [sumN]⟩
theorem parse_back (s : ByteArray) {M : List Seg} (h : parseR s = (M, true)) : textS M = s := by
  unfold parseR at h
  split at h
  · rename_i he
    injection h with h _
    subst h
    unfold textS
    exact bytesExt he
  · injection h with _ h
    cases h
set_option maxHeartbeats 4000000 in
set_option maxRecDepth 100000 in
theorem lawAspathParses (w : World) (s : ByteArray) (_ : s.size ≤ maxLen) (ht : DigTab w) :
    Calls Tryd.prog 4 #[.string s] w fun en w' => en = .returned (.bool true) ∧ Below w.heap.size w w' := by
  by_cases hn : s.size ≤ 1000
  case neg =>
    have e2 : decide (1000 < (s.size : Int)) = true := decide_eq_true (by omega)
    have hni : 1000 < (s.size : Int) := by omega
    go_enter Tryd.func4, Tryd.ntmps4
    go_wp2_with fail
    refine (awake03 _ ht).mono ?_
    rintro _ w1 ⟨rfl, b1⟩
    have b01 := b1
    go_wp2_with fail
    go_ret
    exact ⟨rfl, b01⟩
  have e2 : decide (1000 < (s.size : Int)) = false := decide_eq_false (by omega)
  have hni : (s.size : Int) ≤ 1000 := by omega
  have hbd := refP_bd s.data.toList
  rw [refP_is] at hbd
  obtain ⟨⟨M, ok⟩, hp⟩ : ∃ p, p = parseR s := ⟨_, rfl⟩
  rw [← hp] at hbd
  have HB := Lib.hid (show M.length ≤ 8 ∧ sumN M ≤ 64 from hbd)
  have H1 := Lib.hid (show ∀ w, DigTab w → Calls Tryd.prog 21 #[.string s] w (RetPr w (M, ok)) from fun w ht => by rw [hp]; exact aspParse s w ht (by omega))
  have H2 := Lib.hid (show ∀ w, Calls Tryd.prog 24 #[.string s] w (RetPr w (M, ok)) from fun w => by rw [hp, ← refP_is]; exact refParse03 s w (by omega))
  have H3 := Lib.hid (show ∀ (w : World) (A A' : Option Addr) (n n' c c' : Nat), DL rSeg 2 w (Lo w) A n M → DL rSeg 2 w (Lo w) A' n' M → Calls Tryd.prog 22 #[.slice A n c, .slice A' n' c'] w fun en w' => en = .returned (.bool true) ∧ Below w.heap.size w w' from fun w A A' n n' c c' hd hd' => by
    have := refSame03 A A' n n' c c' M M w hd hd' (by rw [hd.len]; have := HB.out.1; omega) (Lib.hid (by have := HB.out.2; unfold big32; omega))
    rwa [beq_self_eq_true] at this)
  have H4 := Lib.hid (show ok = true → ∀ (w : World) (A : Option Addr) (n c : Nat), DL rSeg 2 w (Lo w) A n M → DigTab w → Calls Tryd.prog 18 #[.slice A n c] w fun en w' => en = .returned (.string s) ∧ Below w.heap.size w w' from fun e w A n c hd ht => by
    have := aspText A n c M w hd (by rw [hd.len]; have := HB.out.1; omega) ht
    rw [parse_back s (M := M) (by rw [← hp, e])] at this
    exact this)
  have e3 : (s.toList == s.toList) = true := by simp
  clear hp hbd hn
  cases ok
  · go_enter Tryd.func4, Tryd.ntmps4
    go_wp2_with fail
    refine (H1.out _ ht).mono ?_
    rintro _ w1 ⟨A1, n1, c1, L1, rfl, o1, hL1, b1⟩
    have b01 := b1
    have D1 := o1.dl
    rw [hL1] at D1
    clear hL1
    go_wp2_with fail
    refine (H2.out _).mono ?_
    rintro _ w2 ⟨A2, n2, c2, L2, rfl, o2, hL2, b2⟩
    have b02 := btr b01 b2 b01.size
    have D1_2 := D1.segB b2
    have D2 := o2.dl
    rw [hL2] at D2
    clear hL2
    go_wp2_with fail
    refine (H3.out _ A1 A2 n1 n2 c1 c2 D1_2 D2).mono ?_
    rintro _ w3 ⟨rfl, b3⟩
    have b03 := btr b02 b3 b02.size
    have D1_3 := D1_2.segB b3
    clear D1_2
    go_wp2_with fail
    refine (awake03 _ (ht.call b03)).mono ?_
    rintro _ w4 ⟨rfl, b4⟩
    have b04 := btr b03 b4 b03.size
    have D1_4 := D1_3.segB b4
    clear D1_3
    go_wp2_with fail
    go_ret
    exact ⟨rfl, b04⟩
  · have H5 := Lib.hid (H4.out rfl)
    clear H4
    go_enter Tryd.func4, Tryd.ntmps4
    go_wp2_with fail
    refine (H1.out _ ht).mono ?_
    rintro _ w1 ⟨A1, n1, c1, L1, rfl, o1, hL1, b1⟩
    have b01 := b1
    have D1 := o1.dl
    rw [hL1] at D1
    clear hL1
    go_wp2_with fail
    refine (H2.out _).mono ?_
    rintro _ w2 ⟨A2, n2, c2, L2, rfl, o2, hL2, b2⟩
    have b02 := btr b01 b2 b01.size
    have D1_2 := D1.segB b2
    have D2 := o2.dl
    rw [hL2] at D2
    clear hL2
    go_wp2_with fail
    refine (H3.out _ A1 A2 n1 n2 c1 c2 D1_2 D2).mono ?_
    rintro _ w3 ⟨rfl, b3⟩
    have b03 := btr b02 b3 b02.size
    have D1_3 := D1_2.segB b3
    clear D1_2
    go_wp2_with fail
    refine (H5.out _ A1 n1 c1 D1_3 (ht.call b03)).mono ?_
    rintro _ w4 ⟨rfl, b4⟩
    have b04 := btr b03 b4 b03.size
    have D1_4 := D1_3.segB b4
    clear D1_3
    go_wp2_with fail
    refine (awake03 _ (ht.call b04)).mono ?_
    rintro _ w5 ⟨rfl, b5⟩
    have b05 := btr b04 b5 b04.size
    have D1_5 := D1_4.segB b5
    clear D1_4
    go_wp2_with fail
    go_ret
    exact ⟨rfl, b05⟩
end Go.Proofs.YtlpkngjeihoknaaDoor
