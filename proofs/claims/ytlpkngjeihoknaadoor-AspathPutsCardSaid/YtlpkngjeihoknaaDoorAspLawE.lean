/- The statement AspathReads: its walk. Conditions: the table of digits. -/
import Derived.Test.YtlpkngjeihoknaaDoorProg
import Derived.WalkKit
import Derived.WalkSpells
import Derived.WalkLawsBesides
import Derived.Outline
import Derived.Deep.QuietTactic
import Derived.BigQuiet
import Derived.Handy
import Derived.Lib.Hide
import Derived.Test.YtlpkngjeihoknaaDoorAspV
import Derived.Test.YtlpkngjeihoknaaDoorAspLawA
namespace Go.Proofs.YtlpkngjeihoknaaDoor
open Go.RowKit
set_option linter.unusedSimpArgs false
set_option linter.unusedVariables false
theorem readA_sum {wide : Bool} {l : List UInt8} {M : List Seg} (h : readA wide l = some M) : rightA M = true := by
  unfold readA at h
  split at h
  · rename_i M' hM
    by_cases hr : rightA M' = true
    · rw [if_pos hr] at h; injection h with h; subst h; exact hr
    · rw [if_neg hr] at h; cases h
  · cases h
set_option maxHeartbeats 4000000 in
set_option maxRecDepth 100000 in
theorem lawAspathReads (w : World) (A : Option Addr) (n c : Nat) (l : List UInt8) (w0 : BS w w.heap.size A n l) (wc : n ≤ c) (wm : c ≤ maxLen) (wide : Bool) (ht : DigTab w) :
    Calls Tryd.prog 9 #[.slice A n c, .bool wide] w fun en w' => en = .returned (.bool true) ∧ Below w.heap.size w w' := by
  by_cases hn : n ≤ 1000
  case neg =>
    have e1 : decide ((n : Int) ≤ 1000) = false := decide_eq_false (by omega)
    have e2 : decide (1000 < (n : Int)) = true := decide_eq_true (by omega)
    have hni : 1000 < (n : Int) := by omega
    have W := Lib.hid w0
    clear w0 wm wc
    go_enter Tryd.func9, Tryd.ntmps9
    go_wp2_with fail
    refine (awake03 _ ht).mono ?_
    rintro _ w1 ⟨rfl, b1⟩
    have b01 := b1
    go_wp2_with fail
    go_ret
    exact ⟨rfl, b01⟩
  have e2 : decide (1000 < (n : Int)) = false := decide_eq_false (by omega)
  have hni : (n : Int) ≤ 1000 := by omega
  have hn5 : n ≤ 100000 := by omega
  obtain ⟨r, hr⟩ : ∃ r, readA wide l = r := ⟨_, rfl⟩
  have H1 := Lib.hid (show ∀ w, BS w w.heap.size A n l → Calls Tryd.prog 41 #[.slice A n c, .bool wide] w (RetRd w r) from fun w h => by rw [← hr]; exact aspRead A n c l wide w h (by omega))
  have H2 := Lib.hid (show ∀ w, BS w w.heap.size A n l → Calls Tryd.prog 42 #[.slice A n c, .bool wide] w (RetRf w r) from fun w h => by rw [← hr]; exact refRead03 A n c l wide w h hn5)
  have W := Lib.hid w0
  clear wm wc hn hn5 w0
  cases r with
  | none =>
    clear hr
    go_enter Tryd.func9, Tryd.ntmps9
    go_wp2_with fail
    refine (H1.out _ W.out).mono ?_
    rintro _ w1 ⟨b1, rfl⟩
    go_wp2_with fail
    refine (H2.out _ (W.out.call b1)).mono ?_
    rintro _ w2 ⟨b2, rfl⟩
    have b02 := btr b1 b2 b1.size
    have D0 : DL rSeg 2 w2 (Lo w2) none 0 [] := (OP.nil_ (w := w2) (base := 0)).dl
    have H5 := Lib.hid (show Calls Tryd.prog 22 #[.slice none 0 0, .slice none 0 0] w2 fun en w' => en = .returned (.bool true) ∧ Below w2.heap.size w2 w' from by
      have := refSame03 none none 0 0 0 0 [] [] w2 D0 D0 (by omega) (Lib.hid (Nat.zero_le _))
      rwa [beq_self_eq_true] at this)
    clear D0
    go_wp2_with fail
    refine (H5.out).mono ?_
    rintro _ w3 ⟨rfl, b3⟩
    have b03 := btr b02 b3 b02.size
    go_wp2_with fail
    refine (awake03 _ (ht.call b03)).mono ?_
    rintro _ w4 ⟨rfl, b4⟩
    have b04 := btr b03 b4 b03.size
    go_wp2_with fail
    go_ret
    exact ⟨rfl, b04⟩
  | some M =>
    have hR := rightA_of (readA_sum hr)
    have HB := Lib.hid (show M.length ≤ 100000 ∧ sumN M ≤ big32 from ⟨by have := hR.2.2; omega, by have := hR.2.1; unfold big32; omega⟩)
    have H5 := Lib.hid (show ∀ (w : World) (A A' : Option Addr) (n n' c c' : Nat), DL rSeg 2 w (Lo w) A n M → DL rSeg 2 w (Lo w) A' n' M → Calls Tryd.prog 22 #[.slice A n c, .slice A' n' c'] w fun en w' => en = .returned (.bool true) ∧ Below w.heap.size w w' from fun w A A' n n' c c' hd hd' => by
      have := refSame03 A A' n n' c c' M M w hd hd' (by rw [hd.len]; exact HB.out.1) (Lib.hid HB.out.2)
      rwa [beq_self_eq_true] at this)
    clear hr hR
    go_enter Tryd.func9, Tryd.ntmps9
    go_wp2_with fail
    refine (H1.out _ W.out).mono ?_
    rintro _ w1 ⟨b1, A3, n3, c3, L3, rfl, o3, hL3⟩
    have D3 := o3.dl
    rw [hL3] at D3
    clear hL3
    go_wp2_with fail
    refine (H2.out _ (W.out.call b1)).mono ?_
    rintro _ w2 ⟨b2, A4, n4, c4, L4, rfl, o4, hL4⟩
    have D4 := o4.dl
    rw [hL4] at D4
    clear hL4
    have b02 := btr b1 b2 b1.size
    have D34 := D3.segB b2
    go_wp2_with fail
    refine (H5.out _ A3 A4 n3 n4 c3 c4 D34 D4).mono ?_
    rintro _ w3 ⟨rfl, b3⟩
    have b03 := btr b02 b3 b02.size
    go_wp2_with fail
    refine (awake03 _ (ht.call b03)).mono ?_
    rintro _ w4 ⟨rfl, b4⟩
    have b04 := btr b03 b4 b03.size
    go_wp2_with fail
    go_ret
    exact ⟨rfl, b04⟩
end Go.Proofs.YtlpkngjeihoknaaDoor
