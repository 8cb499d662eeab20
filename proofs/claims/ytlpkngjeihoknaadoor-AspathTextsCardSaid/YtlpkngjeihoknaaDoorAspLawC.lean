/- The statement AspathTexts: its walk. Conditions: the table of digits. -/
import Derived.Test.YtlpkngjeihoknaaDoorProg
import Derived.WalkKit
import Derived.WalkSpells
import Derived.WalkLawsBesides
import Derived.Outline
import Derived.Deep.QuietTactic
import Derived.BigQuiet
import Derived.Handy
import Derived.Lib.Hide
import Derived.Test.YtlpkngjeihoknaaDoorAspH
import Derived.Test.YtlpkngjeihoknaaDoorAspN
import Derived.Test.YtlpkngjeihoknaaDoorAspLawA
namespace Go.Proofs.YtlpkngjeihoknaaDoor
open Go.RowKit
set_option linter.unusedSimpArgs false
set_option linter.unusedVariables false
theorem textA_len {l : List Seg} (hw : WF l) : (textA l).length ≤ 7000 := by
  unfold textA
  split
  · rename_i h
    have h1 := rightA_of h
    have h3 := join_len ((normA l).map segT) [32] 800 (fun z hz => by
      obtain ⟨x, hx, rfl⟩ := List.mem_map.1 hz
      refine segT_len (WF_norm hw x hx) ?_
      obtain ⟨i, hi⟩ := List.getElem?_of_mem hx
      have h4 := sumN_at hi
      rw [sumN_norm] at h4
      omega) (by simp)
    rw [List.length_map] at h3
    have h5 := len_norm l
    have h6 : (normA l).length * (800 + 1) ≤ 8 * (800 + 1) := Nat.mul_le_mul_right _ (by omega)
    omega
  · simp
set_option maxHeartbeats 4000000 in
set_option maxRecDepth 100000 in
theorem lawAspathTexts (w : World) (A : Option Addr) (n c : Nat) (l : List Seg) (hd : DL rSeg 2 w (Lo w) A n l) (wc : n ≤ c) (wm : c ≤ maxLen) (hx : ∀ x ∈ l, x.2.length ≤ big32) (ht : DigTab w) :
    Calls Tryd.prog 3 #[.slice A n c] w fun en w' => en = .returned (.bool true) ∧ Below w.heap.size w w' := by
  obtain ⟨r, hr⟩ : ∃ r, fewA l = r := ⟨_, rfl⟩
  have HFW := Lib.hid (show ∀ w, DL rSeg 2 w (Lo w) A n l → Calls Tryd.prog 16 #[.slice A n c] w fun en w' => en = .returned (.bool r) ∧ Below w.heap.size w w' from fun w hd => by rw [← hr]; exact law03Few A n c l w hd)
  cases r
  · clear hr hx wc wm
    go_enter Tryd.func3, Tryd.ntmps3
    go_wp2_with fail
    refine (HFW.out _ hd).mono ?_
    rintro _ w1 ⟨rfl, b1⟩
    have b01 := b1
    go_wp2_with fail
    refine (awake03 _ (ht.call b01)).mono ?_
    rintro _ w2 ⟨rfl, b2⟩
    have b02 := btr b01 b2 b01.size
    go_wp2_with fail
    go_ret
    exact ⟨rfl, b02⟩
  obtain ⟨hn, HS⟩ := few_of hr hx hd.len
  have hn1 : n ≤ 100000 := by omega
  have HWF := Lib.hid hd.wf
  obtain ⟨ra, h3⟩ : ∃ f, rightA l = f := ⟨_, rfl⟩
  have HR2 := Lib.hid (show ∀ w, DL rSeg 2 w (Lo w) A n l → Calls Tryd.prog 20 #[.slice A n c] w fun en w' => en = .returned (.bool ra) ∧ Below w.heap.size w w' from fun w hd => by rw [← h3]; exact refRight03 A n c l w hd hn1)
  cases ra
  · have e0 : textS l = ⟨#[]⟩ := by unfold textS textA; rw [h3]; rfl
    have HT1 := Lib.hid (show ∀ w, DL rSeg 2 w (Lo w) A n l → DigTab w → Calls Tryd.prog 18 #[.slice A n c] w fun en w' => en = .returned (.string ⟨#[]⟩) ∧ Below w.heap.size w w' from fun w hd ht => by rw [← e0]; exact aspText A n c l w hd hn1 ht)
    have HT2 := Lib.hid (show ∀ w, DL rSeg 2 w (Lo w) A n l → Calls Tryd.prog 19 #[.slice A n c] w fun en w' => en = .returned (.string ⟨#[]⟩) ∧ Below w.heap.size w w' from fun w hd => by rw [← e0]; exact refText03 A n c l w hd hn1)
    clear hr hx wc wm h3 e0 hn hn1 HS
    go_enter Tryd.func3, Tryd.ntmps3
    go_wp2_with fail
    refine (HFW.out _ hd).mono ?_
    rintro _ w1 ⟨rfl, b1⟩
    have b01 := b1
    go_wp2_with fail
    refine (HT1.out _ (hd.segB b01) (ht.call b01)).mono ?_
    rintro _ w2 ⟨rfl, b2⟩
    have b02 := btr b01 b2 b01.size
    go_wp2_with fail
    refine (HT2.out _ (hd.segB b02)).mono ?_
    rintro _ w3 ⟨rfl, b3⟩
    have b03 := btr b02 b3 b02.size
    go_wp2_with fail
    refine (HR2.out _ (hd.segB b03)).mono ?_
    rintro _ w4 ⟨rfl, b4⟩
    have b04 := btr b03 b4 b03.size
    go_wp2_with fail
    refine (awake03 _ (ht.call b04)).mono ?_
    rintro _ w5 ⟨rfl, b5⟩
    have b05 := btr b04 b5 b04.size
    go_wp2_with fail
    go_ret
    exact ⟨rfl, b05⟩
  have hpr := parseR_text h3 HWF.out
  obtain ⟨T, hT⟩ : ∃ T, textS l = T := ⟨_, rfl⟩
  obtain ⟨N, hN⟩ : ∃ N, normA l = N := ⟨_, rfl⟩
  have HT1 := Lib.hid (show ∀ w, DL rSeg 2 w (Lo w) A n l → DigTab w → Calls Tryd.prog 18 #[.slice A n c] w fun en w' => en = .returned (.string T) ∧ Below w.heap.size w w' from fun w hd ht => by rw [← hT]; exact aspText A n c l w hd hn1 ht)
  have HT2 := Lib.hid (show ∀ w, DL rSeg 2 w (Lo w) A n l → Calls Tryd.prog 19 #[.slice A n c] w fun en w' => en = .returned (.string T) ∧ Below w.heap.size w w' from fun w hd => by rw [← hT]; exact refText03 A n c l w hd hn1)
  have HTZ := Lib.hid (show T.size ≤ 10000 by rw [← hT]; have := textA_len HWF.out; show (textA l).length ≤ _; omega)
  have HPR := Lib.hid (show ∀ w, DigTab w → Calls Tryd.prog 21 #[.string T] w fun e w' => ∃ (A : Option Addr) (n c : Nat) (L : List (Seg × Hd)), e = .returned (.tuple #[.slice A n c, .bool true]) ∧ OP w' w.heap.size A n c L ∧ L.map (·.1) = N ∧ Below w.heap.size w w' from fun w ht => (aspParse T w ht HTZ.out).mono fun e w' h => by
    rw [← hT, hpr] at h
    rw [← hN]
    exact h)
  have HNO := Lib.hid (show ∀ w, DL rSeg 2 w (Lo w) A n l → Calls Tryd.prog 23 #[.slice A n c] w (RetP w N) from fun w hd => by rw [← hN]; exact refNorm03 A n c l w hd hn1 HS)
  have HSN := Lib.hid (show sumN N ≤ big32 by rw [← hN, sumN_norm]; exact HS.out)
  have HLN := Lib.hid (show N.length ≤ 100000 by rw [← hN]; have := len_norm l; have := hd.len; omega)
  have e1 : (T.toList != T.toList) = false := by simp
  have e2 : (T.toList == T.toList) = true := by simp
  clear hr hx wc wm h3 hpr hT hN hn hn1 HS
  go_enter Tryd.func3, Tryd.ntmps3
  go_wp2_with fail
  refine (HFW.out _ hd).mono ?_
  rintro _ w1 ⟨rfl, b1⟩
  have b01 := b1
  go_wp2_with fail
  refine (HT1.out _ (hd.segB b01) (ht.call b01)).mono ?_
  rintro _ w2 ⟨rfl, b2⟩
  have b02 := btr b01 b2 b01.size
  go_wp2_with fail
  refine (HT2.out _ (hd.segB b02)).mono ?_
  rintro _ w3 ⟨rfl, b3⟩
  have b03 := btr b02 b3 b02.size
  go_wp2_with fail
  refine (HR2.out _ (hd.segB b03)).mono ?_
  rintro _ w4 ⟨rfl, b4⟩
  have b04 := btr b03 b4 b03.size
  go_wp2_with fail
  refine (HPR.out _ (ht.call b04)).mono ?_
  rintro _ w5 ⟨A5, n5, c5, L5, rfl, o5, hL5, b5⟩
  have b05 := btr b04 b5 b04.size
  go_wp2_with fail
  refine (HNO.out _ (hd.segB b05)).mono ?_
  rintro _ w6 ⟨A6, n6, c6, L6, rfl, o6, hL6, b6⟩
  have b06 := btr b05 b6 b05.size
  have o5_6 := o5.call b6
  have D5 := o5_6.dl
  have D6 := o6.dl
  rw [hL5] at D5
  rw [hL6] at D6
  have HS6 := Lib.hid (show ∀ w, DL rSeg 2 w (Lo w) A5 n5 N → DL rSeg 2 w (Lo w) A6 n6 N → Calls Tryd.prog 22 #[.slice A5 n5 c5, .slice A6 n6 c6] w fun en w' => en = .returned (.bool true) ∧ Below w.heap.size w w' from fun w hd hd' => by
    have := refSame03 A5 A6 n5 n6 c5 c6 N N w hd hd' (by rw [hd.len]; exact HLN.out) HSN
    rwa [beq_self_eq_true] at this)
  clear hL5 hL6
  go_wp2_with fail
  refine (HS6.out _ D5 D6).mono ?_
  rintro _ w7 ⟨rfl, b7⟩
  have b07 := btr b06 b7 b06.size
  have o5_7 := o5_6.call b7
  clear o5_6
  have o6_7 := o6.call b7
  go_wp2_with fail
  refine (awake03 _ (ht.call b07)).mono ?_
  rintro _ w8 ⟨rfl, b8⟩
  have b08 := btr b07 b8 b07.size
  have o5_8 := o5_7.call b8
  clear o5_7
  have o6_8 := o6_7.call b8
  clear o6_7
  go_wp2_with fail
  go_ret
  exact ⟨rfl, b08⟩
end Go.Proofs.YtlpkngjeihoknaaDoor
