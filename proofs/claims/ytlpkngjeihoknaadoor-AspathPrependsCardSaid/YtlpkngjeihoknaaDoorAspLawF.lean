/- The statement AspathPrepends: its walk. Conditions: the table of digits. -/
import Derived.Test.YtlpkngjeihoknaaDoorProg
import Derived.WalkKit
import Derived.WalkSpells
import Derived.WalkLawsBesides
import Derived.Outline
import Derived.Deep.QuietTactic
import Derived.BigQuiet
import Derived.Handy
import Derived.Lib.Hide
import Derived.Test.YtlpkngjeihoknaaDoorAspZ
import Derived.Test.YtlpkngjeihoknaaDoorAspF
import Derived.Test.YtlpkngjeihoknaaDoorAspLawA
namespace Go.Proofs.YtlpkngjeihoknaaDoor
open Go.RowKit
set_option linter.unusedSimpArgs false
set_option linter.unusedVariables false
theorem countA_step (out : List Seg) (s : Seg) : countA (normStep out s) = countA out + (if s.1 = 1 then 1 else s.2.length) := by
  rcases List.eq_nil_or_concat out with rfl | ⟨o, x, rfl⟩
  · rw [normStep_nil]; simp [countA]
  · rw [List.concat_eq_append]
    by_cases hs : s.1 = 2
    · by_cases hx : x.1 = 2
      · rw [normStep_join hx hs, countA_app, countA_app]
        have h1 : ¬ s.1 = 1 := by omega
        have h2 : ¬ x.1 = 1 := by omega
        simp [countA, h1, h2]
        omega
      · rw [normStep_last hx, countA_app (o ++ [x])]; simp [countA]
    · rw [normStep_kind hs, countA_app (o ++ [x])]; simp [countA]
theorem countA_fold (l : List Seg) : ∀ out : List Seg, countA (l.foldl normStep out) = countA out + countA l := by
  induction l with
  | nil => intro out; simp [countA]
  | cons x l ih => intro out; rw [List.foldl_cons, ih, countA_step, countA]; omega
theorem countA_norm (l : List Seg) : countA (normA l) = countA l := by
  have := countA_fold l []
  simpa [normA, countA] using this
theorem preL_count (l : List Seg) (a : Int) : countA (preL l a) = countA l + 1 := by
  cases l with
  | nil => simp [preL, countA]
  | cons x r =>
    by_cases h : x.1 = 2
    · rw [preL, if_pos h]
      have h1 : ¬ x.1 = 1 := by omega
      simp [countA, h1]; omega
    · rw [preL, if_neg h]; simp [countA]; omega
theorem preL_first (l : List Seg) (a : Int) : firstA (preL l a) = (a, true) := by
  cases l with
  | nil => rfl
  | cons x r =>
    by_cases h : x.1 = 2
    · rw [preL, if_pos h]; rfl
    · rw [preL, if_neg h]; rfl
set_option maxHeartbeats 4000000 in
set_option maxRecDepth 100000 in
theorem lawAspathPrepends (w : World) (A : Option Addr) (n c : Nat) (l : List Seg) (hd : DL rSeg 2 w (Lo w) A n l) (wc : n ≤ c) (wm : c ≤ maxLen) (hx : ∀ x ∈ l, x.2.length ≤ big32) (a : Int) (wa : (Lit.int .u32 a).wf = true) (ht : DigTab w) :
    Calls Tryd.prog 10 #[.slice A n c, .int .u32 a] w fun en w' => en = .returned (.bool true) ∧ Below w.heap.size w w' := by
  obtain ⟨r, hr⟩ : ∃ r, fewA l = r := ⟨_, rfl⟩
  have HFW := Lib.hid (show ∀ w, DL rSeg 2 w (Lo w) A n l → Calls Tryd.prog 16 #[.slice A n c] w fun en w' => en = .returned (.bool r) ∧ Below w.heap.size w w' from fun w hd => by rw [← hr]; exact law03Few A n c l w hd)
  have WA := Lib.hid wa
  cases r
  · clear hr hx wc wm wa
    go_enter Tryd.func10, Tryd.ntmps10
    go_wp2_with fail
    refine (HFW.out _ hd).mono ?_
    rintro _ w1 ⟨rfl, b1⟩
    have b01 := b1
    go_wp2_with fail
    refine (awake03 _ (ht.call b01)).mono ?_
    rintro _ w2 ⟨rfl, b2⟩
    have b02 := btr b01 b2 b01.size
    go_wp2_with fail
    go_ret
    exact ⟨rfl, b02⟩
  obtain ⟨hn, HS⟩ := few_of hr hx hd.len
  have hn1 : n ≤ 100000 := by omega
  obtain ⟨P, hP⟩ : ∃ P, preA l a = P := ⟨_, rfl⟩
  obtain ⟨N, hN⟩ : ∃ N, normA l = N := ⟨_, rfl⟩
  obtain ⟨ct, hct⟩ : ∃ f, countA l = f := ⟨_, rfl⟩
  have hcb : ct ≤ 40000000000000 := by rw [← hct]; have h1 := countA_bd l; have h2 := HS.out; have h3 := hd.len; unfold big32 at h2; omega
  have H1 := Lib.hid (show ∀ w, DL rSeg 2 w (Lo w) A n l → Calls Tryd.prog 43 #[.slice A n c, .int .u32 a] w (RetPp w P) from fun w hd => by rw [← hP]; exact aspPrepend A n c l a w hd hn1 HS WA.out)
  have H2 := Lib.hid (show ∀ w, DL rSeg 2 w (Lo w) A n l → Calls Tryd.prog 44 #[.slice A n c, .int .u32 a] w (RetDp w P) from fun w hd => by rw [← hP]; exact refPrepend03 A n c l a w hd wc hn1 HS WA.out)
  have H3 := Lib.hid (show ∀ w, DL rSeg 2 w (Lo w) A n l → Calls Tryd.prog 45 #[.slice A n c] w (RetP w N) from fun w hd => by rw [← hN]; exact aspNorm A n c l w hd hn1 HS)
  have H4 := Lib.hid (show ∀ w, DL rSeg 2 w (Lo w) A n l → Calls Tryd.prog 23 #[.slice A n c] w (RetP w N) from fun w hd => by rw [← hN]; exact refNorm03 A n c l w hd hn1 HS)
  have HNB := Lib.hid (show N.length ≤ 100000 ∧ sumN N ≤ big32 from by rw [← hN]; exact ⟨by have := len_norm l; have := hd.len; omega, by rw [sumN_norm]; exact HS.out⟩)
  have H5 := Lib.hid (show ∀ w, DL rSeg 2 w (Lo w) A n l → Calls Tryd.prog 29 #[.slice A n c] w fun en w' => en = .returned (.int .i64 (ct : Int)) ∧ Below w.heap.size w w' from fun w hd => by rw [← hct]; exact refCount03 A n c l w hd hn1 HS)
  have H6 := Lib.hid (show ∀ (w : World) (A : Option Addr) (n c : Nat), DL rSeg 2 w (Lo w) A n N → Calls Tryd.prog 28 #[.slice A n c] w fun en w' => en = .returned (.int .i64 (ct : Int)) ∧ Below w.heap.size w w' from fun w A n c hd => by rw [← hct, ← countA_norm, hN]; exact aspCount A n c N w hd (by rw [hd.len]; exact HNB.out.1) (Lib.hid HNB.out.2))
  have H7 := Lib.hid (show ∀ (w : World) (A A' : Option Addr) (n n' c c' : Nat), DL rSeg 2 w (Lo w) A n N → DL rSeg 2 w (Lo w) A' n' N → Calls Tryd.prog 22 #[.slice A n c, .slice A' n' c'] w fun en w' => en = .returned (.bool true) ∧ Below w.heap.size w w' from fun w A A' n n' c c' hd hd' => by
    have := refSame03 A A' n n' c c' N N w hd hd' (by rw [hd.len]; exact HNB.out.1) (Lib.hid HNB.out.2)
    rwa [beq_self_eq_true] at this)
  obtain ⟨M, k⟩ := P
  have HPB := Lib.hid (show M.length ≤ 100000 ∧ sumN M ≤ big32 from by
    have hs := HS.out
    have hl := hd.len
    have h1 := preL_sum l a
    unfold preA at hP
    split at hP
    · split at hP
      · rename_i hr2
        injection hP with hP _
        rw [← hP]
        have := rightA_of hr2
        exact ⟨by omega, by unfold big32; omega⟩
      · injection hP with hP _; subst hP; exact ⟨by simp, by simp [sumN]⟩
    · injection hP with hP _; subst hP; exact ⟨by simp, by simp [sumN]⟩)
  have H8 := Lib.hid (show ∀ (w : World) (A A' : Option Addr) (n n' c c' : Nat), DL rSeg 2 w (Lo w) A n M → DL rSeg 2 w (Lo w) A' n' M → Calls Tryd.prog 22 #[.slice A n c, .slice A' n' c'] w fun en w' => en = .returned (.bool true) ∧ Below w.heap.size w w' from fun w A A' n n' c c' hd hd' => by
    have := refSame03 A A' n n' c c' M M w hd hd' (by rw [hd.len]; exact HPB.out.1) (Lib.hid HPB.out.2)
    rwa [beq_self_eq_true] at this)
  have hk : (k = 0 ∧ M = preL l a) ∨ (k = 1) ∨ (k = 6) := by
    unfold preA at hP
    split at hP
    · split at hP
      · injection hP with h1 h2; exact .inl ⟨h2.symm, h1.symm⟩
      · injection hP with h1 h2; exact .inr (.inr h2.symm)
    · injection hP with h1 h2; exact .inr (.inl h2.symm)
  have e1 : ((ct : Int) != (ct : Int)) = false := by simp
  clear hr hx wc wm wa hP hN
  rcases hk with ⟨rfl, hM⟩ | rfl | rfl
  · have H9 := Lib.hid (show ∀ (w : World) (A : Option Addr) (n c : Nat), DL rSeg 2 w (Lo w) A n M → Calls Tryd.prog 30 #[.slice A n c] w fun en w' => en = .returned (.tuple #[.int .u32 a, .bool true]) ∧ Below w.heap.size w w' from fun w A n c hd => by
      have := aspFirst A n c M w hd
      rwa [hM, preL_first] at this)
    have H10 := Lib.hid (show ∀ (w : World) (A : Option Addr) (n c : Nat), DL rSeg 2 w (Lo w) A n M → Calls Tryd.prog 28 #[.slice A n c] w fun en w' => en = .returned (.int .i64 ((ct : Int) + 1)) ∧ Below w.heap.size w w' from fun w A n c hd => by
      have := aspCount A n c M w hd (by rw [hd.len]; exact HPB.out.1) (Lib.hid HPB.out.2)
      rw [hM, preL_count, hct] at this
      exact this)
    have w1c : IntKind.i64.wrap ((ct : Int) + 1) = (ct : Int) + 1 := IntWalk.i64_in _ ⟨by omega, by omega⟩
    have e3 : ((ct : Int) + 1 == (ct : Int) + 1) = true := by simp
    have e4 : (a == a) = true := by simp
    clear hM hct hcb hn hn1 HS
    go_enter Tryd.func10, Tryd.ntmps10
    go_wp2_with fail
    refine (HFW.out _ hd).mono ?_
    rintro _ w1 ⟨rfl, b1⟩
    have b01 := b1
    go_wp2_with fail
    refine (H1.out _ (hd.segB b01)).mono ?_
    rintro _ w2 ⟨A2, n2, c2, L2, rfl, o2, hL2, b2⟩
    have b02 := btr b01 b2 b01.size
    have D2 := o2.dl
    rw [hL2] at D2
    clear hL2
    go_wp2_with fail
    refine (H2.out _ (hd.segB b02)).mono ?_
    rintro _ w3 ⟨A3, n3, c3, rfl, D3, b3⟩
    have b03 := btr b02 b3 b02.size
    have D2_3 := D2.segB b3
    go_wp2_with fail
    refine (H8.out _ A2 A3 n2 n3 c2 c3 D2_3 D3).mono ?_
    rintro _ w4 ⟨rfl, b4⟩
    have b04 := btr b03 b4 b03.size
    have D2_4 := D2_3.segB b4
    clear D2_3
    go_wp2_with fail
    refine (H3.out _ (hd.segB b04)).mono ?_
    rintro _ w5 ⟨A5, n5, c5, L5, rfl, o5, hL5, b5⟩
    have b05 := btr b04 b5 b04.size
    have D2_5 := D2_4.segB b5
    clear D2_4
    have D5 := o5.dl
    rw [hL5] at D5
    clear hL5
    go_wp2_with fail
    refine (H4.out _ (hd.segB b05)).mono ?_
    rintro _ w6 ⟨A6, n6, c6, L6, rfl, o6, hL6, b6⟩
    have b06 := btr b05 b6 b05.size
    have D2_6 := D2_5.segB b6
    clear D2_5
    have D5_6 := D5.segB b6
    have D6 := o6.dl
    rw [hL6] at D6
    clear hL6
    go_wp2_with fail
    refine (H7.out _ A5 A6 n5 n6 c5 c6 D5_6 D6).mono ?_
    rintro _ w7 ⟨rfl, b7⟩
    have b07 := btr b06 b7 b06.size
    have D2_7 := D2_6.segB b7
    clear D2_6
    have D5_7 := D5_6.segB b7
    clear D5_6
    go_wp2_with fail
    refine (H3.out _ (hd.segB b07)).mono ?_
    rintro _ w8 ⟨A8, n8, c8, L8, rfl, o8, hL8, b8⟩
    have b08 := btr b07 b8 b07.size
    have D2_8 := D2_7.segB b8
    clear D2_7
    have D5_8 := D5_7.segB b8
    clear D5_7
    have D8 := o8.dl
    rw [hL8] at D8
    clear hL8
    go_wp2_with fail
    refine (H6.out _ A8 n8 c8 D8).mono ?_
    rintro _ w9 ⟨rfl, b9⟩
    have b09 := btr b08 b9 b08.size
    have D2_9 := D2_8.segB b9
    clear D2_8
    have D5_9 := D5_8.segB b9
    clear D5_8
    go_wp2_with fail
    refine (H5.out _ (hd.segB b09)).mono ?_
    rintro _ w10 ⟨rfl, b10⟩
    have b010 := btr b09 b10 b09.size
    have D2_10 := D2_9.segB b10
    clear D2_9
    have D5_10 := D5_9.segB b10
    clear D5_9
    go_wp2_with fail
    refine (H9.out _ A2 n2 c2 D2_10).mono ?_
    rintro _ w11 ⟨rfl, b11⟩
    have b011 := btr b010 b11 b010.size
    have D2_11 := D2_10.segB b11
    clear D2_10
    have D5_11 := D5_10.segB b11
    clear D5_10
    go_wp2_with fail
    refine (H10.out _ A2 n2 c2 D2_11).mono ?_
    rintro _ w12 ⟨rfl, b12⟩
    have b012 := btr b011 b12 b011.size
    have D2_12 := D2_11.segB b12
    clear D2_11
    have D5_12 := D5_11.segB b12
    clear D5_11
    go_wp2_with fail
    refine (H5.out _ (hd.segB b012)).mono ?_
    rintro _ w13 ⟨rfl, b13⟩
    have b013 := btr b012 b13 b012.size
    have D2_13 := D2_12.segB b13
    clear D2_12
    have D5_13 := D5_12.segB b13
    clear D5_12
    go_wp2_with fail
    refine (awake03 _ (ht.call b013)).mono ?_
    rintro _ w14 ⟨rfl, b14⟩
    have b014 := btr b013 b14 b013.size
    have D2_14 := D2_13.segB b14
    clear D2_13
    have D5_14 := D5_13.segB b14
    clear D5_13
    go_wp2_with fail
    go_ret
    exact ⟨rfl, b014⟩
  all_goals
    clear hct hcb hn hn1 HS
    go_enter Tryd.func10, Tryd.ntmps10
    go_wp2_with fail
    refine (HFW.out _ hd).mono ?_
    rintro _ w1 ⟨rfl, b1⟩
    have b01 := b1
    go_wp2_with fail
    refine (H1.out _ (hd.segB b01)).mono ?_
    rintro _ w2 ⟨A2, n2, c2, L2, rfl, o2, hL2, b2⟩
    have b02 := btr b01 b2 b01.size
    have D2 := o2.dl
    rw [hL2] at D2
    clear hL2
    go_wp2_with fail
    refine (H2.out _ (hd.segB b02)).mono ?_
    rintro _ w3 ⟨A3, n3, c3, rfl, D3, b3⟩
    have b03 := btr b02 b3 b02.size
    have D2_3 := D2.segB b3
    go_wp2_with fail
    refine (H8.out _ A2 A3 n2 n3 c2 c3 D2_3 D3).mono ?_
    rintro _ w4 ⟨rfl, b4⟩
    have b04 := btr b03 b4 b03.size
    have D2_4 := D2_3.segB b4
    clear D2_3
    go_wp2_with fail
    refine (H3.out _ (hd.segB b04)).mono ?_
    rintro _ w5 ⟨A5, n5, c5, L5, rfl, o5, hL5, b5⟩
    have b05 := btr b04 b5 b04.size
    have D2_5 := D2_4.segB b5
    clear D2_4
    have D5 := o5.dl
    rw [hL5] at D5
    clear hL5
    go_wp2_with fail
    refine (H4.out _ (hd.segB b05)).mono ?_
    rintro _ w6 ⟨A6, n6, c6, L6, rfl, o6, hL6, b6⟩
    have b06 := btr b05 b6 b05.size
    have D2_6 := D2_5.segB b6
    clear D2_5
    have D5_6 := D5.segB b6
    have D6 := o6.dl
    rw [hL6] at D6
    clear hL6
    go_wp2_with fail
    refine (H7.out _ A5 A6 n5 n6 c5 c6 D5_6 D6).mono ?_
    rintro _ w7 ⟨rfl, b7⟩
    have b07 := btr b06 b7 b06.size
    have D2_7 := D2_6.segB b7
    clear D2_6
    have D5_7 := D5_6.segB b7
    clear D5_6
    go_wp2_with fail
    refine (H3.out _ (hd.segB b07)).mono ?_
    rintro _ w8 ⟨A8, n8, c8, L8, rfl, o8, hL8, b8⟩
    have b08 := btr b07 b8 b07.size
    have D2_8 := D2_7.segB b8
    clear D2_7
    have D5_8 := D5_7.segB b8
    clear D5_7
    have D8 := o8.dl
    rw [hL8] at D8
    clear hL8
    go_wp2_with fail
    refine (H6.out _ A8 n8 c8 D8).mono ?_
    rintro _ w9 ⟨rfl, b9⟩
    have b09 := btr b08 b9 b08.size
    have D2_9 := D2_8.segB b9
    clear D2_8
    have D5_9 := D5_8.segB b9
    clear D5_8
    go_wp2_with fail
    refine (H5.out _ (hd.segB b09)).mono ?_
    rintro _ w10 ⟨rfl, b10⟩
    have b010 := btr b09 b10 b09.size
    have D2_10 := D2_9.segB b10
    clear D2_9
    have D5_10 := D5_9.segB b10
    clear D5_9
    go_wp2_with fail
    refine (awake03 _ (ht.call b010)).mono ?_
    rintro _ w11 ⟨rfl, b11⟩
    have b011 := btr b010 b11 b010.size
    have D2_11 := D2_10.segB b11
    clear D2_10
    have D5_11 := D5_10.segB b11
    clear D5_10
    go_wp2_with fail
    go_ret
    exact ⟨rfl, b011⟩
end Go.Proofs.YtlpkngjeihoknaaDoor
