/- The statements AspathParts, AspathSame: their walks. Conditions: the table of digits. -/
import Derived.Test.YtlpkngjeihoknaaDoorProg
import Derived.WalkKit
import Derived.WalkSpells
import Derived.WalkLawsBesides
import Derived.Outline
import Derived.Deep.QuietTactic
import Derived.BigQuiet
import Derived.Handy
import Derived.Lib.Hide
import Derived.Test.YtlpkngjeihoknaaDoorAspL
import Derived.Test.YtlpkngjeihoknaaDoorAspM
namespace Go.Proofs.YtlpkngjeihoknaaDoor
open Go.RowKit
set_option linter.unusedSimpArgs false
set_option linter.unusedVariables false
theorem DL.segB {w w' : World} {A : Option Addr} {n : Nat} {l : List Seg} (h : DL rSeg 2 w (Lo w) A n l) (hb : Below w.heap.size w w') : DL rSeg 2 w' (Lo w') A n l := h.keep rSeg_ok (Kp.call hb)
theorem few_of {n : Nat} {l : List Seg} (h : fewA l = true) (hx : ∀ x ∈ l, x.2.length ≤ big32) (hn : n = l.length) : n ≤ 12 ∧ Hid (sumN l ≤ big32) := by
  have := fewA_of h hx
  exact ⟨by omega, Lib.hid this.2⟩
set_option maxHeartbeats 4000000 in
set_option maxRecDepth 100000 in
theorem lawAspathParts (w : World) (A : Option Addr) (n c : Nat) (l : List Seg) (hd : DL rSeg 2 w (Lo w) A n l) (wc : n ≤ c) (wm : c ≤ maxLen) (hx : ∀ x ∈ l, x.2.length ≤ big32) (x : Int) (wx : (Lit.int .u32 x).wf = true) (ht : DigTab w) :
    Calls Tryd.prog 7 #[.slice A n c, .int .u32 x] w fun en w' => en = .returned (.bool true) ∧ Below w.heap.size w w' := by
  obtain ⟨r, hr⟩ : ∃ r, fewA l = r := ⟨_, rfl⟩
  have HFW := Lib.hid (show ∀ w, DL rSeg 2 w (Lo w) A n l → Calls Tryd.prog 16 #[.slice A n c] w fun en w' => en = .returned (.bool r) ∧ Below w.heap.size w w' from fun w hd => by rw [← hr]; exact law03Few A n c l w hd)
  cases r
  · clear hr hx wc wm wx
    go_enter Tryd.func7, Tryd.ntmps7
    go_wp2_with fail
    refine (HFW.out _ hd).mono ?_
    rintro _ w1 ⟨rfl, b1⟩
    have b01 := b1
    go_wp2_with fail
    refine (awake03 _ (ht.call b01)).mono ?_
    rintro _ w2 ⟨rfl, b2⟩
    have b02 := btr b01 b2 b01.size
    go_wp2_with fail
    go_ret
    exact ⟨rfl, b02⟩
  obtain ⟨hn, HS⟩ := few_of hr hx hd.len
  have hn1 : n ≤ 100000 := by omega
  clear hr hx wc wm wx
  obtain ⟨f1, h1⟩ : ∃ f, (firstA l).1 = f := ⟨_, rfl⟩
  obtain ⟨f2, h2⟩ : ∃ f, (firstA l).2 = f := ⟨_, rfl⟩
  obtain ⟨ra, h3⟩ : ∃ f, rightA l = f := ⟨_, rfl⟩
  obtain ⟨ct, h4⟩ : ∃ f : Int, (countA l : Int) = f := ⟨_, rfl⟩
  obtain ⟨ha, h5⟩ : ∃ f, hasN (flatA l) x = f := ⟨_, rfl⟩
  obtain ⟨F, h6⟩ : ∃ F, flatA l = F := ⟨_, rfl⟩
  have HF1 := Lib.hid (show ∀ w, DL rSeg 2 w (Lo w) A n l → Calls Tryd.prog 30 #[.slice A n c] w fun en w' => en = .returned (.tuple #[.int .u32 f1, .bool f2]) ∧ Below w.heap.size w w' from fun w hd => by rw [← h1, ← h2]; exact aspFirst A n c l w hd)
  have HF2 := Lib.hid (show ∀ w, DL rSeg 2 w (Lo w) A n l → Calls Tryd.prog 31 #[.slice A n c] w fun en w' => en = .returned (.tuple #[.int .u32 f1, .bool f2]) ∧ Below w.heap.size w w' from fun w hd => by rw [← h1, ← h2]; exact refFirst03 A n c l w hd)
  have HR1 := Lib.hid (show ∀ w, DL rSeg 2 w (Lo w) A n l → Calls Tryd.prog 32 #[.slice A n c] w fun en w' => en = .returned (.bool ra) ∧ Below w.heap.size w w' from fun w hd => by rw [← h3]; exact aspRight A n c l w hd hn1)
  have HR2 := Lib.hid (show ∀ w, DL rSeg 2 w (Lo w) A n l → Calls Tryd.prog 20 #[.slice A n c] w fun en w' => en = .returned (.bool ra) ∧ Below w.heap.size w w' from fun w hd => by rw [← h3]; exact refRight03 A n c l w hd hn1)
  have HC1 := Lib.hid (show ∀ w, DL rSeg 2 w (Lo w) A n l → Calls Tryd.prog 28 #[.slice A n c] w fun en w' => en = .returned (.int .i64 ct) ∧ Below w.heap.size w w' from fun w hd => by rw [← h4]; exact aspCount A n c l w hd hn1 HS)
  have HC2 := Lib.hid (show ∀ w, DL rSeg 2 w (Lo w) A n l → Calls Tryd.prog 29 #[.slice A n c] w fun en w' => en = .returned (.int .i64 ct) ∧ Below w.heap.size w w' from fun w hd => by rw [← h4]; exact refCount03 A n c l w hd hn1 HS)
  have HL1 := Lib.hid (show ∀ w, DL rSeg 2 w (Lo w) A n l → Calls Tryd.prog 34 #[.slice A n c] w (RetOU w F) from fun w hd => by rw [← h6]; exact aspFlat A n c l w hd hn1 HS)
  have HL2 := Lib.hid (show ∀ w, DL rSeg 2 w (Lo w) A n l → Calls Tryd.prog 35 #[.slice A n c] w (RetOU w F) from fun w hd => by rw [← h6]; exact refFlat03 A n c l w hd hn1 HS)
  have HFL := Lib.hid (show F.length ≤ 35184372088832 by rw [← h6, flatA_len]; have := HS.out; unfold big32 at this; omega)
  have HH1 := Lib.hid (show ∀ w, DL rSeg 2 w (Lo w) A n l → Calls Tryd.prog 36 #[.slice A n c, .int .u32 x] w fun en w' => en = .returned (.bool ha) ∧ Below w.heap.size w w' from fun w hd => by rw [← h5]; exact aspHas A n c l x w hd hn1 HS)
  have HH2 := Lib.hid (show ∀ w, DL rSeg 2 w (Lo w) A n l → Calls Tryd.prog 37 #[.slice A n c, .int .u32 x] w fun en w' => en = .returned (.bool ha) ∧ Below w.heap.size w w' from fun w hd => by rw [← h5]; exact refHas03 A n c l x w hd hn1 HS)
  have HSM := Lib.hid (show ∀ w, DL rSeg 2 w (Lo w) A n l → Calls Tryd.prog 25 #[.slice A n c, .slice A n c] w fun en w' => en = .returned (.bool true) ∧ Below w.heap.size w w' from fun w hd => by have := aspSame A A n n c c l l w hd hd hn1 HS; rwa [beq_self_eq_true] at this)
  have HNU := Lib.hid (show ∀ (w : World) (A1 A2 : Option Addr) (n1 n2 c1 c2 : Nat), OU w w.heap.size A1 n1 c1 F → True from fun _ _ _ _ _ _ _ _ => trivial)
  have e1 : (f1 == f1) = true := by simp
  have e2 : (f2 == f2) = true := by simp
  have e3 : (ra == ra) = true := by simp
  have e4 : (ct == ct) = true := by simp
  have e5 : (ha == ha) = true := by simp
  clear h1 h2 h3 h4 h5 h6 hn hn1 HS HNU
  go_enter Tryd.func7, Tryd.ntmps7
  go_wp2_with fail
  refine (HFW.out _ hd).mono ?_
  rintro _ w1 ⟨rfl, b1⟩
  have b01 := b1
  go_wp2_with fail
  refine (HF1.out _ (hd.segB b01)).mono ?_
  rintro _ w2 ⟨rfl, b2⟩
  have b02 := btr b01 b2 b01.size
  go_wp2_with fail
  refine (HF2.out _ (hd.segB b02)).mono ?_
  rintro _ w3 ⟨rfl, b3⟩
  have b03 := btr b02 b3 b02.size
  go_wp2_with fail
  refine (HR1.out _ (hd.segB b03)).mono ?_
  rintro _ w4 ⟨rfl, b4⟩
  have b04 := btr b03 b4 b03.size
  go_wp2_with fail
  refine (HR2.out _ (hd.segB b04)).mono ?_
  rintro _ w5 ⟨rfl, b5⟩
  have b05 := btr b04 b5 b04.size
  go_wp2_with fail
  refine (HC1.out _ (hd.segB b05)).mono ?_
  rintro _ w6 ⟨rfl, b6⟩
  have b06 := btr b05 b6 b05.size
  go_wp2_with fail
  refine (HC2.out _ (hd.segB b06)).mono ?_
  rintro _ w7 ⟨rfl, b7⟩
  have b07 := btr b06 b7 b06.size
  go_wp2_with fail
  refine (HL1.out _ (hd.segB b07)).mono ?_
  rintro _ w8 ⟨A8, n8, c8, rfl, o8, b8⟩
  have b08 := btr b07 b8 b07.size
  go_wp2_with fail
  refine (HL2.out _ (hd.segB b08)).mono ?_
  rintro _ w9 ⟨A9, n9, c9, rfl, o9, b9⟩
  have b09 := btr b08 b9 b08.size
  have o8_9 := o8.call b9
  go_wp2_with fail
  refine ((by have e := refNumsB A8 A9 n8 n9 c8 c9 F F _ _ _ o8_9.ns o9.ns (by have h := o8.1; rw [h]; exact HFL.out); rw [beq_self_eq_true] at e; exact e : Calls Tryd.prog 33 #[.slice A8 n8 c8, .slice A9 n9 c9] w9 fun en w' => en = .returned (.bool true) ∧ Below (w9).heap.size w9 w')).mono ?_
  rintro _ w10 ⟨rfl, b10⟩
  have b010 := btr b09 b10 b09.size
  have o8_10 := o8_9.call b10
  clear o8_9
  have o9_10 := o9.call b10
  go_wp2_with fail
  refine (HH1.out _ (hd.segB b010)).mono ?_
  rintro _ w11 ⟨rfl, b11⟩
  have b011 := btr b010 b11 b010.size
  have o8_11 := o8_10.call b11
  clear o8_10
  have o9_11 := o9_10.call b11
  clear o9_10
  go_wp2_with fail
  refine (HH2.out _ (hd.segB b011)).mono ?_
  rintro _ w12 ⟨rfl, b12⟩
  have b012 := btr b011 b12 b011.size
  have o8_12 := o8_11.call b12
  clear o8_11
  have o9_12 := o9_11.call b12
  clear o9_11
  go_wp2_with fail
  refine (HSM.out _ (hd.segB b012)).mono ?_
  rintro _ w13 ⟨rfl, b13⟩
  have b013 := btr b012 b13 b012.size
  have o8_13 := o8_12.call b13
  clear o8_12
  have o9_13 := o9_12.call b13
  clear o9_12
  go_wp2_with fail
  refine (awake03 _ (ht.call b013)).mono ?_
  rintro _ w14 ⟨rfl, b14⟩
  have b014 := btr b013 b14 b013.size
  have o8_14 := o8_13.call b14
  clear o8_13
  have o9_14 := o9_13.call b14
  clear o9_13
  go_wp2_with fail
  go_ret
  exact ⟨rfl, b014⟩
set_option maxHeartbeats 4000000 in
set_option maxRecDepth 100000 in
theorem lawAspathSame (w : World) (A : Option Addr) (n c : Nat) (l : List Seg) (hd : DL rSeg 2 w (Lo w) A n l) (wc : n ≤ c) (wm : c ≤ maxLen) (hx : ∀ x ∈ l, x.2.length ≤ big32) (A' : Option Addr) (n' c' : Nat) (l' : List Seg) (hd' : DL rSeg 2 w (Lo w) A' n' l') (wc' : n' ≤ c') (wm' : c' ≤ maxLen) (hx' : ∀ x ∈ l', x.2.length ≤ big32) (ht : DigTab w) :
    Calls Tryd.prog 5 #[.slice A n c, .slice A' n' c'] w fun en w' => en = .returned (.bool true) ∧ Below w.heap.size w w' := by
  obtain ⟨r, hr⟩ : ∃ r, fewA l = r := ⟨_, rfl⟩
  obtain ⟨r', hr'⟩ : ∃ r, fewA l' = r := ⟨_, rfl⟩
  have HFW := Lib.hid (show ∀ w, DL rSeg 2 w (Lo w) A n l → Calls Tryd.prog 16 #[.slice A n c] w fun en w' => en = .returned (.bool r) ∧ Below w.heap.size w w' from fun w hd => by rw [← hr]; exact law03Few A n c l w hd)
  have HFW' := Lib.hid (show ∀ w, DL rSeg 2 w (Lo w) A' n' l' → Calls Tryd.prog 16 #[.slice A' n' c'] w fun en w' => en = .returned (.bool r') ∧ Below w.heap.size w w' from fun w hd => by rw [← hr']; exact law03Few A' n' c' l' w hd)
  cases r
  · clear hr hx wc wm hr' hx' wc' wm'
    go_enter Tryd.func5, Tryd.ntmps5
    go_wp2_with fail
    refine (HFW.out _ hd).mono ?_
    rintro _ w1 ⟨rfl, b1⟩
    have b01 := b1
    go_wp2_with fail
    refine (awake03 _ (ht.call b01)).mono ?_
    rintro _ w2 ⟨rfl, b2⟩
    have b02 := btr b01 b2 b01.size
    go_wp2_with fail
    go_ret
    exact ⟨rfl, b02⟩
  cases r'
  · clear hr hx wc wm hr' hx' wc' wm'
    go_enter Tryd.func5, Tryd.ntmps5
    go_wp2_with fail
    refine (HFW.out _ hd).mono ?_
    rintro _ w1 ⟨rfl, b1⟩
    have b01 := b1
    go_wp2_with fail
    refine (HFW'.out _ (hd'.segB b01)).mono ?_
    rintro _ w2 ⟨rfl, b2⟩
    have b02 := btr b01 b2 b01.size
    go_wp2_with fail
    refine (awake03 _ (ht.call b02)).mono ?_
    rintro _ w3 ⟨rfl, b3⟩
    have b03 := btr b02 b3 b02.size
    go_wp2_with fail
    go_ret
    exact ⟨rfl, b03⟩
  obtain ⟨hn, HS⟩ := few_of hr hx hd.len
  obtain ⟨hn', HS'⟩ := few_of hr' hx' hd'.len
  have hn1 : n ≤ 100000 := by omega
  have hn2 : n' ≤ 100000 := by omega
  obtain ⟨q, hq⟩ : ∃ q, (l == l') = q := ⟨_, rfl⟩
  have hq' : (l' == l) = q := by rw [← hq, Bool.eq_iff_iff, beq_iff_eq, beq_iff_eq]; exact ⟨Eq.symm, Eq.symm⟩
  have H1 := Lib.hid (show ∀ w, DL rSeg 2 w (Lo w) A n l → DL rSeg 2 w (Lo w) A' n' l' → Calls Tryd.prog 25 #[.slice A n c, .slice A' n' c'] w fun en w' => en = .returned (.bool q) ∧ Below w.heap.size w w' from fun w hd hd' => by rw [← hq]; exact aspSame A A' n n' c c' l l' w hd hd' hn1 HS)
  have H2 := Lib.hid (show ∀ w, DL rSeg 2 w (Lo w) A n l → DL rSeg 2 w (Lo w) A' n' l' → Calls Tryd.prog 22 #[.slice A n c, .slice A' n' c'] w fun en w' => en = .returned (.bool q) ∧ Below w.heap.size w w' from fun w hd hd' => by rw [← hq]; exact refSame03 A A' n n' c c' l l' w hd hd' hn1 HS)
  have H3 := Lib.hid (show ∀ w, DL rSeg 2 w (Lo w) A n l → DL rSeg 2 w (Lo w) A' n' l' → Calls Tryd.prog 25 #[.slice A' n' c', .slice A n c] w fun en w' => en = .returned (.bool q) ∧ Below w.heap.size w w' from fun w hd hd' => by rw [← hq']; exact aspSame A' A n' n c' c l' l w hd' hd hn2 HS')
  have e1 : (q == q) = true := by simp
  clear hr hx wc wm hr' hx' wc' wm' hq hq' hn hn' hn1 hn2 HS HS'
  go_enter Tryd.func5, Tryd.ntmps5
  go_wp2_with fail
  refine (HFW.out _ hd).mono ?_
  rintro _ w1 ⟨rfl, b1⟩
  have b01 := b1
  go_wp2_with fail
  refine (HFW'.out _ (hd'.segB b01)).mono ?_
  rintro _ w2 ⟨rfl, b2⟩
  have b02 := btr b01 b2 b01.size
  go_wp2_with fail
  refine (H1.out _ (hd.segB b02) (hd'.segB b02)).mono ?_
  rintro _ w3 ⟨rfl, b3⟩
  have b03 := btr b02 b3 b02.size
  go_wp2_with fail
  refine (H2.out _ (hd.segB b03) (hd'.segB b03)).mono ?_
  rintro _ w4 ⟨rfl, b4⟩
  have b04 := btr b03 b4 b03.size
  go_wp2_with fail
  refine (H3.out _ (hd.segB b04) (hd'.segB b04)).mono ?_
  rintro _ w5 ⟨rfl, b5⟩
  have b05 := btr b04 b5 b04.size
  go_wp2_with fail
  refine (H2.out _ (hd.segB b05) (hd'.segB b05)).mono ?_
  rintro _ w6 ⟨rfl, b6⟩
  have b06 := btr b05 b6 b05.size
  go_wp2_with fail
  refine (awake03 _ (ht.call b06)).mono ?_
  rintro _ w7 ⟨rfl, b7⟩
  have b07 := btr b06 b7 b06.size
  go_wp2_with fail
  go_ret
  exact ⟨rfl, b07⟩
end Go.Proofs.YtlpkngjeihoknaaDoor
