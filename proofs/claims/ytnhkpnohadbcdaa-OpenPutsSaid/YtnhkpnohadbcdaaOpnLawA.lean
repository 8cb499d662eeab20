/- The statement OpenPuts: its walk. No conditions but the statement's own. -/
import Derived.Test.YtnhkpnohadbcdaaProg
import Derived.WalkKit
import Derived.WalkSpells
import Derived.WalkLawsBesides
import Derived.Outline
import Derived.Deep.QuietTactic
import Derived.BigQuiet
import Derived.Handy
import Derived.Lib.Hide
import Derived.Test.YtnhkpnohadbcdaaOpnL
namespace Go.Proofs.Ytnhkpnohadbcdaa
open Go.RowKit
set_option linter.unusedSimpArgs false
set_option linter.unusedVariables false
theorem putTail_len (c : List UInt8) (h : c.length ≤ 253) : (putTail c).length ≤ 256 := by
  unfold putTail
  split
  · simp
  · simp; omega
theorem putB_len {o : Opn} (h : putOk o = true) : (putB o).length ≤ 300 := by
  unfold putOk at h
  simp only [Bool.and_eq_true, decide_eq_true_eq] at h
  have h1 := h.1.1.1
  unfold capsOk at h1
  rw [Bool.and_eq_true, decide_eq_true_eq] at h1
  have := putTail_len _ h1.2
  unfold putB
  simp only [List.length_append, List.length_cons, List.length_nil]
  have e1 : ∀ m, (b16 m).length = 2 := fun _ => rfl
  have e2 : ∀ m, (b32 m).length = 4 := fun _ => rfl
  rw [e1, e1, e2]
  omega
theorem openPut_yes (v a h : Int) (i : Nat) (hi : i < 4294967296) (A : Option Addr) (n c : Nat) (l : List Cap) (w : World) (hd : DL rCap 2 w (Lo w) A n l) (hn : n ≤ 100000) (hp : putOk ⟨v, a, h, i, l⟩ = true) :
    Calls Try.prog 9 #[.agg #[.int .i64 v, .int .i64 a, .int .i64 h, .int .u32 i, .slice A n c]] w fun e w' => ∃ (A : Option Addr) (n c : Nat), e = .returned (.tuple #[.slice A n c, .int .i64 0]) ∧ OB w' 5 w.heap.size A n c (putB ⟨v, a, h, i, l⟩) ∧ Below w.heap.size w w' :=
  (openPut v a h i hi A n c l w hd hn).mono fun _ _ ⟨A, n, c, h1, h2, h3⟩ => by
    rw [if_pos hp] at h1 h2
    exact ⟨A, n, c, h1, h2, h3⟩
theorem openPut_no (v a h : Int) (i : Nat) (hi : i < 4294967296) (A : Option Addr) (n c : Nat) (l : List Cap) (w : World) (hd : DL rCap 2 w (Lo w) A n l) (hn : n ≤ 100000) (hp : putOk ⟨v, a, h, i, l⟩ = false) :
    Calls Try.prog 9 #[.agg #[.int .i64 v, .int .i64 a, .int .i64 h, .int .u32 i, .slice A n c]] w fun e w' => ∃ (A : Option Addr) (n c : Nat), e = .returned (.tuple #[.slice A n c, .int .i64 1]) ∧ OB w' 5 w.heap.size A n c [] ∧ Below w.heap.size w w' :=
  (openPut v a h i hi A n c l w hd hn).mono fun _ _ ⟨A, n, c, h1, h2, h3⟩ => by
    rw [hp] at h1 h2
    exact ⟨A, n, c, h1, h2, h3⟩
theorem refPut_yes (v a h : Int) (i : Nat) (hi : i < 4294967296) (A : Option Addr) (n c : Nat) (l : List Cap) (w : World) (hd : DL rCap 2 w (Lo w) A n l) (hn : n ≤ 100000) (hp : putOk ⟨v, a, h, i, l⟩ = true) :
    Calls Try.prog 10 #[.agg #[.int .i64 v, .int .i64 a, .int .i64 h, .int .u32 i, .slice A n c]] w fun e w' => ∃ (A : Option Addr) (n c : Nat), e = .returned (.tuple #[.slice A n c, .int .i64 0]) ∧ OB w' 5 w.heap.size A n c (putB ⟨v, a, h, i, l⟩) ∧ Below w.heap.size w w' :=
  (refPut06 v a h i hi A n c l w hd hn).mono fun _ _ ⟨A, n, c, h1, h2, h3⟩ => by
    rw [if_pos hp] at h1 h2
    exact ⟨A, n, c, h1, h2, h3⟩
theorem refPut_no (v a h : Int) (i : Nat) (hi : i < 4294967296) (A : Option Addr) (n c : Nat) (l : List Cap) (w : World) (hd : DL rCap 2 w (Lo w) A n l) (hn : n ≤ 100000) (hp : putOk ⟨v, a, h, i, l⟩ = false) :
    Calls Try.prog 10 #[.agg #[.int .i64 v, .int .i64 a, .int .i64 h, .int .u32 i, .slice A n c]] w fun e w' => ∃ (A : Option Addr) (n c : Nat), e = .returned (.tuple #[.slice A n c, .int .i64 1]) ∧ OB w' 5 w.heap.size A n c [] ∧ Below w.heap.size w w' :=
  (refPut06 v a h i hi A n c l w hd hn).mono fun _ _ ⟨A, n, c, h1, h2, h3⟩ => by
    rw [hp] at h1 h2
    exact ⟨A, n, c, h1, h2, h3⟩
theorem openRead_ok (A : Option Addr) (n c : Nat) (l : List UInt8) (o : Opn) (w : World) (h : BS w w.heap.size A n l) (hn : n ≤ 100000) (hr : readO l = .inr o) : Calls Try.prog 12 #[.slice A n c] w fun en w' => ∃ (A : Option Addr) (n c : Nat), en = .returned (.tuple #[.agg #[.int .i64 o.ver, .int .i64 o.asn, .int .i64 o.hold, .int .u32 o.id, .slice A n c], .agg #[.int .i64 0, .int .i64 0, .slice none 0 0]]) ∧ DL rCap 2 w' (Lo w') A n o.caps ∧ Below w.heap.size w w' :=
  (openRead A n c l w h hn).mono fun _ _ ⟨h0, h1⟩ => by
    rw [hr] at h1
    obtain ⟨A, n, c, h1, h2, _⟩ := h1
    exact ⟨A, n, c, h1, h2, h0⟩
set_option maxHeartbeats 2000000 in
set_option maxRecDepth 100000 in
theorem lawOpenPuts (w : World) (ve a ho : Int) (i : Nat) (A : Option Addr) (n c : Nat) (l : List Cap) (wi : i < 4294967296) (w0 : DL rCap 2 w (Lo w) A n l) (wc : n ≤ c) (wm : c ≤ maxLen) :
    Calls Try.prog 3 #[.agg #[.int .i64 ve, .int .i64 a, .int .i64 ho, .int .u32 i, .slice A n c]] w fun en w' => en = .returned (.bool true) ∧ Below w.heap.size w w' := by
  have HL := Lib.hid w0.len
  obtain ⟨V, hV, hX, b0⟩ := box1c w #[.int .i64 ve, .int .i64 a, .int .i64 ho, .int .u32 i, .slice A n c] 25
  have HV := Lib.hid hV
  clear hV
  have HF := law06few ve a ho i A n c l V (w0.call rCap_ok b0) wc wm
  have HWM := Lib.hid wm
  clear wm
  by_cases hf : fewC l = true
  case neg =>
    have hf' : fewC l = false := by simpa using hf
    rw [hf'] at HF
    clear hf hf'
    go_enter Try.func3, Try.ntmps3
    go_upto_region 1 with fail
    rw [HV.out]
    have c_hX0 := hX.cell 0
    have c_hX1 := hX.cell 1
    have c_hX2 := hX.cell 2
    have c_hX3 := hX.cell 3
    have c_hX4 := hX.cell 4
    go_wp2_with fail
    refine HF.mono ?_
    rintro _ w1 ⟨rfl, b1⟩
    clear c_hX0 c_hX1 c_hX2 c_hX3 c_hX4
    have b01 := btr b0 b1 b0.size
    have hX_1 := hX.below b1 hX.lt
    have c_hX0 := hX_1.cell 0
    have c_hX1 := hX_1.cell 1
    have c_hX2 := hX_1.cell 2
    have c_hX3 := hX_1.cell 3
    have c_hX4 := hX_1.cell 4
    go_wp2_with fail
    refine (awake06 _).mono ?_
    rintro _ w2 ⟨rfl, b2⟩
    clear c_hX0 c_hX1 c_hX2 c_hX3 c_hX4
    have b02 := btr b01 b2 b01.size
    have hX_2 := hX_1.below b2 hX_1.lt
    clear hX_1
    have c_hX0 := hX_2.cell 0
    have c_hX1 := hX_2.cell 1
    have c_hX2 := hX_2.cell 2
    have c_hX3 := hX_2.cell 3
    have c_hX4 := hX_2.cell 4
    go_wp2_with fail
    go_ret
    exact ⟨rfl, b02⟩
  rw [hf] at HF
  have hn : n ≤ 100000 := by have := (fewC_of hf).1; have := HL.out; omega
  clear hf
  by_cases hp : putOk ⟨ve, a, ho, i, l⟩ = true
  case neg =>
    have HP := Lib.hid (show putOk ⟨ve, a, ho, i, l⟩ = false by simpa using hp)
    clear hp
    go_enter Try.func3, Try.ntmps3
    go_upto_region 1 with fail
    rw [HV.out]
    have c_hX0 := hX.cell 0
    have c_hX1 := hX.cell 1
    have c_hX2 := hX.cell 2
    have c_hX3 := hX.cell 3
    have c_hX4 := hX.cell 4
    go_wp2_with fail
    refine HF.mono ?_
    rintro _ w1 ⟨rfl, b1⟩
    clear c_hX0 c_hX1 c_hX2 c_hX3 c_hX4
    have b01 := btr b0 b1 b0.size
    have hX_1 := hX.below b1 hX.lt
    have c_hX0 := hX_1.cell 0
    have c_hX1 := hX_1.cell 1
    have c_hX2 := hX_1.cell 2
    have c_hX3 := hX_1.cell 3
    have c_hX4 := hX_1.cell 4
    go_wp2_with fail
    refine (openPut_no ve a ho i wi A n c l _ (w0.call rCap_ok b01) hn HP.out).mono ?_
    rintro _ w2 ⟨A2, n2, c2, rfl, o2, b2⟩
    clear c_hX0 c_hX1 c_hX2 c_hX3 c_hX4
    have b02 := btr b01 b2 b01.size
    have hX_2 := hX_1.below b2 hX_1.lt
    clear hX_1
    have c_hX0 := hX_2.cell 0
    have c_hX1 := hX_2.cell 1
    have c_hX2 := hX_2.cell 2
    have c_hX3 := hX_2.cell 3
    have c_hX4 := hX_2.cell 4
    go_wp2_with fail
    refine (refPut_no ve a ho i wi A n c l _ (w0.call rCap_ok b02) hn HP.out).mono ?_
    rintro _ w3 ⟨A3, n3, c3, rfl, o3, b3⟩
    clear c_hX0 c_hX1 c_hX2 c_hX3 c_hX4
    have b03 := btr b02 b3 b02.size
    have hX_3 := hX_2.below b3 hX_2.lt
    clear hX_2
    have c_hX0 := hX_3.cell 0
    have c_hX1 := hX_3.cell 1
    have c_hX2 := hX_3.cell 2
    have c_hX3 := hX_3.cell 3
    have c_hX4 := hX_3.cell 4
    go_wp2_with fail
    refine (ref01Same A2 A3 n2 n3 c2 c3 _ _ _ _ _ (o2.below b3).bs o3.bs).mono ?_
    rw [beq_self_eq_true]
    rintro _ _ ⟨rfl, rfl⟩
    go_wp2_with fail
    refine (awake06 _).mono ?_
    rintro _ w4 ⟨rfl, b4⟩
    clear c_hX0 c_hX1 c_hX2 c_hX3 c_hX4
    have b04 := btr b03 b4 b03.size
    have hX_4 := hX_3.below b4 hX_3.lt
    clear hX_3
    have c_hX0 := hX_4.cell 0
    have c_hX1 := hX_4.cell 1
    have c_hX2 := hX_4.cell 2
    have c_hX3 := hX_4.cell 3
    have c_hX4 := hX_4.cell 4
    go_wp2_with fail
    go_ret
    exact ⟨rfl, b04⟩
  have HP := Lib.hid hp
  clear hp
  go_enter Try.func3, Try.ntmps3
  go_upto_region 1 with fail
  rw [HV.out]
  have c_hX0 := hX.cell 0
  have c_hX1 := hX.cell 1
  have c_hX2 := hX.cell 2
  have c_hX3 := hX.cell 3
  have c_hX4 := hX.cell 4
  go_wp2_with fail
  refine HF.mono ?_
  rintro _ w1 ⟨rfl, b1⟩
  clear c_hX0 c_hX1 c_hX2 c_hX3 c_hX4
  have b01 := btr b0 b1 b0.size
  have hX_1 := hX.below b1 hX.lt
  have c_hX0 := hX_1.cell 0
  have c_hX1 := hX_1.cell 1
  have c_hX2 := hX_1.cell 2
  have c_hX3 := hX_1.cell 3
  have c_hX4 := hX_1.cell 4
  go_wp2_with fail
  refine (openPut_yes ve a ho i wi A n c l _ (w0.call rCap_ok b01) hn HP.out).mono ?_
  rintro _ w2 ⟨A2, n2, c2, rfl, o2, b2⟩
  clear c_hX0 c_hX1 c_hX2 c_hX3 c_hX4
  have b02 := btr b01 b2 b01.size
  have hX_2 := hX_1.below b2 hX_1.lt
  clear hX_1
  have c_hX0 := hX_2.cell 0
  have c_hX1 := hX_2.cell 1
  have c_hX2 := hX_2.cell 2
  have c_hX3 := hX_2.cell 3
  have c_hX4 := hX_2.cell 4
  go_wp2_with fail
  refine (refPut_yes ve a ho i wi A n c l _ (w0.call rCap_ok b02) hn HP.out).mono ?_
  rintro _ w3 ⟨A3, n3, c3, rfl, o3, b3⟩
  clear c_hX0 c_hX1 c_hX2 c_hX3 c_hX4
  have b03 := btr b02 b3 b02.size
  have hX_3 := hX_2.below b3 hX_2.lt
  clear hX_2
  have c_hX0 := hX_3.cell 0
  have c_hX1 := hX_3.cell 1
  have c_hX2 := hX_3.cell 2
  have c_hX3 := hX_3.cell 3
  have c_hX4 := hX_3.cell 4
  go_wp2_with fail
  refine (ref01Same A2 A3 n2 n3 c2 c3 _ _ _ _ _ (o2.below b3).bs o3.bs).mono ?_
  rw [beq_self_eq_true]
  rintro _ _ ⟨rfl, rfl⟩
  have hn2 : n2 ≤ 100000 := by have := o2.1; have := putB_len HP.out; omega
  go_wp2_with fail
  refine (openRead_ok A2 n2 c2 _ _ _ (o2.below b3).bs hn2 (readO_put HP.out wi)).mono ?_
  rintro _ w4 ⟨A4, n4, c4, rfl, hd4, b4⟩
  clear c_hX0 c_hX1 c_hX2 c_hX3 c_hX4
  have b04 := btr b03 b4 b03.size
  have hX_4 := hX_3.below b4 hX_3.lt
  clear hX_3
  have c_hX0 := hX_4.cell 0
  have c_hX1 := hX_4.cell 1
  have c_hX2 := hX_4.cell 2
  have c_hX3 := hX_4.cell 3
  have c_hX4 := hX_4.cell 4
  go_upto_region 10 with fail
  obtain ⟨w5, hw5, hY, hF, b5⟩ := boxes2 w4 #[.int .i64 ve, .int .i64 a, .int .i64 ho, .int .u32 i, .slice A4 n4 c4] #[.int .i64 0, .int .i64 0, .slice none 0 0] 25 36
  rw [hw5]
  clear hw5
  clear c_hX0 c_hX1 c_hX2 c_hX3 c_hX4
  have b05 := btr b04 b5 b04.size
  have hX_5 := hX_4.below b5 hX_4.lt
  clear hX_4
  have c_hX0 := hX_5.cell 0
  have c_hX1 := hX_5.cell 1
  have c_hX2 := hX_5.cell 2
  have c_hX3 := hX_5.cell 3
  have c_hX4 := hX_5.cell 4
  have hd5 := hd4.call rCap_ok b5
  have hn4 : n4 ≤ 100000 := by have h4 := hd4.len; have h0 := HL.out; omega
  have c_hY0 := hY.cell 0
  have c_hY1 := hY.cell 1
  have c_hY2 := hY.cell 2
  have c_hY3 := hY.cell 3
  have c_hY4 := hY.cell 4
  have c_hF0 := hF.cell 0
  go_wp2_with fail
  refine (refSame06 ve a ho i A4 n4 c4 l ve a ho i A n c l _ hd5 (w0.call rCap_ok b05) hn4).mono ?_
  rintro _ w6 ⟨r6, rfl, hr6, b6⟩
  obtain rfl : r6 = true := hr6.2 rfl
  clear c_hX0 c_hX1 c_hX2 c_hX3 c_hX4 c_hY0 c_hY1 c_hY2 c_hY3 c_hY4 c_hF0
  have b06 := btr b05 b6 b05.size
  have hX_6 := hX_5.below b6 hX_5.lt
  clear hX_5
  have hY_6 := hY.below b6 hY.lt
  have hF_6 := hF.below b6 hF.lt
  have c_hX0 := hX_6.cell 0
  have c_hX1 := hX_6.cell 1
  have c_hX2 := hX_6.cell 2
  have c_hX3 := hX_6.cell 3
  have c_hX4 := hX_6.cell 4
  have c_hY0 := hY_6.cell 0
  have c_hY1 := hY_6.cell 1
  have c_hY2 := hY_6.cell 2
  have c_hY3 := hY_6.cell 3
  have c_hY4 := hY_6.cell 4
  have c_hF0 := hF_6.cell 0
  go_wp2_with fail
  refine (awake06 _).mono ?_
  rintro _ w7 ⟨rfl, b7⟩
  clear c_hX0 c_hX1 c_hX2 c_hX3 c_hX4 c_hY0 c_hY1 c_hY2 c_hY3 c_hY4 c_hF0
  have b07 := btr b06 b7 b06.size
  have hX_7 := hX_6.below b7 hX_6.lt
  clear hX_6
  have hY_7 := hY_6.below b7 hY_6.lt
  clear hY_6
  have hF_7 := hF_6.below b7 hF_6.lt
  clear hF_6
  have c_hX0 := hX_7.cell 0
  have c_hX1 := hX_7.cell 1
  have c_hX2 := hX_7.cell 2
  have c_hX3 := hX_7.cell 3
  have c_hX4 := hX_7.cell 4
  have c_hY0 := hY_7.cell 0
  have c_hY1 := hY_7.cell 1
  have c_hY2 := hY_7.cell 2
  have c_hY3 := hY_7.cell 3
  have c_hY4 := hY_7.cell 4
  have c_hF0 := hF_7.cell 0
  go_wp2_with fail
  go_ret
  exact ⟨rfl, b07⟩
end Go.Proofs.Ytnhkpnohadbcdaa
