/- The walk of layer 12's example, and of the law FilterComms. Conditions: the table of digits (DigTab). -/
import Derived.Test.YtnhkpnohadbcdaaDoorProg
import Derived.WalkKit
import Derived.WalkSpells
import Derived.WalkLawsBesides
import Derived.Outline
import Derived.Deep.QuietTactic
import Derived.BigQuiet
import Derived.Handy
import Derived.Lib.Hide
import Derived.Test.YtnhkpnohadbcdaaDoorFilH
namespace Go.Proofs.YtnhkpnohadbcdaaDoor
open Go.RowKit
set_option linter.unusedSimpArgs false
theorem ex12_comm : commT 4259905543 = [54, 53, 48, 48, 49, 58, 55] := by
  rw [commT_num (by unfold named; omega)]
  have e0 : decU 7 = [55] := by rw [decU_small (by omega)]; rfl
  have e1 : decU 65001 = [54, 53, 48, 48, 49] := by
    rw [decU_big (by omega), decU_big (by omega), decU_big (by omega), decU_big (by omega), decU_small (by omega)]; rfl
  rw [show 4259905543 / 65536 = 65001 from rfl, show 4259905543 % 65536 = 7 from rfl, e0, e1]
  rfl
theorem ex12_range : rgT 167772160 8 8 24 = [49, 48, 46, 48, 46, 48, 46, 48, 47, 56, 32, 56, 45, 50, 52] := by
  have e8 : decU 8 = [56] := by rw [decU_small (by omega)]; rfl
  have e24 : decU 24 = [50, 52] := by rw [decU_big (by omega), decU_small (by omega)]; rfl
  unfold rgT
  rw [ex_text, e8, e24]
  rfl
theorem ex12_right : rgRight 167772160 ((8 : Nat) : Int) ((8 : Nat) : Int) ((24 : Nat) : Int) = true := by decide +kernel
theorem ex12_in : rgIn 167772160 8 8 24 167837696 16 = true := by decide +kernel
set_option maxHeartbeats 1000000 in
set_option maxRecDepth 100000 in
theorem awake12 (w : World) (ht : DigTab w) : Calls Tryd.prog 43 #[] w fun en w' => en = .returned (.bool true) ∧ Below w.heap.size w w' := by
  obtain ⟨S, hS⟩ : ∃ S : ByteArray, (⟨#[54, 53, 48, 48, 49, 58, 55]⟩ : ByteArray) = S := ⟨_, rfl⟩
  obtain ⟨T, hT⟩ : ∃ T : ByteArray, (⟨#[49, 48, 46, 48, 46, 48, 46, 48, 47, 56, 32, 56, 45, 50, 52]⟩ : ByteArray) = T := ⟨_, rfl⟩
  obtain ⟨E, hE⟩ : ∃ E : ByteArray, E = ⟨(commT 4294967041).toArray⟩ := ⟨_, rfl⟩
  have hEE : (E.toList == [110, 111, 45, 101, 120, 112, 111, 114, 116]) = true := by rw [hE, commT_1]; decide +kernel
  have zS : S.size ≤ 2000 := by rw [← hS]; show 7 ≤ 2000; omega
  have zT : T.size ≤ 2000 := by rw [← hT]; show 15 ≤ 2000; omega
  have HC := Lib.hid (show CmAns S.data.toList 4259905543 true by rw [← hS]; exact .inl ⟨rfl, by omega, ex12_comm⟩)
  have HR := Lib.hid (show RgAns T.data.toList 167772160 8 8 24 true by rw [← hT]; exact .inl ⟨rfl, by omega, ex12_right, ex12_range⟩)
  have HE := Lib.hid hE
  clear hE
  have HSS := Lib.hid hS
  have HTT := Lib.hid hT
  clear hS hT
  go_enter Tryd.func43, Tryd.ntmps43
  rw [HSS.out, HTT.out]
  go_wp2_with fail
  refine (filterParseComm S _ ht zS).mono ?_
  rintro _ w1 ⟨c, ok, rfl, hA, b1⟩
  have b01 := b1
  obtain ⟨rfl, rfl⟩ := hA.one HC.out
  clear hA
  go_wp2_with fail
  refine (filterParse T _ (ht.call b01) zT).mono ?_
  rintro _ w2 ⟨a, n, lo, hi, ok, rfl, ha, hA, b2⟩
  have b02 := btr b01 b2 b01.size
  obtain ⟨rfl, rfl, rfl, rfl, rfl⟩ := hA.one HR.out
  clear hA ha
  obtain ⟨W3, hW3, hX, b03⟩ : ∃ W, w2.alloc (.cells #[.int .u32 167772160, .int .i64 8, .int .i64 8, .int .i64 24] 47) = W ∧ Blk W w2.heap.size 47 #[.int .u32 167772160, .int .i64 8, .int .i64 8, .int .i64 24] ∧ Below w.heap.size w W := ⟨_, rfl, Blk.new _ _ _, b02.alloc b02.size _⟩
  have c_hX0 := hX.cell 0
  have c_hX1 := hX.cell 1
  have c_hX2 := hX.cell 2
  have c_hX3 := hX.cell 3
  go_wp2_with fail
  refine ((by have h := filterIn 167772160 (by omega) 8 8 24 167837696 (by omega) 16 W3; rw [ex12_in] at h; exact h : Calls Tryd.prog 53 _ W3 fun en w' => en = .returned (.bool true) ∧ Below W3.heap.size W3 w')).mono ?_
  rintro _ w4 ⟨rfl, b4⟩
  clear c_hX0 c_hX1 c_hX2 c_hX3
  have b04 := btr b03 b4 b03.size
  have hX_4 := hX.below b4 hX.lt
  have c_hX0 := hX_4.cell 0
  have c_hX1 := hX_4.cell 1
  have c_hX2 := hX_4.cell 2
  have c_hX3 := hX_4.cell 3
  go_wp2_with fail
  refine (filterComm 4294967041 (by omega) E _ (ht.call b04) HE).mono ?_
  rintro _ w5 ⟨rfl, b5⟩
  clear c_hX0 c_hX1 c_hX2 c_hX3
  have b05 := btr b04 b5 b04.size
  have hX_5 := hX_4.below b5 hX_4.lt
  clear hX_4
  have c_hX0 := hX_5.cell 0
  have c_hX1 := hX_5.cell 1
  have c_hX2 := hX_5.cell 2
  have c_hX3 := hX_5.cell 3
  go_wp2_with fail
  go_ret
  exact ⟨rfl, b05⟩
theorem text_refl (S : ByteArray) : (S.toList == S.toList) = true := beq_self_eq_true _
set_option maxHeartbeats 1000000 in
set_option maxRecDepth 100000 in
theorem lawFilterComms (w : World) (c : Int) (hwf : (Lit.int .u32 c).wf = true) (s : ByteArray) (_ : s.size ≤ 9223372036854775807) (ht : DigTab w) :
    Calls Tryd.prog 8 #[.int .u32 c, .string s] w fun en w' => en = .returned (.bool true) ∧ Below w.heap.size w w' := by
  have h2 : 0 ≤ c ∧ c ≤ 4294967295 := by simpa [Lit.wf, IntKind.min, IntKind.max, IntKind.signed, IntKind.bits] using hwf
  obtain ⟨c, rfl⟩ := Int.eq_ofNat_of_zero_le h2.1
  have hc : c < 4294967296 := by omega
  clear hwf h2
  by_cases hl : 500 < s.size
  · have e1 : decide (500 < (s.size : Int)) = true := decide_eq_true (by omega)
    go_enter Tryd.func8, Tryd.ntmps8
    go_wp2_with fail
    refine (awake12 _ ht).mono ?_
    rintro _ w1 ⟨rfl, b1⟩
    have b01 := b1
    go_wp2_with fail
    go_ret
    exact ⟨rfl, b01⟩
  have e1 : decide (500 < (s.size : Int)) = false := decide_eq_false (by omega)
  obtain ⟨S, hS⟩ : ∃ S : ByteArray, S = ⟨(commT c).toArray⟩ := ⟨_, rfl⟩
  have zS : S.size ≤ 2000 := by rw [hS]; exact Nat.le_trans (commT_len c hc) (by omega)
  have HA := Lib.hid (show CmAns S.data.toList c true by rw [hS]; exact CmAns.text c hc)
  have HE := text_refl S
  have HS := Lib.hid hS
  clear hS
  go_enter Tryd.func8, Tryd.ntmps8
  go_wp2_with fail
  refine (filterComm c hc S _ ht HS).mono ?_
  rintro _ w1 ⟨rfl, b1⟩
  have b01 := b1
  go_wp2_with fail
  refine (filterParseComm S _ (ht.call b01) zS).mono ?_
  rintro _ w2 ⟨d, ok, rfl, hA, b2⟩
  have b02 := btr b01 b2 b01.size
  obtain ⟨rfl, rfl⟩ := hA.one HA.out
  clear hA
  go_wp2_with fail
  refine (filterParseComm s _ (ht.call b02) (by omega)).mono ?_
  rintro _ w3 ⟨a, is, rfl, hA, b3⟩
  have b03 := btr b02 b3 b02.size
  go_wp2_with fail
  refine (refParseComm s _ (by omega)).mono ?_
  rintro _ w4 ⟨b, was, rfl, hB, b4⟩
  have b04 := btr b03 b4 b03.size
  obtain ⟨rfl, rfl⟩ := hA.one hB
  clear hA hB
  go_wp2_with fail
  refine (refComm d hc S _ HS).mono ?_
  rintro _ w5 ⟨rfl, b5⟩
  have b05 := btr b04 b5 b04.size
  go_wp2_with fail
  refine (awake12 _ (ht.call b05)).mono ?_
  rintro _ w6 ⟨rfl, b6⟩
  have b06 := btr b05 b6 b05.size
  go_wp2_with fail
  go_ret
  exact ⟨rfl, b06⟩
end Go.Proofs.YtnhkpnohadbcdaaDoor
