/- Walks of layer 12 (filter): ParseComm. Conditions: the table of digits (DigTab). -/
import Derived.Test.YtnhkpnohadbcdaaDoorProg
import Derived.WalkKit
import Derived.WalkSpells
import Derived.WalkLawsBesides
import Derived.Outline
import Derived.Deep.QuietTactic
import Derived.BigQuiet
import Derived.Handy
import Derived.Lib.Hide
import Derived.Test.YtnhkpnohadbcdaaDoorPfxW
import Derived.Test.YtnhkpnohadbcdaaDoorFil
namespace Go.Proofs.YtnhkpnohadbcdaaDoor
open Go.RowKit
theorem comm_or (x y : Nat) (_ : x ≤ 4294967295) (hy : y ≤ 4294967295) : bits .or .u32 ((x : Int) * 65536 % 4294967296) (bits .and .u32 (y : Int) 65535) = ((x % 65536 * 65536 + y % 65536 : Nat) : Int) := by
  have e1 : (x : Int) * 65536 % 4294967296 = ((x % 65536 * 65536 : Nat) : Int) := by omega
  have e2 : bits .and .u32 (y : Int) 65535 = ((y % 65536 : Nat) : Int) := by
    have h := u32_and_nat y 65535 (by omega) (by omega)
    rw [show y &&& 65535 = y % 65536 from Nat.and_two_pow_sub_one_eq_mod y 16] at h
    exact h
  rw [e1, e2, u32_orN _ _ (by omega) (by omega)]
  congr 1
  rw [Nat.mul_comm]
  exact (Nat.two_pow_add_eq_or_of_lt (i := 16) (b := y % 65536) (by omega) (x % 65536)).symm
/-- A community and a bool are handed back: which one the text says. -/
def RetCm (w : World) (l : List UInt8) (e : Ending) (w' : World) : Prop := ∃ (c : Nat) (ok : Bool), e = .returned (.tuple #[.int .u32 c, .bool ok]) ∧ CmAns l c ok ∧ Below w.heap.size w w'
theorem comm_size (c : Nat) (h : c < 4294967296) : (⟨(commT c).toArray⟩ : ByteArray).size ≤ 20 := commT_len c h
theorem text_iff {c : Nat} {S s : ByteArray} (hS : S = ⟨(commT c).toArray⟩) : (S.toList == s.toList) = true ↔ commT c = s.data.toList := by
  rw [beq_iff_eq, hS, ByteArray.toList_mk, ByteArray.toList_eq]
set_option maxHeartbeats 4000000 in
set_option maxRecDepth 100000 in
theorem filterParseComm (s : ByteArray) (w : World) (ht : DigTab w) (hl : s.size ≤ 2000) :
    Calls Tryd.prog 45 #[.string s] w (RetCm w s.data.toList) := by
  obtain ⟨S1, hS1⟩ : ∃ S : ByteArray, S = ⟨(commT 4294967041).toArray⟩ := ⟨_, rfl⟩
  obtain ⟨S2, hS2⟩ : ∃ S : ByteArray, S = ⟨(commT 4294967042).toArray⟩ := ⟨_, rfl⟩
  obtain ⟨S3, hS3⟩ : ∃ S : ByteArray, S = ⟨(commT 4294967043).toArray⟩ := ⟨_, rfl⟩
  have E1 := Lib.hid (text_iff (s := s) hS1)
  have E2 := Lib.hid (text_iff (s := s) hS2)
  have E3 := Lib.hid (text_iff (s := s) hS3)
  have HS1 := Lib.hid hS1
  have HS2 := Lib.hid hS2
  have HS3 := Lib.hid hS3
  clear hS1 hS2 hS3
  have hB := Blk.new w 22 #[.int .u32 4294967041, .int .u32 4294967042, .int .u32 4294967043]
  have b0 := (Below.refl w.heap.size w).alloc (Nat.le_refl _) (.cells #[.int .u32 4294967041, .int .u32 4294967042, .int .u32 4294967043] 22)
  go_enter Tryd.func45, Tryd.ntmps45
  go_wp2_with fail
  obtain ⟨W, hW⟩ : ∃ W, w.alloc (.cells #[.int .u32 4294967041, .int .u32 4294967042, .int .u32 4294967043] 22) = W := ⟨_, rfl⟩
  rw [hW] at hB b0
  try rw [hW]
  clear hW
  have c0 := hB.cell 0
  refine wp_loop_rounds 4 ?_
  rw [rounds_succ]
  go_wp2_with fail
  refine (filterComm 4294967041 (by omega) S1 _ (ht.call b0) HS1).mono ?_
  rintro _ w1 ⟨rfl, b1⟩
  have b01 := btr b0 b1 b0.size
  have hB1 := hB.below b1 hB.lt
  have c1 := hB1.cell 1
  clear c0
  cases hb1 : (S1.toList == s.toList)
  case true =>
    have HG := Lib.hid (show CmAns s.data.toList 4294967041 true from .inl ⟨rfl, by omega, E1.out.1 hb1⟩)
    go_wp2_with fail
    go_ret2
    exact ⟨4294967041, true, rfl, HG.out, b01⟩
  have N1 := Lib.hid (show commT 4294967041 ≠ s.data.toList from fun h => by rw [E1.out.2 h] at hb1; cases hb1)
  go_wp2_with fail
  rw [rounds_succ]
  go_wp2_with fail
  refine (filterComm 4294967042 (by omega) S2 _ (ht.call b01) HS2).mono ?_
  rintro _ w2 ⟨rfl, b2⟩
  have b02 := btr b01 b2 b01.size
  have hB2 := hB1.below b2 hB1.lt
  have c2 := hB2.cell 2
  clear c1
  cases hb2 : (S2.toList == s.toList)
  case true =>
    have HG := Lib.hid (show CmAns s.data.toList 4294967042 true from .inl ⟨rfl, by omega, E2.out.1 hb2⟩)
    go_wp2_with fail
    go_ret2
    exact ⟨4294967042, true, rfl, HG.out, b02⟩
  have N2 := Lib.hid (show commT 4294967042 ≠ s.data.toList from fun h => by rw [E2.out.2 h] at hb2; cases hb2)
  go_wp2_with fail
  rw [rounds_succ]
  go_wp2_with fail
  refine (filterComm 4294967043 (by omega) S3 _ (ht.call b02) HS3).mono ?_
  rintro _ w3 ⟨rfl, b3⟩
  have b03 := btr b02 b3 b02.size
  clear c2
  cases hb3 : (S3.toList == s.toList)
  case true =>
    have HG := Lib.hid (show CmAns s.data.toList 4294967043 true from .inl ⟨rfl, by omega, E3.out.1 hb3⟩)
    go_wp2_with fail
    go_ret2
    exact ⟨4294967043, true, rfl, HG.out, b03⟩
  have N3 := Lib.hid (show commT 4294967043 ≠ s.data.toList from fun h => by rw [E3.out.2 h] at hb3; cases hb3)
  go_wp2_with fail
  rw [rounds_succ]
  go_wp2_with fail
  refine (filterCut s 58 58 rfl (by omega) _ hl).mono ?_
  rintro _ w4 ⟨A, B, cok, rfl, hC, zA, zB, b4⟩
  have HC := Lib.hid hC
  have b04 := btr b03 b4 b03.size
  clear hC hb1 hb2 hb3 hB hB1 hB2 b0 b1 b2 b3 b4 b01 b02
  go_wp2_with fail
  refine (octetInt_any A _ (ht.call b04) (by omega)).mono ?_
  rintro _ w5 ⟨xi, ok1, rfl, hX, b5⟩
  have b05 := btr b04 b5 b04.size
  obtain ⟨x, rfl, hx⟩ := hX.nat
  have HX := Lib.hid hX
  go_wp2_with fail
  refine (octetInt_any B _ (ht.call b05) (by omega)).mono ?_
  rintro _ w6 ⟨yi, ok2, rfl, hY, b6⟩
  have b06 := btr b05 b6 b05.size
  obtain ⟨y, rfl, hy⟩ := hY.nat
  have HY := Lib.hid hY
  clear hX hY b5 b6 b04 b05
  have hwx : IntKind.u32.wrap (x : Int) = x := by rw [IntKind.wrap_u32]; omega
  have hwy : IntKind.u32.wrap (y : Int) = y := by rw [IntKind.wrap_u32]; omega
  have hor := comm_or x y hx hy
  obtain ⟨C, hC⟩ : ∃ C, x % 65536 * 65536 + y % 65536 = C := ⟨_, rfl⟩
  rw [hC] at hor
  have hCl : C < 4294967296 := by omega
  have HCC := Lib.hid hC
  clear hC
  cases ok1
  · have HG := Lib.hid (CmAns.no N1.out N2.out N3.out HC.out HX.out HY.out (.inl rfl))
    go_wp2_with fail
    go_ret2
    exact ⟨0, false, rfl, HG.out, b06⟩
  cases ok2
  · have HG := Lib.hid (CmAns.no N1.out N2.out N3.out HC.out HX.out HY.out (.inr (.inl rfl)))
    go_wp2_with fail
    go_ret2
    exact ⟨0, false, rfl, HG.out, b06⟩
  by_cases hbig : 65535 < x
  · have HG := Lib.hid (CmAns.no N1.out N2.out N3.out HC.out HX.out HY.out (.inr (.inr (.inl (by omega)))))
    have hd : decide (65535 < (x : Int)) = true := decide_eq_true (by omega)
    go_wp2_with fail
    go_ret2
    exact ⟨0, false, rfl, HG.out, b06⟩
  have hd : decide (65535 < (x : Int)) = false := decide_eq_false (by omega)
  obtain ⟨S, hS⟩ : ∃ S : ByteArray, S = ⟨(commT C).toArray⟩ := ⟨_, rfl⟩
  have hE := text_iff (s := s) hS
  have HS := Lib.hid hS
  clear hS
  have t06 := ht.call b06
  have HBIG := Lib.hid hbig
  clear hbig
  cases hb : (S.toList == s.toList)
  · have HG := Lib.hid (CmAns.no N1.out N2.out N3.out HC.out HX.out HY.out (.inr (.inr (.inr (.inr (fun d e1 e2 h => by
      have : d = C := by have := HBIG.out; rw [← HCC.out]; omega
      subst this
      rw [hE.2 h] at hb; cases hb))))))
    have hb' : (S.toList != s.toList) = true := by unfold bne; rw [hb]; rfl
    clear hE
    go_wp2_with fail
    refine (filterComm C hCl S _ t06 HS).mono ?_
    rintro _ w7 ⟨rfl, b7⟩
    have b07 := btr b06 b7 b06.size
    go_wp2_with fail
    go_ret2
    exact ⟨0, false, rfl, HG.out, b07⟩
  · have HG := Lib.hid (show CmAns s.data.toList C true from .inl ⟨rfl, hCl, hE.1 hb⟩)
    have hb' : (S.toList != s.toList) = false := by unfold bne; rw [hb]; rfl
    clear hE
    go_wp2_with fail
    refine (filterComm C hCl S _ t06 HS).mono ?_
    rintro _ w7 ⟨rfl, b7⟩
    have b07 := btr b06 b7 b06.size
    go_wp2_with fail
    go_ret2
    exact ⟨C, true, rfl, HG.out, b07⟩
end Go.Proofs.YtnhkpnohadbcdaaDoor
