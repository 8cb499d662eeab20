/- The walk of the document's ParseComm (layer 12). No conditions but sizes. -/
import Derived.Test.YtnhkpnohadbcdaaDoorProg
import Derived.WalkKit
import Derived.WalkSpells
import Derived.WalkLawsBesides
import Derived.Outline
import Derived.Deep.QuietTactic
import Derived.BigQuiet
import Derived.Handy
import Derived.Lib.Hide
import Derived.Test.YtnhkpnohadbcdaaDoorFilC
namespace Go.Proofs.YtnhkpnohadbcdaaDoor
open Go.RowKit
theorem ext_ahead (s : ByteArray) (k : Nat) : (s.extract 0 k).data.toList = s.data.toList.take k := by rw [← ByteArray.toList_eq, Lib.extract_toList]; simp
theorem ext_behind (s : ByteArray) (k : Nat) : (s.extract k s.size).data.toList = s.data.toList.drop k := by
  rw [← ByteArray.toList_eq, Lib.extract_toList, List.take_of_length_le]
  rw [List.length_drop]
  exact Nat.le_refl _
theorem ext_ahead_size (s : ByteArray) (k : Nat) : (s.extract 0 k).size ≤ s.size := by
  have : (s.extract 0 k).size = (s.data.toList.take k).length := by rw [← ext_ahead]; rfl
  have h2 : s.data.toList.length = s.size := rfl
  rw [this, List.length_take]; omega
theorem ext_behind_size (s : ByteArray) (k : Nat) : (s.extract k s.size).size ≤ s.size := by
  have : (s.extract k s.size).size = (s.data.toList.drop k).length := by rw [← ext_behind]; rfl
  have h2 : s.data.toList.length = s.size := rfl
  rw [this, List.length_drop]; omega
theorem CmAns.nocolon {l : List UInt8} (n1 : commT 4294967041 ≠ l) (n2 : commT 4294967042 ≠ l) (n3 : commT 4294967043 ≠ l) (h : (58 : UInt8) ∉ l) : CmAns l 0 false := by
  refine .inr ⟨rfl, rfl, fun d _ he => ?_⟩
  have hn : ¬ named d := by
    rintro (rfl | rfl | rfl)
    · exact n1 he
    · exact n2 he
    · exact n3 he
  rw [commT_num hn] at he
  exact h (by rw [← he]; simp)
set_option maxHeartbeats 4000000 in
set_option maxRecDepth 100000 in
theorem refParseComm (s : ByteArray) (w : World) (hl : s.size ≤ 2000) :
    Calls Tryd.prog 46 #[.string s] w (RetCm w s.data.toList) := by
  obtain ⟨S1, hS1⟩ : ∃ S : ByteArray, S = ⟨(commT 4294967041).toArray⟩ := ⟨_, rfl⟩
  obtain ⟨S2, hS2⟩ : ∃ S : ByteArray, S = ⟨(commT 4294967042).toArray⟩ := ⟨_, rfl⟩
  obtain ⟨S3, hS3⟩ : ∃ S : ByteArray, S = ⟨(commT 4294967043).toArray⟩ := ⟨_, rfl⟩
  have E1 := Lib.hid (text_iff (s := s) hS1)
  have E2 := Lib.hid (text_iff (s := s) hS2)
  have E3 := Lib.hid (text_iff (s := s) hS3)
  have HS1 := Lib.hid hS1
  have HS2 := Lib.hid hS2
  have HS3 := Lib.hid hS3
  clear hS1 hS2 hS3
  have hs0 : (s.size : Int) ≤ 2000 := by omega
  go_enter Tryd.func46, Tryd.ntmps46
  go_wp2_with fail
  refine wp_loop_rounds 4 ?_
  rw [rounds_succ]
  go_wp2_with fail
  refine (refComm 4294967041 (by omega) S1 _ HS1).mono ?_
  rintro _ w1 ⟨rfl, b1⟩
  cases hb1 : (S1.toList == s.toList)
  case true =>
    have HG := Lib.hid (show CmAns s.data.toList 4294967041 true from .inl ⟨rfl, by omega, E1.out.1 hb1⟩)
    go_wp2_with fail
    go_ret2
    exact ⟨4294967041, true, rfl, HG.out, b1⟩
  have N1 := Lib.hid (show commT 4294967041 ≠ s.data.toList from fun h => by rw [E1.out.2 h] at hb1; cases hb1)
  go_wp2_with fail
  rw [rounds_succ]
  go_wp2_with fail
  refine (refComm 4294967042 (by omega) S2 _ HS2).mono ?_
  rintro _ w2 ⟨rfl, b2⟩
  have b02 := btr b1 b2 b1.size
  cases hb2 : (S2.toList == s.toList)
  case true =>
    have HG := Lib.hid (show CmAns s.data.toList 4294967042 true from .inl ⟨rfl, by omega, E2.out.1 hb2⟩)
    go_wp2_with fail
    go_ret2
    exact ⟨4294967042, true, rfl, HG.out, b02⟩
  have N2 := Lib.hid (show commT 4294967042 ≠ s.data.toList from fun h => by rw [E2.out.2 h] at hb2; cases hb2)
  go_wp2_with fail
  rw [rounds_succ]
  go_wp2_with fail
  refine (refComm 4294967043 (by omega) S3 _ HS3).mono ?_
  rintro _ w3 ⟨rfl, b3⟩
  have b03 := btr b02 b3 b02.size
  cases hb3 : (S3.toList == s.toList)
  case true =>
    have HG := Lib.hid (show CmAns s.data.toList 4294967043 true from .inl ⟨rfl, by omega, E3.out.1 hb3⟩)
    go_wp2_with fail
    go_ret2
    exact ⟨4294967043, true, rfl, HG.out, b03⟩
  have N3 := Lib.hid (show commT 4294967043 ≠ s.data.toList from fun h => by rw [E3.out.2 h] at hb3; cases hb3)
  go_wp2_with fail
  rw [rounds_succ]
  go_wp2_with fail
  clear hb1 hb2 hb3 b1 b2 b3 b02
  go_loop [5] (fun i => ∃ k : Nat, k ≤ s.size ∧ i = .int .i64 k ∧ Hid ((58 : UInt8) ∉ s.data.toList.take k)) (fun i => s.size - (intOf i).toNat)
  case atStart => exact ⟨0, by omega, rfl, Lib.hid (by simp)⟩
  case round =>
    obtain ⟨k, hk, rfl, h0⟩ := hrel
    by_cases hlt : k < s.size
    · have hg0 := toL_get hlt
      have hge := congrArg UInt8.toNat (get_at s k hlt)
      rw [Nat.add_zero] at hge
      obtain ⟨x, hx⟩ : ∃ x, (s[k]'hlt).toNat = x := ⟨_, rfl⟩
      rw [hx] at hge
      by_cases h58 : x = 58
      · have HK := Lib.hid (show s.data.toList[k]? = some 58 by rw [hg0]; congr 1; exact UInt8.toNat_inj.1 (by rw [hge, h58]; rfl))
        subst h58
        clear hg0 hge
        have hki : ((k : Int) == s.size) = false := by simpa using (by omega : ¬ (k : Int) = s.size)
        have hp1 : (k : Int) + 1 ≤ (s.size : Int) := by omega
        have hp4 : (0 : Int) ≤ (k : Int) + 1 := by omega
        have hn1 : ((k : Int) + 1).toNat = k + 1 := by omega
        have HC := Lib.hid (show CutAns 58 s.data.toList (s.data.toList.take k) (s.data.toList.drop (k + 1)) true from .inl ⟨rfl, k, HK.out, h0.out, rfl, rfl⟩)
        go_wp2_with fail
        refine (refInt_any (s.extract 0 k) _ (Nat.le_trans (ext_ahead_size s k) hl)).mono ?_
        rw [ext_ahead]
        rintro _ w5 ⟨xi, ok1, rfl, hX, b5⟩
        have b05 := btr b03 b5 b03.size
        obtain ⟨x, rfl, hx⟩ := hX.nat
        have HX := Lib.hid hX
        go_wp2_with fail
        refine (refInt_any (s.extract (k + 1) s.size) _ (Nat.le_trans (ext_behind_size s _) hl)).mono ?_
        rw [ext_behind]
        rintro _ w6 ⟨yi, ok2, rfl, hY, b6⟩
        have b06 := btr b05 b6 b05.size
        obtain ⟨y, rfl, hy⟩ := hY.nat
        have HY := Lib.hid hY
        have hxi : (x : Int) ≤ 4294967295 := by omega
        have hyi : (y : Int) ≤ 4294967295 := by omega
        clear hX hY b5 b6 b05 hx hy
        cases ok1
        · have HG := Lib.hid (CmAns.no N1.out N2.out N3.out HC.out HX.out HY.out (.inl rfl))
          go_wp2_with fail
          go_ret2
          exact ⟨0, false, rfl, HG.out, b06⟩
        cases ok2
        · have HG := Lib.hid (CmAns.no N1.out N2.out N3.out HC.out HX.out HY.out (.inr (.inl rfl)))
          go_wp2_with fail
          go_ret2
          exact ⟨0, false, rfl, HG.out, b06⟩
        rcases Nat.lt_or_ge 65535 x with hbx | hbx
        · have HG := Lib.hid (CmAns.no N1.out N2.out N3.out HC.out HX.out HY.out (.inr (.inr (.inl (by omega)))))
          have hd : decide (65535 < (x : Int)) = true := decide_eq_true (by omega)
          clear hbx
          go_wp2_with fail
          go_ret2
          exact ⟨0, false, rfl, HG.out, b06⟩
        rcases Nat.lt_or_ge 65535 y with hby | hby
        · have HG := Lib.hid (CmAns.no N1.out N2.out N3.out HC.out HX.out HY.out (.inr (.inr (.inr (.inl (by omega))))))
          have hd : decide (65535 < (x : Int)) = false := decide_eq_false (by omega)
          have hd2 : decide (65535 < (y : Int)) = true := decide_eq_true (by omega)
          clear hbx hby
          go_wp2_with fail
          go_ret2
          exact ⟨0, false, rfl, HG.out, b06⟩
        have hd : decide (65535 < (x : Int)) = false := decide_eq_false (by omega)
        have hd2 : decide (65535 < (y : Int)) = false := decide_eq_false (by omega)
        obtain ⟨C, hC⟩ : ∃ C, 65536 * x + y = C := ⟨_, rfl⟩
        have hCl : C < 4294967296 := by omega
        have hCi : 65536 * (x : Int) + y = C := by omega
        have hwC : IntKind.u32.wrap (C : Int) = C := by rw [IntKind.wrap_u32]; omega
        have hxb : (x : Int) ≤ 65535 := by omega
        have hyb : (y : Int) ≤ 65535 := by omega
        have HCC := Lib.hid (show ∀ d : Nat, (x : Int) = (d / 65536 : Nat) → (y : Int) = (d % 65536 : Nat) → d = C from fun d e1 e2 => by omega)
        clear hC hbx hby
        obtain ⟨S, hS⟩ : ∃ S : ByteArray, S = ⟨(commT C).toArray⟩ := ⟨_, rfl⟩
        have hE := text_iff (s := s) hS
        have HS := Lib.hid hS
        clear hS
        cases hb : (S.toList == s.toList)
        · have HG := Lib.hid (CmAns.no N1.out N2.out N3.out HC.out HX.out HY.out (.inr (.inr (.inr (.inr (fun d e1 e2 h => by
            have := HCC.out d e1 e2
            subst this
            rw [hE.2 h] at hb; cases hb))))))
          have hb' : (S.toList != s.toList) = true := by unfold bne; rw [hb]; rfl
          clear hE
          go_wp2_with fail
          refine (refComm C hCl S _ HS).mono ?_
          rintro _ w7 ⟨rfl, b7⟩
          have b07 := btr b06 b7 b06.size
          go_wp2_with fail
          go_ret2
          exact ⟨0, false, rfl, HG.out, b07⟩
        · have HG := Lib.hid (show CmAns s.data.toList C true from .inl ⟨rfl, hCl, hE.1 hb⟩)
          have hb' : (S.toList != s.toList) = false := by unfold bne; rw [hb]; rfl
          clear hE
          go_wp2_with fail
          refine (refComm C hCl S _ HS).mono ?_
          rintro _ w7 ⟨rfl, b7⟩
          have b07 := btr b06 b7 b06.size
          go_wp2_with fail
          go_ret2
          exact ⟨C, true, rfl, HG.out, b07⟩
      · have HN := Lib.hid (no_sign_step (g := 58) (e := k + 1) h0.out (fun j j1 j2 => by rw [show j = k by omega, hge]; exact h58))
        have ht1 : ((x : Int) != 58) = true := by simpa using (by omega : ¬ (x : Int) = 58)
        clear hg0 hge
        go_wp2_with fail
        go_round
        case rel => exact ⟨k + 1, by omega, by go_num, HN⟩
        case measure => simp [intOf]; omega
    · have hk' : k = s.size := by omega
      have HN := Lib.hid (show CmAns s.data.toList 0 false from CmAns.nocolon N1.out N2.out N3.out (by have := h0.out; rwa [List.take_of_length_le (by show s.size ≤ k; omega)] at this))
      have hki : ((k : Int) == s.size) = true := by simp; omega
      go_wp2_with fail
      go_ret2
      exact ⟨0, false, rfl, HN.out, b03⟩
end Go.Proofs.YtnhkpnohadbcdaaDoor
