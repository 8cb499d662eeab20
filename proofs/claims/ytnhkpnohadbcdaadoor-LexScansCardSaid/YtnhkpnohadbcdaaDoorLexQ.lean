/- Walks of layer 13 (lex): the document's size of a rune, and whether all of a text's may be. No conditions but sizes. -/
import Derived.Test.YtnhkpnohadbcdaaDoorProg
import Derived.WalkKit
import Derived.WalkSpells
import Derived.WalkLawsBesides
import Derived.Outline
import Derived.Deep.QuietTactic
import Derived.BigQuiet
import Derived.Handy
import Derived.Lib.Hide
import Derived.Laws.RangeAny
import Derived.Test.YtnhkpnohadbcdaaDoorLexP
namespace Go.Proofs.YtnhkpnohadbcdaaDoor
open Go.RowKit
set_option linter.unusedSimpArgs false
set_option linter.unusedVariables false
theorem byte_at (s : ByteArray) (j : Nat) (h : j < s.size) : (s[j]'h).toNat = (s.get! j).toNat := by
  have := congrArg UInt8.toNat (get_at s j h)
  rw [Nat.add_zero] at this
  exact this.symm
theorem sizeP_lead {mm x0 x1 x2 x3 n lo hi : Nat} (h1 : ¬ (x0 < 32 ∨ x0 = 127)) (h2 : ¬ x0 < 128) (hn : leadN x0 = n) (hl : leadLo x0 = lo) (hh : leadHi x0 = hi) : sizeP mm x0 x1 x2 x3 = if n = 0 ∨ mm < n ∨ x1 < lo ∨ hi < x1 then 0 else if (2 < n ∧ (x2 < 128 ∨ 191 < x2)) ∨ (3 < n ∧ (x3 < 128 ∨ 191 < x3)) then 0 else n := by
  subst hn hl hh
  unfold sizeP
  rw [if_neg h1, if_neg h2]
set_option maxHeartbeats 16000000 in
set_option maxRecDepth 100000 in
theorem refSize13 (s : ByteArray) (i : Nat) (w : World) (h : i < s.size) (hs : s.size ≤ 100000) : Calls Tryd.prog 120 #[.string s, .int .i64 (i : Int)] w fun e w' => e = .returned (.int .i64 (sizeT s i)) ∧ Below w.heap.size w w' := by
  have hZ := sizeT_eq s i h
  have e0 := byte_at s i h
  have l0 := UInt8.toNat_lt (s.get! i)
  have l1 := UInt8.toNat_lt (s.get! (i + 1))
  have l2 := UInt8.toNat_lt (s.get! (i + 2))
  have l3 := UInt8.toNat_lt (s.get! (i + 3))
  have e1 := byte_at s (i + 1)
  have e2 := byte_at s (i + 2)
  have e3 := byte_at s (i + 3)
  obtain ⟨x0, hx0⟩ : ∃ x, (s.get! i).toNat = x := ⟨_, rfl⟩
  obtain ⟨x1, hx1⟩ : ∃ x, (s.get! (i + 1)).toNat = x := ⟨_, rfl⟩
  obtain ⟨x2, hx2⟩ : ∃ x, (s.get! (i + 2)).toNat = x := ⟨_, rfl⟩
  obtain ⟨x3, hx3⟩ : ∃ x, (s.get! (i + 3)).toNat = x := ⟨_, rfl⟩
  rw [hx0, hx1, hx2, hx3] at hZ
  rw [hx0] at e0 l0
  rw [hx1] at l1
  rw [hx2] at l2
  rw [hx3] at l3
  simp only [hx1] at e1
  simp only [hx2] at e2
  simp only [hx3] at e3
  have HZ := Lib.hid hZ
  have E1 := Lib.hid e1
  have E2 := Lib.hid e2
  have E3 := Lib.hid e3
  clear hZ hx0 hx1 hx2 hx3 e1 e2 e3
  have hi0 : (i : Int) < (s.size : Int) := by omega
  have w1 : IntKind.i64.wrap ((i : Int) + 1) = (i : Int) + 1 := IntWalk.i64_in _ ⟨by omega, by omega⟩
  have w2 : IntKind.i64.wrap ((i : Int) + 2) = (i : Int) + 2 := IntWalk.i64_in _ ⟨by omega, by omega⟩
  have w3 : IntKind.i64.wrap ((i : Int) + 3) = (i : Int) + 3 := IntWalk.i64_in _ ⟨by omega, by omega⟩
  have w4 : IntKind.i64.wrap ((i : Int) + 4) = (i : Int) + 4 := IntWalk.i64_in _ ⟨by omega, by omega⟩
  by_cases c0 : x0 < 32
  · have q0 : decide ((x0 : Int) < 32) = true := decide_eq_true (by omega)
    have HG := Lib.hid (show sizeT s i = 0 by rw [← HZ.out]; exact if_pos (.inl c0))
    go_enter Tryd.func120, Tryd.ntmps120
    go_wp2_with fail
    go_ret
    exact ⟨by rw [HG.out]; rfl, Below.refl _ _⟩
  by_cases c1 : x0 = 127
  · subst c1
    have HG := Lib.hid (show sizeT s i = 0 by rw [← HZ.out]; exact if_pos (.inr rfl))
    go_enter Tryd.func120, Tryd.ntmps120
    go_wp2_with fail
    go_ret
    exact ⟨by rw [HG.out]; rfl, Below.refl _ _⟩
  by_cases c2 : x0 < 128
  · have q0 : decide ((x0 : Int) < 32) = false := decide_eq_false (by omega)
    have q1 : ((x0 : Int) == 127) = false := by simp; omega
    have q2 : decide ((x0 : Int) < 128) = true := decide_eq_true (by omega)
    have HG := Lib.hid (show sizeT s i = 1 by rw [← HZ.out]; unfold sizeP; rw [if_neg (by omega), if_pos c2])
    go_enter Tryd.func120, Tryd.ntmps120
    go_wp2_with fail
    go_ret
    exact ⟨by rw [HG.out]; rfl, Below.refl _ _⟩
  by_cases c3 : x0 < 194
  · skip
    have HS := Lib.hid (HZ.out.symm.trans (sizeP_lead (n := 0) (lo := 128) (hi := 191) (by omega) (by omega) (by unfold leadN; rw [if_neg (by omega), if_neg (by omega), if_neg (by omega)]) (by unfold leadLo; rw [if_neg (by omega), if_neg (by omega)]) (by unfold leadHi; rw [if_neg (by omega), if_neg (by omega)])))
    have q0 : decide ((x0 : Int) < 32) = false := decide_eq_false (by omega)
    have q1 : ((x0 : Int) == 127) = false := by simp; omega
    have q2 : decide ((x0 : Int) < 128) = false := decide_eq_false (by omega)
    have q3 : decide ((194 : Int) ≤ (x0 : Int)) = false := decide_eq_false (by omega)
    have q4 : decide ((x0 : Int) ≤ 223) = true := decide_eq_true (by omega)
    have q5 : decide ((224 : Int) ≤ (x0 : Int)) = false := decide_eq_false (by omega)
    have q6 : decide ((x0 : Int) ≤ 239) = true := decide_eq_true (by omega)
    have q7 : ((x0 : Int) == 224) = false := by simp; omega
    have q8 : ((x0 : Int) == 237) = false := by simp; omega
    have q9 : decide ((240 : Int) ≤ (x0 : Int)) = false := decide_eq_false (by omega)
    have q10 : decide ((x0 : Int) ≤ 244) = true := decide_eq_true (by omega)
    have q11 : ((x0 : Int) == 240) = false := by simp; omega
    have q12 : ((x0 : Int) == 244) = false := by simp; omega
    have HG := Lib.hid (show sizeT s i = 0 by rw [HS.out]; exact if_pos (by omega))
    go_enter Tryd.func120, Tryd.ntmps120
    go_wp2_with fail
    go_ret
    exact ⟨by rw [HG.out]; rfl, Below.refl _ _⟩
  by_cases c4 : x0 ≤ 223
  · skip
    have HS := Lib.hid (HZ.out.symm.trans (sizeP_lead (n := 2) (lo := 128) (hi := 191) (by omega) (by omega) (by unfold leadN; rw [if_pos (by omega)]) (by unfold leadLo; rw [if_neg (by omega), if_neg (by omega)]) (by unfold leadHi; rw [if_neg (by omega), if_neg (by omega)])))
    have q0 : decide ((x0 : Int) < 32) = false := decide_eq_false (by omega)
    have q1 : ((x0 : Int) == 127) = false := by simp; omega
    have q2 : decide ((x0 : Int) < 128) = false := decide_eq_false (by omega)
    have q3 : decide ((194 : Int) ≤ (x0 : Int)) = true := decide_eq_true (by omega)
    have q4 : decide ((x0 : Int) ≤ 223) = true := decide_eq_true (by omega)
    have q5 : decide ((224 : Int) ≤ (x0 : Int)) = false := decide_eq_false (by omega)
    have q6 : decide ((x0 : Int) ≤ 239) = true := decide_eq_true (by omega)
    have q7 : ((x0 : Int) == 224) = false := by simp; omega
    have q8 : ((x0 : Int) == 237) = false := by simp; omega
    have q9 : decide ((240 : Int) ≤ (x0 : Int)) = false := decide_eq_false (by omega)
    have q10 : decide ((x0 : Int) ≤ 244) = true := decide_eq_true (by omega)
    have q11 : ((x0 : Int) == 240) = false := by simp; omega
    have q12 : ((x0 : Int) == 244) = false := by simp; omega
    by_cases d0 : s.size < i + 2
    · have u0 : decide ((s.size : Int) < (i : Int) + 2) = true := decide_eq_true (by omega)
      have HG := Lib.hid (show sizeT s i = 0 by rw [HS.out]; exact if_pos (by omega))
      go_enter Tryd.func120, Tryd.ntmps120
      go_wp2_with fail
      go_ret
      exact ⟨by rw [HG.out]; rfl, Below.refl _ _⟩
    have u0 : decide ((s.size : Int) < (i : Int) + 2) = false := decide_eq_false (by omega)
    have b1 := E1.out (by omega)
    have i1 : (i : Int) + 1 < (s.size : Int) := by omega
    have n1 : ((i : Int) + 1).toNat = i + 1 := by omega
    by_cases d1 : x1 < 128
    · have u1 : decide ((x1 : Int) < 128) = true := decide_eq_true (by omega)
      have HG := Lib.hid (show sizeT s i = 0 by rw [HS.out]; exact if_pos (by omega))
      go_enter Tryd.func120, Tryd.ntmps120
      go_wp2_with fail
      go_ret
      exact ⟨by rw [HG.out]; rfl, Below.refl _ _⟩
    have u1 : decide ((x1 : Int) < 128) = false := decide_eq_false (by omega)
    by_cases d2 : 191 < x1
    · have u2 : decide ((191 : Int) < (x1 : Int)) = true := decide_eq_true (by omega)
      have HG := Lib.hid (show sizeT s i = 0 by rw [HS.out]; exact if_pos (by omega))
      go_enter Tryd.func120, Tryd.ntmps120
      go_wp2_with fail
      go_ret
      exact ⟨by rw [HG.out]; rfl, Below.refl _ _⟩
    have u2 : decide ((191 : Int) < (x1 : Int)) = false := decide_eq_false (by omega)
    have HG := Lib.hid (show sizeT s i = 2 by rw [HS.out, if_neg (by omega), if_neg (by omega)])
    go_enter Tryd.func120, Tryd.ntmps120
    go_wp2_with fail
    refine wp_loop_rounds 1 ?_
    rw [rounds_succ]
    go_wp2_with fail
    go_ret
    exact ⟨by rw [HG.out]; rfl, Below.refl _ _⟩
  by_cases c5 : x0 = 224
  · skip
    have HS := Lib.hid (HZ.out.symm.trans (sizeP_lead (n := 3) (lo := 160) (hi := 191) (by omega) (by omega) (by unfold leadN; rw [if_neg (by omega), if_pos (by omega)]) (by unfold leadLo; rw [if_pos (by omega)]) (by unfold leadHi; rw [if_neg (by omega), if_neg (by omega)])))
    have q0 : decide ((x0 : Int) < 32) = false := decide_eq_false (by omega)
    have q1 : ((x0 : Int) == 127) = false := by simp; omega
    have q2 : decide ((x0 : Int) < 128) = false := decide_eq_false (by omega)
    have q3 : decide ((194 : Int) ≤ (x0 : Int)) = true := decide_eq_true (by omega)
    have q4 : decide ((x0 : Int) ≤ 223) = false := decide_eq_false (by omega)
    have q5 : decide ((224 : Int) ≤ (x0 : Int)) = true := decide_eq_true (by omega)
    have q6 : decide ((x0 : Int) ≤ 239) = true := decide_eq_true (by omega)
    have q7 : ((x0 : Int) == 224) = true := by simp; omega
    have q8 : ((x0 : Int) == 237) = false := by simp; omega
    have q9 : decide ((240 : Int) ≤ (x0 : Int)) = false := decide_eq_false (by omega)
    have q10 : decide ((x0 : Int) ≤ 244) = true := decide_eq_true (by omega)
    have q11 : ((x0 : Int) == 240) = false := by simp; omega
    have q12 : ((x0 : Int) == 244) = false := by simp; omega
    by_cases d0 : s.size < i + 3
    · have u0 : decide ((s.size : Int) < (i : Int) + 3) = true := decide_eq_true (by omega)
      have HG := Lib.hid (show sizeT s i = 0 by rw [HS.out]; exact if_pos (by omega))
      go_enter Tryd.func120, Tryd.ntmps120
      go_wp2_with fail
      go_ret
      exact ⟨by rw [HG.out]; rfl, Below.refl _ _⟩
    have u0 : decide ((s.size : Int) < (i : Int) + 3) = false := decide_eq_false (by omega)
    have b1 := E1.out (by omega)
    have i1 : (i : Int) + 1 < (s.size : Int) := by omega
    have n1 : ((i : Int) + 1).toNat = i + 1 := by omega
    by_cases d1 : x1 < 160
    · have u1 : decide ((x1 : Int) < 160) = true := decide_eq_true (by omega)
      have HG := Lib.hid (show sizeT s i = 0 by rw [HS.out]; exact if_pos (by omega))
      go_enter Tryd.func120, Tryd.ntmps120
      go_wp2_with fail
      go_ret
      exact ⟨by rw [HG.out]; rfl, Below.refl _ _⟩
    have u1 : decide ((x1 : Int) < 160) = false := decide_eq_false (by omega)
    by_cases d2 : 191 < x1
    · have u2 : decide ((191 : Int) < (x1 : Int)) = true := decide_eq_true (by omega)
      have HG := Lib.hid (show sizeT s i = 0 by rw [HS.out]; exact if_pos (by omega))
      go_enter Tryd.func120, Tryd.ntmps120
      go_wp2_with fail
      go_ret
      exact ⟨by rw [HG.out]; rfl, Below.refl _ _⟩
    have u2 : decide ((191 : Int) < (x1 : Int)) = false := decide_eq_false (by omega)
    have b2 := E2.out (by omega)
    have i2 : (i : Int) + 2 < (s.size : Int) := by omega
    have n2 : ((i : Int) + 2).toNat = i + 2 := by omega
    by_cases g2 : x2 < 128
    · have v2 : decide ((x2 : Int) < 128) = true := decide_eq_true (by omega)
      have HG := Lib.hid (show sizeT s i = 0 by rw [HS.out, if_neg (by omega)]; exact if_pos (by omega))
      go_enter Tryd.func120, Tryd.ntmps120
      go_wp2_with fail
      refine wp_loop_rounds 1 ?_
      rw [rounds_succ]
      go_wp2_with fail
      go_ret
      exact ⟨by rw [HG.out]; rfl, Below.refl _ _⟩
    have v2 : decide ((x2 : Int) < 128) = false := decide_eq_false (by omega)
    by_cases y2 : 191 < x2
    · have z2 : decide ((191 : Int) < (x2 : Int)) = true := decide_eq_true (by omega)
      have HG := Lib.hid (show sizeT s i = 0 by rw [HS.out, if_neg (by omega)]; exact if_pos (by omega))
      go_enter Tryd.func120, Tryd.ntmps120
      go_wp2_with fail
      refine wp_loop_rounds 1 ?_
      rw [rounds_succ]
      go_wp2_with fail
      go_ret
      exact ⟨by rw [HG.out]; rfl, Below.refl _ _⟩
    have z2 : decide ((191 : Int) < (x2 : Int)) = false := decide_eq_false (by omega)
    have HG := Lib.hid (show sizeT s i = 3 by rw [HS.out, if_neg (by omega), if_neg (by omega)])
    go_enter Tryd.func120, Tryd.ntmps120
    go_wp2_with fail
    refine wp_loop_rounds 2 ?_
    rw [rounds_succ]
    go_wp2_with fail
    rw [rounds_succ]
    go_wp2_with fail
    go_ret
    exact ⟨by rw [HG.out]; rfl, Below.refl _ _⟩
  by_cases c6 : x0 < 237
  · skip
    have HS := Lib.hid (HZ.out.symm.trans (sizeP_lead (n := 3) (lo := 128) (hi := 191) (by omega) (by omega) (by unfold leadN; rw [if_neg (by omega), if_pos (by omega)]) (by unfold leadLo; rw [if_neg (by omega), if_neg (by omega)]) (by unfold leadHi; rw [if_neg (by omega), if_neg (by omega)])))
    have q0 : decide ((x0 : Int) < 32) = false := decide_eq_false (by omega)
    have q1 : ((x0 : Int) == 127) = false := by simp; omega
    have q2 : decide ((x0 : Int) < 128) = false := decide_eq_false (by omega)
    have q3 : decide ((194 : Int) ≤ (x0 : Int)) = true := decide_eq_true (by omega)
    have q4 : decide ((x0 : Int) ≤ 223) = false := decide_eq_false (by omega)
    have q5 : decide ((224 : Int) ≤ (x0 : Int)) = true := decide_eq_true (by omega)
    have q6 : decide ((x0 : Int) ≤ 239) = true := decide_eq_true (by omega)
    have q7 : ((x0 : Int) == 224) = false := by simp; omega
    have q8 : ((x0 : Int) == 237) = false := by simp; omega
    have q9 : decide ((240 : Int) ≤ (x0 : Int)) = false := decide_eq_false (by omega)
    have q10 : decide ((x0 : Int) ≤ 244) = true := decide_eq_true (by omega)
    have q11 : ((x0 : Int) == 240) = false := by simp; omega
    have q12 : ((x0 : Int) == 244) = false := by simp; omega
    by_cases d0 : s.size < i + 3
    · have u0 : decide ((s.size : Int) < (i : Int) + 3) = true := decide_eq_true (by omega)
      have HG := Lib.hid (show sizeT s i = 0 by rw [HS.out]; exact if_pos (by omega))
      go_enter Tryd.func120, Tryd.ntmps120
      go_wp2_with fail
      go_ret
      exact ⟨by rw [HG.out]; rfl, Below.refl _ _⟩
    have u0 : decide ((s.size : Int) < (i : Int) + 3) = false := decide_eq_false (by omega)
    have b1 := E1.out (by omega)
    have i1 : (i : Int) + 1 < (s.size : Int) := by omega
    have n1 : ((i : Int) + 1).toNat = i + 1 := by omega
    by_cases d1 : x1 < 128
    · have u1 : decide ((x1 : Int) < 128) = true := decide_eq_true (by omega)
      have HG := Lib.hid (show sizeT s i = 0 by rw [HS.out]; exact if_pos (by omega))
      go_enter Tryd.func120, Tryd.ntmps120
      go_wp2_with fail
      go_ret
      exact ⟨by rw [HG.out]; rfl, Below.refl _ _⟩
    have u1 : decide ((x1 : Int) < 128) = false := decide_eq_false (by omega)
    by_cases d2 : 191 < x1
    · have u2 : decide ((191 : Int) < (x1 : Int)) = true := decide_eq_true (by omega)
      have HG := Lib.hid (show sizeT s i = 0 by rw [HS.out]; exact if_pos (by omega))
      go_enter Tryd.func120, Tryd.ntmps120
      go_wp2_with fail
      go_ret
      exact ⟨by rw [HG.out]; rfl, Below.refl _ _⟩
    have u2 : decide ((191 : Int) < (x1 : Int)) = false := decide_eq_false (by omega)
    have b2 := E2.out (by omega)
    have i2 : (i : Int) + 2 < (s.size : Int) := by omega
    have n2 : ((i : Int) + 2).toNat = i + 2 := by omega
    by_cases g2 : x2 < 128
    · have v2 : decide ((x2 : Int) < 128) = true := decide_eq_true (by omega)
      have HG := Lib.hid (show sizeT s i = 0 by rw [HS.out, if_neg (by omega)]; exact if_pos (by omega))
      go_enter Tryd.func120, Tryd.ntmps120
      go_wp2_with fail
      refine wp_loop_rounds 1 ?_
      rw [rounds_succ]
      go_wp2_with fail
      go_ret
      exact ⟨by rw [HG.out]; rfl, Below.refl _ _⟩
    have v2 : decide ((x2 : Int) < 128) = false := decide_eq_false (by omega)
    by_cases y2 : 191 < x2
    · have z2 : decide ((191 : Int) < (x2 : Int)) = true := decide_eq_true (by omega)
      have HG := Lib.hid (show sizeT s i = 0 by rw [HS.out, if_neg (by omega)]; exact if_pos (by omega))
      go_enter Tryd.func120, Tryd.ntmps120
      go_wp2_with fail
      refine wp_loop_rounds 1 ?_
      rw [rounds_succ]
      go_wp2_with fail
      go_ret
      exact ⟨by rw [HG.out]; rfl, Below.refl _ _⟩
    have z2 : decide ((191 : Int) < (x2 : Int)) = false := decide_eq_false (by omega)
    have HG := Lib.hid (show sizeT s i = 3 by rw [HS.out, if_neg (by omega), if_neg (by omega)])
    go_enter Tryd.func120, Tryd.ntmps120
    go_wp2_with fail
    refine wp_loop_rounds 2 ?_
    rw [rounds_succ]
    go_wp2_with fail
    rw [rounds_succ]
    go_wp2_with fail
    go_ret
    exact ⟨by rw [HG.out]; rfl, Below.refl _ _⟩
  by_cases c7 : x0 = 237
  · skip
    have HS := Lib.hid (HZ.out.symm.trans (sizeP_lead (n := 3) (lo := 128) (hi := 159) (by omega) (by omega) (by unfold leadN; rw [if_neg (by omega), if_pos (by omega)]) (by unfold leadLo; rw [if_neg (by omega), if_neg (by omega)]) (by unfold leadHi; rw [if_pos (by omega)])))
    have q0 : decide ((x0 : Int) < 32) = false := decide_eq_false (by omega)
    have q1 : ((x0 : Int) == 127) = false := by simp; omega
    have q2 : decide ((x0 : Int) < 128) = false := decide_eq_false (by omega)
    have q3 : decide ((194 : Int) ≤ (x0 : Int)) = true := decide_eq_true (by omega)
    have q4 : decide ((x0 : Int) ≤ 223) = false := decide_eq_false (by omega)
    have q5 : decide ((224 : Int) ≤ (x0 : Int)) = true := decide_eq_true (by omega)
    have q6 : decide ((x0 : Int) ≤ 239) = true := decide_eq_true (by omega)
    have q7 : ((x0 : Int) == 224) = false := by simp; omega
    have q8 : ((x0 : Int) == 237) = true := by simp; omega
    have q9 : decide ((240 : Int) ≤ (x0 : Int)) = false := decide_eq_false (by omega)
    have q10 : decide ((x0 : Int) ≤ 244) = true := decide_eq_true (by omega)
    have q11 : ((x0 : Int) == 240) = false := by simp; omega
    have q12 : ((x0 : Int) == 244) = false := by simp; omega
    by_cases d0 : s.size < i + 3
    · have u0 : decide ((s.size : Int) < (i : Int) + 3) = true := decide_eq_true (by omega)
      have HG := Lib.hid (show sizeT s i = 0 by rw [HS.out]; exact if_pos (by omega))
      go_enter Tryd.func120, Tryd.ntmps120
      go_wp2_with fail
      go_ret
      exact ⟨by rw [HG.out]; rfl, Below.refl _ _⟩
    have u0 : decide ((s.size : Int) < (i : Int) + 3) = false := decide_eq_false (by omega)
    have b1 := E1.out (by omega)
    have i1 : (i : Int) + 1 < (s.size : Int) := by omega
    have n1 : ((i : Int) + 1).toNat = i + 1 := by omega
    by_cases d1 : x1 < 128
    · have u1 : decide ((x1 : Int) < 128) = true := decide_eq_true (by omega)
      have HG := Lib.hid (show sizeT s i = 0 by rw [HS.out]; exact if_pos (by omega))
      go_enter Tryd.func120, Tryd.ntmps120
      go_wp2_with fail
      go_ret
      exact ⟨by rw [HG.out]; rfl, Below.refl _ _⟩
    have u1 : decide ((x1 : Int) < 128) = false := decide_eq_false (by omega)
    by_cases d2 : 159 < x1
    · have u2 : decide ((159 : Int) < (x1 : Int)) = true := decide_eq_true (by omega)
      have HG := Lib.hid (show sizeT s i = 0 by rw [HS.out]; exact if_pos (by omega))
      go_enter Tryd.func120, Tryd.ntmps120
      go_wp2_with fail
      go_ret
      exact ⟨by rw [HG.out]; rfl, Below.refl _ _⟩
    have u2 : decide ((159 : Int) < (x1 : Int)) = false := decide_eq_false (by omega)
    have b2 := E2.out (by omega)
    have i2 : (i : Int) + 2 < (s.size : Int) := by omega
    have n2 : ((i : Int) + 2).toNat = i + 2 := by omega
    by_cases g2 : x2 < 128
    · have v2 : decide ((x2 : Int) < 128) = true := decide_eq_true (by omega)
      have HG := Lib.hid (show sizeT s i = 0 by rw [HS.out, if_neg (by omega)]; exact if_pos (by omega))
      go_enter Tryd.func120, Tryd.ntmps120
      go_wp2_with fail
      refine wp_loop_rounds 1 ?_
      rw [rounds_succ]
      go_wp2_with fail
      go_ret
      exact ⟨by rw [HG.out]; rfl, Below.refl _ _⟩
    have v2 : decide ((x2 : Int) < 128) = false := decide_eq_false (by omega)
    by_cases y2 : 191 < x2
    · have z2 : decide ((191 : Int) < (x2 : Int)) = true := decide_eq_true (by omega)
      have HG := Lib.hid (show sizeT s i = 0 by rw [HS.out, if_neg (by omega)]; exact if_pos (by omega))
      go_enter Tryd.func120, Tryd.ntmps120
      go_wp2_with fail
      refine wp_loop_rounds 1 ?_
      rw [rounds_succ]
      go_wp2_with fail
      go_ret
      exact ⟨by rw [HG.out]; rfl, Below.refl _ _⟩
    have z2 : decide ((191 : Int) < (x2 : Int)) = false := decide_eq_false (by omega)
    have HG := Lib.hid (show sizeT s i = 3 by rw [HS.out, if_neg (by omega), if_neg (by omega)])
    go_enter Tryd.func120, Tryd.ntmps120
    go_wp2_with fail
    refine wp_loop_rounds 2 ?_
    rw [rounds_succ]
    go_wp2_with fail
    rw [rounds_succ]
    go_wp2_with fail
    go_ret
    exact ⟨by rw [HG.out]; rfl, Below.refl _ _⟩
  by_cases c8 : x0 ≤ 239
  · skip
    have HS := Lib.hid (HZ.out.symm.trans (sizeP_lead (n := 3) (lo := 128) (hi := 191) (by omega) (by omega) (by unfold leadN; rw [if_neg (by omega), if_pos (by omega)]) (by unfold leadLo; rw [if_neg (by omega), if_neg (by omega)]) (by unfold leadHi; rw [if_neg (by omega), if_neg (by omega)])))
    have q0 : decide ((x0 : Int) < 32) = false := decide_eq_false (by omega)
    have q1 : ((x0 : Int) == 127) = false := by simp; omega
    have q2 : decide ((x0 : Int) < 128) = false := decide_eq_false (by omega)
    have q3 : decide ((194 : Int) ≤ (x0 : Int)) = true := decide_eq_true (by omega)
    have q4 : decide ((x0 : Int) ≤ 223) = false := decide_eq_false (by omega)
    have q5 : decide ((224 : Int) ≤ (x0 : Int)) = true := decide_eq_true (by omega)
    have q6 : decide ((x0 : Int) ≤ 239) = true := decide_eq_true (by omega)
    have q7 : ((x0 : Int) == 224) = false := by simp; omega
    have q8 : ((x0 : Int) == 237) = false := by simp; omega
    have q9 : decide ((240 : Int) ≤ (x0 : Int)) = false := decide_eq_false (by omega)
    have q10 : decide ((x0 : Int) ≤ 244) = true := decide_eq_true (by omega)
    have q11 : ((x0 : Int) == 240) = false := by simp; omega
    have q12 : ((x0 : Int) == 244) = false := by simp; omega
    by_cases d0 : s.size < i + 3
    · have u0 : decide ((s.size : Int) < (i : Int) + 3) = true := decide_eq_true (by omega)
      have HG := Lib.hid (show sizeT s i = 0 by rw [HS.out]; exact if_pos (by omega))
      go_enter Tryd.func120, Tryd.ntmps120
      go_wp2_with fail
      go_ret
      exact ⟨by rw [HG.out]; rfl, Below.refl _ _⟩
    have u0 : decide ((s.size : Int) < (i : Int) + 3) = false := decide_eq_false (by omega)
    have b1 := E1.out (by omega)
    have i1 : (i : Int) + 1 < (s.size : Int) := by omega
    have n1 : ((i : Int) + 1).toNat = i + 1 := by omega
    by_cases d1 : x1 < 128
    · have u1 : decide ((x1 : Int) < 128) = true := decide_eq_true (by omega)
      have HG := Lib.hid (show sizeT s i = 0 by rw [HS.out]; exact if_pos (by omega))
      go_enter Tryd.func120, Tryd.ntmps120
      go_wp2_with fail
      go_ret
      exact ⟨by rw [HG.out]; rfl, Below.refl _ _⟩
    have u1 : decide ((x1 : Int) < 128) = false := decide_eq_false (by omega)
    by_cases d2 : 191 < x1
    · have u2 : decide ((191 : Int) < (x1 : Int)) = true := decide_eq_true (by omega)
      have HG := Lib.hid (show sizeT s i = 0 by rw [HS.out]; exact if_pos (by omega))
      go_enter Tryd.func120, Tryd.ntmps120
      go_wp2_with fail
      go_ret
      exact ⟨by rw [HG.out]; rfl, Below.refl _ _⟩
    have u2 : decide ((191 : Int) < (x1 : Int)) = false := decide_eq_false (by omega)
    have b2 := E2.out (by omega)
    have i2 : (i : Int) + 2 < (s.size : Int) := by omega
    have n2 : ((i : Int) + 2).toNat = i + 2 := by omega
    by_cases g2 : x2 < 128
    · have v2 : decide ((x2 : Int) < 128) = true := decide_eq_true (by omega)
      have HG := Lib.hid (show sizeT s i = 0 by rw [HS.out, if_neg (by omega)]; exact if_pos (by omega))
      go_enter Tryd.func120, Tryd.ntmps120
      go_wp2_with fail
      refine wp_loop_rounds 1 ?_
      rw [rounds_succ]
      go_wp2_with fail
      go_ret
      exact ⟨by rw [HG.out]; rfl, Below.refl _ _⟩
    have v2 : decide ((x2 : Int) < 128) = false := decide_eq_false (by omega)
    by_cases y2 : 191 < x2
    · have z2 : decide ((191 : Int) < (x2 : Int)) = true := decide_eq_true (by omega)
      have HG := Lib.hid (show sizeT s i = 0 by rw [HS.out, if_neg (by omega)]; exact if_pos (by omega))
      go_enter Tryd.func120, Tryd.ntmps120
      go_wp2_with fail
      refine wp_loop_rounds 1 ?_
      rw [rounds_succ]
      go_wp2_with fail
      go_ret
      exact ⟨by rw [HG.out]; rfl, Below.refl _ _⟩
    have z2 : decide ((191 : Int) < (x2 : Int)) = false := decide_eq_false (by omega)
    have HG := Lib.hid (show sizeT s i = 3 by rw [HS.out, if_neg (by omega), if_neg (by omega)])
    go_enter Tryd.func120, Tryd.ntmps120
    go_wp2_with fail
    refine wp_loop_rounds 2 ?_
    rw [rounds_succ]
    go_wp2_with fail
    rw [rounds_succ]
    go_wp2_with fail
    go_ret
    exact ⟨by rw [HG.out]; rfl, Below.refl _ _⟩
  by_cases c9 : x0 = 240
  · skip
    have HS := Lib.hid (HZ.out.symm.trans (sizeP_lead (n := 4) (lo := 144) (hi := 191) (by omega) (by omega) (by unfold leadN; rw [if_neg (by omega), if_neg (by omega), if_pos (by omega)]) (by unfold leadLo; rw [if_neg (by omega), if_pos (by omega)]) (by unfold leadHi; rw [if_neg (by omega), if_neg (by omega)])))
    have q0 : decide ((x0 : Int) < 32) = false := decide_eq_false (by omega)
    have q1 : ((x0 : Int) == 127) = false := by simp; omega
    have q2 : decide ((x0 : Int) < 128) = false := decide_eq_false (by omega)
    have q3 : decide ((194 : Int) ≤ (x0 : Int)) = true := decide_eq_true (by omega)
    have q4 : decide ((x0 : Int) ≤ 223) = false := decide_eq_false (by omega)
    have q5 : decide ((224 : Int) ≤ (x0 : Int)) = true := decide_eq_true (by omega)
    have q6 : decide ((x0 : Int) ≤ 239) = false := decide_eq_false (by omega)
    have q7 : ((x0 : Int) == 224) = false := by simp; omega
    have q8 : ((x0 : Int) == 237) = false := by simp; omega
    have q9 : decide ((240 : Int) ≤ (x0 : Int)) = true := decide_eq_true (by omega)
    have q10 : decide ((x0 : Int) ≤ 244) = true := decide_eq_true (by omega)
    have q11 : ((x0 : Int) == 240) = true := by simp; omega
    have q12 : ((x0 : Int) == 244) = false := by simp; omega
    by_cases d0 : s.size < i + 4
    · have u0 : decide ((s.size : Int) < (i : Int) + 4) = true := decide_eq_true (by omega)
      have HG := Lib.hid (show sizeT s i = 0 by rw [HS.out]; exact if_pos (by omega))
      go_enter Tryd.func120, Tryd.ntmps120
      go_wp2_with fail
      go_ret
      exact ⟨by rw [HG.out]; rfl, Below.refl _ _⟩
    have u0 : decide ((s.size : Int) < (i : Int) + 4) = false := decide_eq_false (by omega)
    have b1 := E1.out (by omega)
    have i1 : (i : Int) + 1 < (s.size : Int) := by omega
    have n1 : ((i : Int) + 1).toNat = i + 1 := by omega
    by_cases d1 : x1 < 144
    · have u1 : decide ((x1 : Int) < 144) = true := decide_eq_true (by omega)
      have HG := Lib.hid (show sizeT s i = 0 by rw [HS.out]; exact if_pos (by omega))
      go_enter Tryd.func120, Tryd.ntmps120
      go_wp2_with fail
      go_ret
      exact ⟨by rw [HG.out]; rfl, Below.refl _ _⟩
    have u1 : decide ((x1 : Int) < 144) = false := decide_eq_false (by omega)
    by_cases d2 : 191 < x1
    · have u2 : decide ((191 : Int) < (x1 : Int)) = true := decide_eq_true (by omega)
      have HG := Lib.hid (show sizeT s i = 0 by rw [HS.out]; exact if_pos (by omega))
      go_enter Tryd.func120, Tryd.ntmps120
      go_wp2_with fail
      go_ret
      exact ⟨by rw [HG.out]; rfl, Below.refl _ _⟩
    have u2 : decide ((191 : Int) < (x1 : Int)) = false := decide_eq_false (by omega)
    have b2 := E2.out (by omega)
    have i2 : (i : Int) + 2 < (s.size : Int) := by omega
    have n2 : ((i : Int) + 2).toNat = i + 2 := by omega
    by_cases g2 : x2 < 128
    · have v2 : decide ((x2 : Int) < 128) = true := decide_eq_true (by omega)
      have HG := Lib.hid (show sizeT s i = 0 by rw [HS.out, if_neg (by omega)]; exact if_pos (by omega))
      go_enter Tryd.func120, Tryd.ntmps120
      go_wp2_with fail
      refine wp_loop_rounds 1 ?_
      rw [rounds_succ]
      go_wp2_with fail
      go_ret
      exact ⟨by rw [HG.out]; rfl, Below.refl _ _⟩
    have v2 : decide ((x2 : Int) < 128) = false := decide_eq_false (by omega)
    by_cases y2 : 191 < x2
    · have z2 : decide ((191 : Int) < (x2 : Int)) = true := decide_eq_true (by omega)
      have HG := Lib.hid (show sizeT s i = 0 by rw [HS.out, if_neg (by omega)]; exact if_pos (by omega))
      go_enter Tryd.func120, Tryd.ntmps120
      go_wp2_with fail
      refine wp_loop_rounds 1 ?_
      rw [rounds_succ]
      go_wp2_with fail
      go_ret
      exact ⟨by rw [HG.out]; rfl, Below.refl _ _⟩
    have z2 : decide ((191 : Int) < (x2 : Int)) = false := decide_eq_false (by omega)
    have b3 := E3.out (by omega)
    have i3 : (i : Int) + 3 < (s.size : Int) := by omega
    have n3 : ((i : Int) + 3).toNat = i + 3 := by omega
    by_cases g3 : x3 < 128
    · have v3 : decide ((x3 : Int) < 128) = true := decide_eq_true (by omega)
      have HG := Lib.hid (show sizeT s i = 0 by rw [HS.out, if_neg (by omega)]; exact if_pos (by omega))
      go_enter Tryd.func120, Tryd.ntmps120
      go_wp2_with fail
      refine wp_loop_rounds 2 ?_
      rw [rounds_succ]
      go_wp2_with fail
      rw [rounds_succ]
      go_wp2_with fail
      go_ret
      exact ⟨by rw [HG.out]; rfl, Below.refl _ _⟩
    have v3 : decide ((x3 : Int) < 128) = false := decide_eq_false (by omega)
    by_cases y3 : 191 < x3
    · have z3 : decide ((191 : Int) < (x3 : Int)) = true := decide_eq_true (by omega)
      have HG := Lib.hid (show sizeT s i = 0 by rw [HS.out, if_neg (by omega)]; exact if_pos (by omega))
      go_enter Tryd.func120, Tryd.ntmps120
      go_wp2_with fail
      refine wp_loop_rounds 2 ?_
      rw [rounds_succ]
      go_wp2_with fail
      rw [rounds_succ]
      go_wp2_with fail
      go_ret
      exact ⟨by rw [HG.out]; rfl, Below.refl _ _⟩
    have z3 : decide ((191 : Int) < (x3 : Int)) = false := decide_eq_false (by omega)
    have HG := Lib.hid (show sizeT s i = 4 by rw [HS.out, if_neg (by omega), if_neg (by omega)])
    go_enter Tryd.func120, Tryd.ntmps120
    go_wp2_with fail
    refine wp_loop_rounds 3 ?_
    rw [rounds_succ]
    go_wp2_with fail
    rw [rounds_succ]
    go_wp2_with fail
    rw [rounds_succ]
    go_wp2_with fail
    go_ret
    exact ⟨by rw [HG.out]; rfl, Below.refl _ _⟩
  by_cases c10 : x0 < 244
  · skip
    have HS := Lib.hid (HZ.out.symm.trans (sizeP_lead (n := 4) (lo := 128) (hi := 191) (by omega) (by omega) (by unfold leadN; rw [if_neg (by omega), if_neg (by omega), if_pos (by omega)]) (by unfold leadLo; rw [if_neg (by omega), if_neg (by omega)]) (by unfold leadHi; rw [if_neg (by omega), if_neg (by omega)])))
    have q0 : decide ((x0 : Int) < 32) = false := decide_eq_false (by omega)
    have q1 : ((x0 : Int) == 127) = false := by simp; omega
    have q2 : decide ((x0 : Int) < 128) = false := decide_eq_false (by omega)
    have q3 : decide ((194 : Int) ≤ (x0 : Int)) = true := decide_eq_true (by omega)
    have q4 : decide ((x0 : Int) ≤ 223) = false := decide_eq_false (by omega)
    have q5 : decide ((224 : Int) ≤ (x0 : Int)) = true := decide_eq_true (by omega)
    have q6 : decide ((x0 : Int) ≤ 239) = false := decide_eq_false (by omega)
    have q7 : ((x0 : Int) == 224) = false := by simp; omega
    have q8 : ((x0 : Int) == 237) = false := by simp; omega
    have q9 : decide ((240 : Int) ≤ (x0 : Int)) = true := decide_eq_true (by omega)
    have q10 : decide ((x0 : Int) ≤ 244) = true := decide_eq_true (by omega)
    have q11 : ((x0 : Int) == 240) = false := by simp; omega
    have q12 : ((x0 : Int) == 244) = false := by simp; omega
    by_cases d0 : s.size < i + 4
    · have u0 : decide ((s.size : Int) < (i : Int) + 4) = true := decide_eq_true (by omega)
      have HG := Lib.hid (show sizeT s i = 0 by rw [HS.out]; exact if_pos (by omega))
      go_enter Tryd.func120, Tryd.ntmps120
      go_wp2_with fail
      go_ret
      exact ⟨by rw [HG.out]; rfl, Below.refl _ _⟩
    have u0 : decide ((s.size : Int) < (i : Int) + 4) = false := decide_eq_false (by omega)
    have b1 := E1.out (by omega)
    have i1 : (i : Int) + 1 < (s.size : Int) := by omega
    have n1 : ((i : Int) + 1).toNat = i + 1 := by omega
    by_cases d1 : x1 < 128
    · have u1 : decide ((x1 : Int) < 128) = true := decide_eq_true (by omega)
      have HG := Lib.hid (show sizeT s i = 0 by rw [HS.out]; exact if_pos (by omega))
      go_enter Tryd.func120, Tryd.ntmps120
      go_wp2_with fail
      go_ret
      exact ⟨by rw [HG.out]; rfl, Below.refl _ _⟩
    have u1 : decide ((x1 : Int) < 128) = false := decide_eq_false (by omega)
    by_cases d2 : 191 < x1
    · have u2 : decide ((191 : Int) < (x1 : Int)) = true := decide_eq_true (by omega)
      have HG := Lib.hid (show sizeT s i = 0 by rw [HS.out]; exact if_pos (by omega))
      go_enter Tryd.func120, Tryd.ntmps120
      go_wp2_with fail
      go_ret
      exact ⟨by rw [HG.out]; rfl, Below.refl _ _⟩
    have u2 : decide ((191 : Int) < (x1 : Int)) = false := decide_eq_false (by omega)
    have b2 := E2.out (by omega)
    have i2 : (i : Int) + 2 < (s.size : Int) := by omega
    have n2 : ((i : Int) + 2).toNat = i + 2 := by omega
    by_cases g2 : x2 < 128
    · have v2 : decide ((x2 : Int) < 128) = true := decide_eq_true (by omega)
      have HG := Lib.hid (show sizeT s i = 0 by rw [HS.out, if_neg (by omega)]; exact if_pos (by omega))
      go_enter Tryd.func120, Tryd.ntmps120
      go_wp2_with fail
      refine wp_loop_rounds 1 ?_
      rw [rounds_succ]
      go_wp2_with fail
      go_ret
      exact ⟨by rw [HG.out]; rfl, Below.refl _ _⟩
    have v2 : decide ((x2 : Int) < 128) = false := decide_eq_false (by omega)
    by_cases y2 : 191 < x2
    · have z2 : decide ((191 : Int) < (x2 : Int)) = true := decide_eq_true (by omega)
      have HG := Lib.hid (show sizeT s i = 0 by rw [HS.out, if_neg (by omega)]; exact if_pos (by omega))
      go_enter Tryd.func120, Tryd.ntmps120
      go_wp2_with fail
      refine wp_loop_rounds 1 ?_
      rw [rounds_succ]
      go_wp2_with fail
      go_ret
      exact ⟨by rw [HG.out]; rfl, Below.refl _ _⟩
    have z2 : decide ((191 : Int) < (x2 : Int)) = false := decide_eq_false (by omega)
    have b3 := E3.out (by omega)
    have i3 : (i : Int) + 3 < (s.size : Int) := by omega
    have n3 : ((i : Int) + 3).toNat = i + 3 := by omega
    by_cases g3 : x3 < 128
    · have v3 : decide ((x3 : Int) < 128) = true := decide_eq_true (by omega)
      have HG := Lib.hid (show sizeT s i = 0 by rw [HS.out, if_neg (by omega)]; exact if_pos (by omega))
      go_enter Tryd.func120, Tryd.ntmps120
      go_wp2_with fail
      refine wp_loop_rounds 2 ?_
      rw [rounds_succ]
      go_wp2_with fail
      rw [rounds_succ]
      go_wp2_with fail
      go_ret
      exact ⟨by rw [HG.out]; rfl, Below.refl _ _⟩
    have v3 : decide ((x3 : Int) < 128) = false := decide_eq_false (by omega)
    by_cases y3 : 191 < x3
    · have z3 : decide ((191 : Int) < (x3 : Int)) = true := decide_eq_true (by omega)
      have HG := Lib.hid (show sizeT s i = 0 by rw [HS.out, if_neg (by omega)]; exact if_pos (by omega))
      go_enter Tryd.func120, Tryd.ntmps120
      go_wp2_with fail
      refine wp_loop_rounds 2 ?_
      rw [rounds_succ]
      go_wp2_with fail
      rw [rounds_succ]
      go_wp2_with fail
      go_ret
      exact ⟨by rw [HG.out]; rfl, Below.refl _ _⟩
    have z3 : decide ((191 : Int) < (x3 : Int)) = false := decide_eq_false (by omega)
    have HG := Lib.hid (show sizeT s i = 4 by rw [HS.out, if_neg (by omega), if_neg (by omega)])
    go_enter Tryd.func120, Tryd.ntmps120
    go_wp2_with fail
    refine wp_loop_rounds 3 ?_
    rw [rounds_succ]
    go_wp2_with fail
    rw [rounds_succ]
    go_wp2_with fail
    rw [rounds_succ]
    go_wp2_with fail
    go_ret
    exact ⟨by rw [HG.out]; rfl, Below.refl _ _⟩
  by_cases c11 : x0 = 244
  · skip
    have HS := Lib.hid (HZ.out.symm.trans (sizeP_lead (n := 4) (lo := 128) (hi := 143) (by omega) (by omega) (by unfold leadN; rw [if_neg (by omega), if_neg (by omega), if_pos (by omega)]) (by unfold leadLo; rw [if_neg (by omega), if_neg (by omega)]) (by unfold leadHi; rw [if_neg (by omega), if_pos (by omega)])))
    have q0 : decide ((x0 : Int) < 32) = false := decide_eq_false (by omega)
    have q1 : ((x0 : Int) == 127) = false := by simp; omega
    have q2 : decide ((x0 : Int) < 128) = false := decide_eq_false (by omega)
    have q3 : decide ((194 : Int) ≤ (x0 : Int)) = true := decide_eq_true (by omega)
    have q4 : decide ((x0 : Int) ≤ 223) = false := decide_eq_false (by omega)
    have q5 : decide ((224 : Int) ≤ (x0 : Int)) = true := decide_eq_true (by omega)
    have q6 : decide ((x0 : Int) ≤ 239) = false := decide_eq_false (by omega)
    have q7 : ((x0 : Int) == 224) = false := by simp; omega
    have q8 : ((x0 : Int) == 237) = false := by simp; omega
    have q9 : decide ((240 : Int) ≤ (x0 : Int)) = true := decide_eq_true (by omega)
    have q10 : decide ((x0 : Int) ≤ 244) = true := decide_eq_true (by omega)
    have q11 : ((x0 : Int) == 240) = false := by simp; omega
    have q12 : ((x0 : Int) == 244) = true := by simp; omega
    by_cases d0 : s.size < i + 4
    · have u0 : decide ((s.size : Int) < (i : Int) + 4) = true := decide_eq_true (by omega)
      have HG := Lib.hid (show sizeT s i = 0 by rw [HS.out]; exact if_pos (by omega))
      go_enter Tryd.func120, Tryd.ntmps120
      go_wp2_with fail
      go_ret
      exact ⟨by rw [HG.out]; rfl, Below.refl _ _⟩
    have u0 : decide ((s.size : Int) < (i : Int) + 4) = false := decide_eq_false (by omega)
    have b1 := E1.out (by omega)
    have i1 : (i : Int) + 1 < (s.size : Int) := by omega
    have n1 : ((i : Int) + 1).toNat = i + 1 := by omega
    by_cases d1 : x1 < 128
    · have u1 : decide ((x1 : Int) < 128) = true := decide_eq_true (by omega)
      have HG := Lib.hid (show sizeT s i = 0 by rw [HS.out]; exact if_pos (by omega))
      go_enter Tryd.func120, Tryd.ntmps120
      go_wp2_with fail
      go_ret
      exact ⟨by rw [HG.out]; rfl, Below.refl _ _⟩
    have u1 : decide ((x1 : Int) < 128) = false := decide_eq_false (by omega)
    by_cases d2 : 143 < x1
    · have u2 : decide ((143 : Int) < (x1 : Int)) = true := decide_eq_true (by omega)
      have HG := Lib.hid (show sizeT s i = 0 by rw [HS.out]; exact if_pos (by omega))
      go_enter Tryd.func120, Tryd.ntmps120
      go_wp2_with fail
      go_ret
      exact ⟨by rw [HG.out]; rfl, Below.refl _ _⟩
    have u2 : decide ((143 : Int) < (x1 : Int)) = false := decide_eq_false (by omega)
    have b2 := E2.out (by omega)
    have i2 : (i : Int) + 2 < (s.size : Int) := by omega
    have n2 : ((i : Int) + 2).toNat = i + 2 := by omega
    by_cases g2 : x2 < 128
    · have v2 : decide ((x2 : Int) < 128) = true := decide_eq_true (by omega)
      have HG := Lib.hid (show sizeT s i = 0 by rw [HS.out, if_neg (by omega)]; exact if_pos (by omega))
      go_enter Tryd.func120, Tryd.ntmps120
      go_wp2_with fail
      refine wp_loop_rounds 1 ?_
      rw [rounds_succ]
      go_wp2_with fail
      go_ret
      exact ⟨by rw [HG.out]; rfl, Below.refl _ _⟩
    have v2 : decide ((x2 : Int) < 128) = false := decide_eq_false (by omega)
    by_cases y2 : 191 < x2
    · have z2 : decide ((191 : Int) < (x2 : Int)) = true := decide_eq_true (by omega)
      have HG := Lib.hid (show sizeT s i = 0 by rw [HS.out, if_neg (by omega)]; exact if_pos (by omega))
      go_enter Tryd.func120, Tryd.ntmps120
      go_wp2_with fail
      refine wp_loop_rounds 1 ?_
      rw [rounds_succ]
      go_wp2_with fail
      go_ret
      exact ⟨by rw [HG.out]; rfl, Below.refl _ _⟩
    have z2 : decide ((191 : Int) < (x2 : Int)) = false := decide_eq_false (by omega)
    have b3 := E3.out (by omega)
    have i3 : (i : Int) + 3 < (s.size : Int) := by omega
    have n3 : ((i : Int) + 3).toNat = i + 3 := by omega
    by_cases g3 : x3 < 128
    · have v3 : decide ((x3 : Int) < 128) = true := decide_eq_true (by omega)
      have HG := Lib.hid (show sizeT s i = 0 by rw [HS.out, if_neg (by omega)]; exact if_pos (by omega))
      go_enter Tryd.func120, Tryd.ntmps120
      go_wp2_with fail
      refine wp_loop_rounds 2 ?_
      rw [rounds_succ]
      go_wp2_with fail
      rw [rounds_succ]
      go_wp2_with fail
      go_ret
      exact ⟨by rw [HG.out]; rfl, Below.refl _ _⟩
    have v3 : decide ((x3 : Int) < 128) = false := decide_eq_false (by omega)
    by_cases y3 : 191 < x3
    · have z3 : decide ((191 : Int) < (x3 : Int)) = true := decide_eq_true (by omega)
      have HG := Lib.hid (show sizeT s i = 0 by rw [HS.out, if_neg (by omega)]; exact if_pos (by omega))
      go_enter Tryd.func120, Tryd.ntmps120
      go_wp2_with fail
      refine wp_loop_rounds 2 ?_
      rw [rounds_succ]
      go_wp2_with fail
      rw [rounds_succ]
      go_wp2_with fail
      go_ret
      exact ⟨by rw [HG.out]; rfl, Below.refl _ _⟩
    have z3 : decide ((191 : Int) < (x3 : Int)) = false := decide_eq_false (by omega)
    have HG := Lib.hid (show sizeT s i = 4 by rw [HS.out, if_neg (by omega), if_neg (by omega)])
    go_enter Tryd.func120, Tryd.ntmps120
    go_wp2_with fail
    refine wp_loop_rounds 3 ?_
    rw [rounds_succ]
    go_wp2_with fail
    rw [rounds_succ]
    go_wp2_with fail
    rw [rounds_succ]
    go_wp2_with fail
    go_ret
    exact ⟨by rw [HG.out]; rfl, Below.refl _ _⟩
  have HS := Lib.hid (HZ.out.symm.trans (sizeP_lead (n := 0) (lo := 128) (hi := 191) (by omega) (by omega) (by unfold leadN; rw [if_neg (by omega), if_neg (by omega), if_neg (by omega)]) (by unfold leadLo; rw [if_neg (by omega), if_neg (by omega)]) (by unfold leadHi; rw [if_neg (by omega), if_neg (by omega)])))
  have q0 : decide ((x0 : Int) < 32) = false := decide_eq_false (by omega)
  have q1 : ((x0 : Int) == 127) = false := by simp; omega
  have q2 : decide ((x0 : Int) < 128) = false := decide_eq_false (by omega)
  have q3 : decide ((194 : Int) ≤ (x0 : Int)) = true := decide_eq_true (by omega)
  have q4 : decide ((x0 : Int) ≤ 223) = false := decide_eq_false (by omega)
  have q5 : decide ((224 : Int) ≤ (x0 : Int)) = true := decide_eq_true (by omega)
  have q6 : decide ((x0 : Int) ≤ 239) = false := decide_eq_false (by omega)
  have q7 : ((x0 : Int) == 224) = false := by simp; omega
  have q8 : ((x0 : Int) == 237) = false := by simp; omega
  have q9 : decide ((240 : Int) ≤ (x0 : Int)) = true := decide_eq_true (by omega)
  have q10 : decide ((x0 : Int) ≤ 244) = false := decide_eq_false (by omega)
  have q11 : ((x0 : Int) == 240) = false := by simp; omega
  have q12 : ((x0 : Int) == 244) = false := by simp; omega
  have HG := Lib.hid (show sizeT s i = 0 by rw [HS.out]; exact if_pos (by omega))
  go_enter Tryd.func120, Tryd.ntmps120
  go_wp2_with fail
  go_ret
  exact ⟨by rw [HG.out]; rfl, Below.refl _ _⟩
end Go.Proofs.YtnhkpnohadbcdaaDoor
