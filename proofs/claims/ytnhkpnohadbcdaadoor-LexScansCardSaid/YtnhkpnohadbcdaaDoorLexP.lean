/- The plain law of layer 13 (lex): how many bytes a rune has, by its bytes and by what is decoded. No program in sight but the decoder. No conditions. -/
import Derived.Test.YtnhkpnohadbcdaaDoorLexB
import Derived.Lib.DecodeN
namespace Go.Proofs.YtnhkpnohadbcdaaDoor
open Go.RowKit
set_option linter.unusedVariables false
set_option linter.unusedSimpArgs false
def leadN (b : Nat) : Nat := if 194 ≤ b ∧ b ≤ 223 then 2 else if 224 ≤ b ∧ b ≤ 239 then 3 else if 240 ≤ b ∧ b ≤ 244 then 4 else 0
def leadLo (b : Nat) : Nat := if b = 224 then 160 else if b = 240 then 144 else 128
def leadHi (b : Nat) : Nat := if b = 237 then 159 else if b = 244 then 143 else 191
/-- The document's size of a rune, by its bytes; m: how many there are. -/
def sizeP (m b0 b1 b2 b3 : Nat) : Nat :=
  if b0 < 32 ∨ b0 = 127 then 0
  else if b0 < 128 then 1
  else if leadN b0 = 0 ∨ m < leadN b0 ∨ b1 < leadLo b0 ∨ leadHi b0 < b1 then 0
  else if (2 < leadN b0 ∧ (b2 < 128 ∨ 191 < b2)) ∨ (3 < leadN b0 ∧ (b3 < 128 ∨ 191 < b3)) then 0
  else leadN b0
def plainN (p : Nat × Nat) : Nat := if plainB p.1 p.2 = true then p.2 else 0
theorem plainB_iff (c k : Nat) : plainB c k = true ↔ 32 ≤ c ∧ c ≠ 127 ∧ (c ≠ 65533 ∨ 1 < k) := by
  unfold plainB
  simp only [Bool.and_eq_true, Bool.or_eq_true, decide_eq_true_eq, Bool.not_eq_true', beq_eq_false_iff_ne]
  constructor
  · rintro ⟨⟨h1, h2⟩, h3⟩; exact ⟨h1, h2, h3⟩
  · rintro ⟨h1, h2, h3⟩; exact ⟨⟨h1, h2⟩, h3⟩
theorem plainN_yes {c k : Nat} (h1 : 32 ≤ c) (h2 : c ≠ 127) (h3 : c ≠ 65533 ∨ 1 < k) : plainN (c, k) = k := if_pos ((plainB_iff c k).2 ⟨h1, h2, h3⟩)
theorem plainN_no {c k : Nat} (h : c < 32 ∨ c = 127 ∨ (c = 65533 ∧ k ≤ 1)) : plainN (c, k) = 0 := if_neg fun h2 => by
  have := (plainB_iff c k).1 h2
  omega
set_option maxHeartbeats 8000000 in
theorem sizeP_eq (m b0 b1 b2 b3 : Nat) (h0 : b0 < 256) (h1 : b1 < 256) (h2 : b2 < 256) (h3 : b3 < 256) (_ : 1 ≤ m) : sizeP m b0 b1 b2 b3 = plainN (Lib.decodeN m b0 b1 b2 b3) := by
  by_cases ha : b0 < 128
  · have e : Lib.decodeN m b0 b1 b2 b3 = (b0, 1) := if_pos ha
    rw [e]
    by_cases hb : b0 < 32 ∨ b0 = 127
    · rw [plainN_no (by omega)]; exact if_pos hb
    · rw [plainN_yes (by omega) (by omega) (.inl (by omega))]
      unfold sizeP
      rw [if_neg hb, if_pos ha]
  have hs : sizeP m b0 b1 b2 b3 = if leadN b0 = 0 ∨ m < leadN b0 ∨ b1 < leadLo b0 ∨ leadHi b0 < b1 then 0 else if (2 < leadN b0 ∧ (b2 < 128 ∨ 191 < b2)) ∨ (3 < leadN b0 ∧ (b3 < 128 ∨ 191 < b3)) then 0 else leadN b0 := by
    unfold sizeP
    rw [if_neg (by omega), if_neg ha]
  rw [hs]
  clear hs
  have dn : ∀ (x : Nat × Nat), (if b0 < 128 then (b0, 1) else x) = x := fun x => if_neg ha
  unfold Lib.decodeN
  rw [dn]
  clear dn
  by_cases c2 : 194 ≤ b0 ∧ b0 ≤ 223
  · have hN : leadN b0 = 2 := if_pos c2
    have hL : leadLo b0 = 128 := by unfold leadLo; rw [if_neg (by omega), if_neg (by omega)]
    have hH : leadHi b0 = 191 := by unfold leadHi; rw [if_neg (by omega), if_neg (by omega)]
    rw [hN, hL, hH]
    by_cases d : 1 < m ∧ b1 / 64 = 2
    · rw [if_neg (show ¬ (2 = 0 ∨ m < 2 ∨ b1 < 128 ∨ 191 < b1) by omega), if_neg (show ¬ ((2 < 2 ∧ (b2 < 128 ∨ 191 < b2)) ∨ (3 < 2 ∧ (b3 < 128 ∨ 191 < b3))) by omega), if_pos (show b0 / 32 = 6 ∧ (1 < m ∧ b1 / 64 = 2) from ⟨by omega, d⟩), if_pos (by omega), plainN_yes (by omega) (by omega) (.inr (by omega))]
    · rw [if_pos (show 2 = 0 ∨ m < 2 ∨ b1 < 128 ∨ 191 < b1 by omega), if_neg (by omega), if_neg (by omega), if_neg (by omega), plainN_no (by omega)]
  by_cases c3 : 224 ≤ b0 ∧ b0 ≤ 239
  · have hN : leadN b0 = 3 := by unfold leadN; rw [if_neg c2, if_pos c3]
    rw [hN]
    have hlh : (b0 = 224 ∧ leadLo b0 = 160 ∧ leadHi b0 = 191) ∨ (b0 = 237 ∧ leadLo b0 = 128 ∧ leadHi b0 = 159) ∨ (b0 ≠ 224 ∧ b0 ≠ 237 ∧ leadLo b0 = 128 ∧ leadHi b0 = 191) := by
      unfold leadLo leadHi
      by_cases g1 : b0 = 224
      · left; subst g1; simp
      · by_cases g2 : b0 = 237
        · right; left; subst g2; simp
        · right; right; refine ⟨g1, g2, ?_, ?_⟩
          · rw [if_neg g1, if_neg (by omega)]
          · rw [if_neg g2, if_neg (by omega)]
    obtain ⟨L, hL⟩ : ∃ L, leadLo b0 = L := ⟨_, rfl⟩
    obtain ⟨U, hU⟩ : ∃ U, leadHi b0 = U := ⟨_, rfl⟩
    rw [hL, hU] at hlh ⊢
    by_cases d : (1 < m ∧ b1 / 64 = 2) ∧ (2 < m ∧ b2 / 64 = 2)
    · by_cases g : b1 < L ∨ U < b1
      · rw [if_pos (show 3 = 0 ∨ m < 3 ∨ b1 < L ∨ U < b1 by omega), if_neg (show ¬ (b0 / 32 = 6 ∧ (1 < m ∧ b1 / 64 = 2)) by omega), if_pos (show b0 / 16 = 14 ∧ (1 < m ∧ b1 / 64 = 2) ∧ (2 < m ∧ b2 / 64 = 2) from ⟨by omega, d⟩), if_neg (by omega), plainN_no (by omega)]
      · rw [if_neg (show ¬ (3 = 0 ∨ m < 3 ∨ b1 < L ∨ U < b1) by omega), if_neg (show ¬ ((2 < 3 ∧ (b2 < 128 ∨ 191 < b2)) ∨ (3 < 3 ∧ (b3 < 128 ∨ 191 < b3))) by omega), if_neg (show ¬ (b0 / 32 = 6 ∧ (1 < m ∧ b1 / 64 = 2)) by omega), if_pos (show b0 / 16 = 14 ∧ (1 < m ∧ b1 / 64 = 2) ∧ (2 < m ∧ b2 / 64 = 2) from ⟨by omega, d⟩), if_pos (by omega), plainN_yes (by omega) (by omega) (.inr (by omega))]
    · have e : plainN (if b0 / 32 = 6 ∧ (1 < m ∧ b1 / 64 = 2) then (if b0 % 32 * 64 + b1 % 64 ≥ 128 then (b0 % 32 * 64 + b1 % 64, 2) else (65533, 1)) else (65533, 1)) = 0 := by
        rw [if_neg (by omega), plainN_no (by omega)]
      by_cases g : 3 = 0 ∨ m < 3 ∨ b1 < L ∨ U < b1
      · rw [if_pos g, if_neg (show ¬ (b0 / 32 = 6 ∧ (1 < m ∧ b1 / 64 = 2)) by omega), if_neg (show ¬ (b0 / 16 = 14 ∧ (1 < m ∧ b1 / 64 = 2) ∧ (2 < m ∧ b2 / 64 = 2)) by omega), if_neg (by omega), plainN_no (by omega)]
      · rw [if_neg g, if_pos (show (2 < 3 ∧ (b2 < 128 ∨ 191 < b2)) ∨ (3 < 3 ∧ (b3 < 128 ∨ 191 < b3)) by omega), if_neg (show ¬ (b0 / 32 = 6 ∧ (1 < m ∧ b1 / 64 = 2)) by omega), if_neg (show ¬ (b0 / 16 = 14 ∧ (1 < m ∧ b1 / 64 = 2) ∧ (2 < m ∧ b2 / 64 = 2)) by omega), if_neg (by omega), plainN_no (by omega)]
  rw [if_neg (show ¬ (b0 / 16 = 14 ∧ (1 < m ∧ b1 / 64 = 2) ∧ (2 < m ∧ b2 / 64 = 2)) by omega)]
  by_cases c4 : 240 ≤ b0 ∧ b0 ≤ 244
  · have hN : leadN b0 = 4 := by unfold leadN; rw [if_neg c2, if_neg c3, if_pos c4]
    rw [hN, if_neg (show ¬ (b0 / 32 = 6 ∧ (1 < m ∧ b1 / 64 = 2)) by omega)]
    have hlh : (b0 = 240 ∧ leadLo b0 = 144 ∧ leadHi b0 = 191) ∨ (b0 = 244 ∧ leadLo b0 = 128 ∧ leadHi b0 = 143) ∨ (b0 ≠ 240 ∧ b0 ≠ 244 ∧ leadLo b0 = 128 ∧ leadHi b0 = 191) := by
      unfold leadLo leadHi
      by_cases g1 : b0 = 240
      · left; subst g1; simp
      · by_cases g2 : b0 = 244
        · right; left; subst g2; simp
        · right; right; refine ⟨g1, g2, ?_, ?_⟩
          · rw [if_neg (by omega), if_neg g1]
          · rw [if_neg (by omega), if_neg g2]
    obtain ⟨L, hL⟩ : ∃ L, leadLo b0 = L := ⟨_, rfl⟩
    obtain ⟨U, hU⟩ : ∃ U, leadHi b0 = U := ⟨_, rfl⟩
    rw [hL, hU] at hlh ⊢
    by_cases d : (1 < m ∧ b1 / 64 = 2) ∧ (2 < m ∧ b2 / 64 = 2) ∧ (3 < m ∧ b3 / 64 = 2)
    · by_cases g : b1 < L ∨ U < b1
      · rw [if_pos (show 4 = 0 ∨ m < 4 ∨ b1 < L ∨ U < b1 by omega), if_pos (show b0 / 8 = 30 ∧ _ from ⟨by omega, d⟩), if_neg (by omega), plainN_no (by omega)]
      · rw [if_neg (show ¬ (4 = 0 ∨ m < 4 ∨ b1 < L ∨ U < b1) by omega), if_neg (show ¬ ((2 < 4 ∧ (b2 < 128 ∨ 191 < b2)) ∨ (3 < 4 ∧ (b3 < 128 ∨ 191 < b3))) by omega), if_pos (show b0 / 8 = 30 ∧ _ from ⟨by omega, d⟩), if_pos (by omega), plainN_yes (by omega) (by omega) (.inr (by omega))]
    · by_cases g : 4 = 0 ∨ m < 4 ∨ b1 < L ∨ U < b1
      · rw [if_pos g, if_neg (by omega), plainN_no (by omega)]
      · rw [if_neg g, if_pos (show (2 < 4 ∧ (b2 < 128 ∨ 191 < b2)) ∨ (3 < 4 ∧ (b3 < 128 ∨ 191 < b3)) by omega), if_neg (by omega), plainN_no (by omega)]
  · have hN : leadN b0 = 0 := by unfold leadN; rw [if_neg c2, if_neg c3, if_neg c4]
    rw [hN, if_pos (.inl rfl)]
    by_cases d : b0 / 32 = 6 ∧ (1 < m ∧ b1 / 64 = 2)
    · rw [if_pos d, if_neg (by omega), plainN_no (by omega)]
    · rw [if_neg d]
      by_cases d8 : b0 / 8 = 30 ∧ (1 < m ∧ b1 / 64 = 2) ∧ (2 < m ∧ b2 / 64 = 2) ∧ (3 < m ∧ b3 / 64 = 2)
      · rw [if_pos d8, if_neg (by omega), plainN_no (by omega)]
      · rw [if_neg d8, plainN_no (by omega)]
/-- The document's size of the rune at a place. -/
def sizeT (s : ByteArray) (i : Nat) : Nat := plainN (Utf8.decode s i)
theorem sizeT_eq (s : ByteArray) (i : Nat) (h : i < s.size) : sizeP (s.size - i) (s.get! i).toNat (s.get! (i + 1)).toNat (s.get! (i + 2)).toNat (s.get! (i + 3)).toNat = sizeT s i := by
  unfold sizeT
  rw [Lib.decode_at]
  exact sizeP_eq _ _ _ _ _ (UInt8.toNat_lt _) (UInt8.toNat_lt _) (UInt8.toNat_lt _) (UInt8.toNat_lt _) (by omega)
end Go.Proofs.YtnhkpnohadbcdaaDoor
