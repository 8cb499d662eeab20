/- The plain law of layer 1: digits, hexadecimal and decimal. No program in sight. No conditions. -/
import Derived.Test.YthgjknmfghjioaaDoorBase
namespace Go.Proofs.YthgjknmfghjioaaDoor
/-- The digits. -/
def digitsL : List Nat := [48, 49, 50, 51, 52, 53, 54, 55, 56, 57, 97, 98, 99, 100, 101, 102]
/-- Digit k. -/
def dg (k : Nat) : UInt8 := UInt8.ofNat (digitsL[k]?.getD 0)
/-- Bytes as hexadecimal digits. -/
def hexL (l : List UInt8) : List UInt8 := l.flatMap fun b => [dg (b.toNat / 16), dg (b.toNat % 16)]
theorem hexL_snoc (l : List UInt8) (b : UInt8) : hexL (l ++ [b]) = hexL l ++ [dg (b.toNat / 16), dg (b.toNat % 16)] := by simp [hexL]
theorem hexL_length (l : List UInt8) : (hexL l).length = 2 * l.length := by
  induction l with
  | nil => rfl
  | cons b l ih => simp only [hexL, List.flatMap_cons, List.length_append, List.length_cons, List.length_nil] at *; omega
/-- A number's decimal digits. -/
def decU (n : Nat) : List UInt8 := if n < 10 then [dg n] else decU (n / 10) ++ [dg (n % 10)]
termination_by n
theorem decU_small {n : Nat} (h : n < 10) : decU n = [dg n] := by rw [decU, if_pos h]
theorem decU_big {n : Nat} (h : ¬ n < 10) : decU n = decU (n / 10) ++ [dg (n % 10)] := by rw [decU, if_neg h]
theorem decU_ne (n : Nat) : decU n ≠ [] := by
  by_cases h : n < 10
  · rw [decU_small h]; simp
  · rw [decU_big h]; simp
theorem decU_len (k : Nat) : ∀ n : Nat, n < 10 ^ (k + 1) → (decU n).length ≤ k + 1 := by
  induction k with
  | zero => intro n h; rw [decU_small (by omega)]; simp
  | succ k ih =>
    intro n h
    by_cases h10 : n < 10
    · rw [decU_small h10]; simp
    · rw [decU_big h10, List.length_append]
      have : n / 10 < 10 ^ (k + 1) := by
        have e : 10 ^ (k + 1 + 1) = 10 ^ (k + 1) * 10 := Nat.pow_succ _ _
        omega
      have := ih _ this
      simp; omega
/-- A whole number's text. -/
def decI (n : Int) : List UInt8 := (if n < 0 then [45] else []) ++ decU n.natAbs
/-- What is written so far, when u is still to be written. -/
def DecAt (U u : Nat) (L : List UInt8) : Prop := decU U = decU u ++ L
theorem DecAt.start (U : Nat) : DecAt U U [] := by simp [DecAt]
theorem DecAt.last {U u : Nat} {L : List UInt8} (h : DecAt U u L) (hu : u < 10) : decU U = dg u :: L := by
  unfold DecAt at h; rw [h, decU_small hu]; rfl
theorem DecAt.step {U u : Nat} {L : List UInt8} (h : DecAt U u L) (hu : ¬ u < 10) : DecAt U (u / 10) (dg (u % 10) :: L) := by
  unfold DecAt at h ⊢; rw [h, decU_big hu]; simp
theorem DecAt.len {U u : Nat} {L : List UInt8} (h : DecAt U u L) (hU : U < 10 ^ 20) : L.length < 20 := by
  have h1 := decU_len 19 U hU
  have h2 := decU_ne u
  have h3 : 0 < (decU u).length := List.length_pos_iff.2 h2
  unfold DecAt at h
  rw [h, List.length_append] at h1
  omega
end Go.Proofs.YthgjknmfghjioaaDoor
