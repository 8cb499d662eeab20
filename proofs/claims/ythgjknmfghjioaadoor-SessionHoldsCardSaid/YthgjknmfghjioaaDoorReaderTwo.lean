/- Two readers side by side: each stays while the other one changes; numbers that read. No conditions. -/
import Derived.Test.YthgjknmfghjioaaDoorProg
import Derived.WalkKit
import Derived.WalkSpells
import Derived.WalkLawsBesides
import Derived.Outline
import Derived.Deep.QuietTactic
import Derived.BigQuiet
import Derived.Handy
import Derived.Lib.Hide
import Derived.Test.YthgjknmfghjioaaDoorRefRB
import Derived.Test.YthgjknmfghjioaaDoorOpen
import Derived.Test.YthgjknmfghjioaaDoorNSl
namespace Go.Proofs.YthgjknmfghjioaaDoor
open Go.RowKit
theorem tk_ok {l : List UInt8} {k : Nat} (h : k ≤ l.length) : tkOut l false k = l.take k ∧ tkLeft l false k = l.drop k ∧ tkShort l false k = false := by
  have hor : ¬ (false = true ∨ (k : Int) < 0 ∨ (l.length : Int) < k) := by simp; omega
  exact ⟨by rw [tkOut, if_neg hor, Int.toNat_natCast], by rw [tkLeft, if_neg hor, Int.toNat_natCast], by rw [tkShort, decide_eq_false hor]⟩
theorem tkLeft_len (l : List UInt8) (s : Bool) (k : Int) : (tkLeft l s k).length ≤ l.length := by
  unfold tkLeft
  split
  · exact Nat.le_refl _
  · simp
theorem numL_cons (b : UInt8) (l : List UInt8) : numL (b :: l) = b.toNat * 256 ^ l.length + numL l := by
  have key : ∀ (l : List UInt8) (x : Nat), l.foldl (fun x b => 256 * x + b.toNat) x = x * 256 ^ l.length + numL l := by
    intro l
    induction l with
    | nil => intro x; simp [numL]
    | cons c l ih =>
      intro x
      have e : numL (c :: l) = (256 * 0 + c.toNat) * 256 ^ l.length + numL l := by rw [numL, List.foldl_cons, ih]
      rw [List.foldl_cons, ih, e]
      simp only [List.length_cons, Nat.pow_succ, Nat.mul_zero, Nat.zero_add]
      rw [Nat.add_mul, Nat.mul_comm 256 x, Nat.mul_assoc, Nat.mul_comm 256 (256 ^ l.length), Nat.add_assoc]
  rw [numL, List.foldl_cons, key]
  simp
theorem ub_nat {e : Int} (h0 : 0 ≤ e) (h1 : e ≤ 255) : (ub e).toNat = e.toNat := by
  have := ub_toNat h0 h1
  omega
theorem numL_b16 {m : Int} (h0 : 0 ≤ m) (h1 : m < 65536) : (numL (b16 m) : Int) = m := by
  have e1 := ub_nat (e := m % 65536 / 256) (by omega) (by omega)
  have e2 := ub_nat (e := m % 256) (by omega) (by omega)
  simp only [b16, numL_cons, e1, e2, List.length_cons, List.length_nil]
  simp [numL]
  omega
theorem numL_b32 {m : Int} (h0 : 0 ≤ m) (h1 : m < 4294967296) : (numL (b32 m) : Int) = m := by
  have e1 := ub_nat (e := m / 16777216) (by omega) (by omega)
  have e2 := ub_nat (e := m / 65536 % 256) (by omega) (by omega)
  have e3 := ub_nat (e := m / 256 % 256) (by omega) (by omega)
  have e4 := ub_nat (e := m % 256) (by omega) (by omega)
  simp only [b32, numL_cons, e1, e2, e3, e4, List.length_cons, List.length_nil]
  simp [numL]
  omega
end Go.Proofs.YthgjknmfghjioaaDoor
