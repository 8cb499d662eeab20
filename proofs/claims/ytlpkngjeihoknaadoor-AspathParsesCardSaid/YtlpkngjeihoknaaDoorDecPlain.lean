/- The plain law of decimal digits: which number a text says. No program in sight. No conditions. -/
import Derived.Test.YtlpkngjeihoknaaDoorHexPlain
namespace Go.Proofs.YtlpkngjeihoknaaDoor
open Go.RowKit
/-- A text's value, whatever letters it has. -/
def decVal (l : List UInt8) : Int := l.foldl (fun n c => 10 * n + ((c.toNat : Int) - 48)) 0
theorem decVal_snoc (l : List UInt8) (c : UInt8) : decVal (l ++ [c]) = 10 * decVal l + ((c.toNat : Int) - 48) := by simp [decVal]
theorem dg_small (k : Nat) (h : k < 10) : ((dg k).toNat : Int) - 48 = k := by rw [dg_low k h]; omega
theorem decVal_decU (k : Nat) : ∀ n : Nat, n < 10 ^ k → decVal (decU n) = n := by
  induction k with
  | zero => intro n h; rw [decU_small (by omega)]; have := dg_small n (by omega); simp [decVal]; exact this
  | succ k ih =>
    intro n h
    by_cases h10 : n < 10
    · rw [decU_small h10]; have := dg_small n h10; simp [decVal]; exact this
    · have hp : 10 ^ (k + 1) = 10 ^ k * 10 := Nat.pow_succ _ _
      rw [decU_big h10, decVal_snoc, ih (n / 10) (by omega), dg_small _ (by omega)]
      omega
theorem decVal_of (n : Nat) : decVal (decU n) = n := decVal_decU n n (Nat.lt_pow_self (by omega))
theorem decU_digits (k : Nat) : ∀ n : Nat, n < 10 ^ k → ∀ c ∈ decU n, valI (c.toNat : Int) ≤ 9 := by
  have hd : ∀ j, j < 10 → valI ((dg j).toNat : Int) ≤ 9 := fun j hj => by rw [valI_hit j (by omega)]; omega
  induction k with
  | zero => intro n h c hc; rw [decU_small (by omega)] at hc; simp at hc; subst hc; exact hd n (by omega)
  | succ k ih =>
    intro n h c hc
    by_cases h10 : n < 10
    · rw [decU_small h10] at hc; simp at hc; subst hc; exact hd n h10
    · have hp : 10 ^ (k + 1) = 10 ^ k * 10 := Nat.pow_succ _ _
      rw [decU_big h10, List.mem_append] at hc
      rcases hc with hc | hc
      · exact ih (n / 10) (by omega) c hc
      · simp at hc; subst hc; exact hd _ (by omega)
theorem decU_digit (n : Nat) : ∀ c ∈ decU n, valI (c.toNat : Int) ≤ 9 := decU_digits n n (Nat.lt_pow_self (by omega))
theorem valI_nine {c : Int} (h : valI c ≤ 9) : valI c = c - 48 := by
  have hr := valI_range c
  unfold valI at h ⊢
  split
  · rfl
  · rename_i h1
    rw [if_neg h1] at h
    split
    · rename_i h2; rw [if_pos h2] at h; omega
    · rename_i h2; rw [if_neg h2] at h; omega
theorem fold_ge : ∀ (b : List UInt8) (x : Int), 0 ≤ x → (∀ c ∈ b, valI (c.toNat : Int) ≤ 9) → x ≤ b.foldl (fun n c => 10 * n + ((c.toNat : Int) - 48)) x
  | [], x, _, _ => Int.le_refl _
  | c :: b, x, hx, h => by
    have h1 := valI_nine (h c (by simp))
    have h2 := valI_range (c.toNat : Int)
    have := fold_ge b (10 * x + ((c.toNat : Int) - 48)) (by omega) (fun d hd => h d (by simp [hd]))
    simp only [List.foldl_cons]
    omega
theorem decVal_nonneg (l : List UInt8) (h : ∀ c ∈ l, valI (c.toNat : Int) ≤ 9) : 0 ≤ decVal l := fold_ge l 0 (by omega) h
theorem decVal_take (l : List UInt8) (k : Nat) (h : ∀ c ∈ l, valI (c.toNat : Int) ≤ 9) : decVal (l.take k) ≤ decVal l := by
  have h1 := fold_ge (l.drop k) (decVal (l.take k)) (decVal_nonneg _ (fun c hc => h c (List.mem_of_mem_take hc))) (fun c hc => h c (List.mem_of_mem_drop hc))
  have h2 : decVal l = (l.drop k).foldl (fun n c => 10 * n + ((c.toNat : Int) - 48)) (decVal (l.take k)) := by
    unfold decVal
    rw [← List.foldl_append, List.take_append_drop]
  rw [h2]; exact h1
/-- What a text answers, read as a number: v and ok. -/
def IntAns (l : List UInt8) (v : Int) (ok : Bool) : Prop := (ok = true ∧ 0 ≤ v ∧ v ≤ 4294967295 ∧ decI v = l) ∨ (ok = false ∧ v = 0 ∧ ∀ N : Nat, (N : Int) ≤ 4294967295 → decU N ≠ l)
theorem decI_nat (N : Nat) : decI (N : Int) = decU N := by unfold decI; rw [if_neg (by omega)]; rfl
theorem IntAns.one {l : List UInt8} {v v' : Int} {ok ok' : Bool} (h : IntAns l v ok) (h' : IntAns l v' ok') : v = v' ∧ ok = ok' := by
  rcases h with ⟨rfl, h1, h2, h3⟩ | ⟨rfl, rfl, h3⟩
  · obtain ⟨N, rfl⟩ := Int.eq_ofNat_of_zero_le h1
    rw [decI_nat] at h3
    rcases h' with ⟨rfl, g1, g2, g3⟩ | ⟨rfl, rfl, g3⟩
    · obtain ⟨M, rfl⟩ := Int.eq_ofNat_of_zero_le g1
      rw [decI_nat, ← h3] at g3
      have e := congrArg decVal g3
      rw [decVal_of, decVal_of] at e
      exact ⟨e.symm, rfl⟩
    · exact absurd h3 (g3 N h2)
  · rcases h' with ⟨rfl, g1, g2, g3⟩ | ⟨rfl, rfl, g3⟩
    · obtain ⟨M, rfl⟩ := Int.eq_ofNat_of_zero_le g1
      rw [decI_nat] at g3
      exact absurd g3 (h3 M g2)
    · exact ⟨rfl, rfl⟩
/-- Any number's digits are read again, if it may be. -/
theorem IntAns.text (n : Int) : IntAns (decI n) (if 0 ≤ n ∧ n ≤ 4294967295 then n else 0) (decide (0 ≤ n ∧ n ≤ 4294967295)) := by
  by_cases h : 0 ≤ n ∧ n ≤ 4294967295
  · rw [if_pos h]; exact .inl ⟨by simp; exact h, h.1, h.2, rfl⟩
  · rw [if_neg h]
    refine .inr ⟨by simp; omega, rfl, fun N hN he => ?_⟩
    by_cases hn : 0 ≤ n
    · obtain ⟨M, rfl⟩ := Int.eq_ofNat_of_zero_le hn
      rw [decI_nat] at he
      have e := congrArg decVal he
      rw [decVal_of, decVal_of] at e
      omega
    · have e : decI n = 45 :: decU n.natAbs := by unfold decI; rw [if_pos (by omega)]; rfl
      have hd := decU_digit N 45 (by rw [he, e]; simp)
      exact absurd hd (by decide)
/-- A text with a letter that is no digit says no number. -/
theorem IntAns.letter {l : List UInt8} {c : UInt8} (hc : c ∈ l) (h : 9 < valI (c.toNat : Int)) : IntAns l 0 false :=
  .inr ⟨rfl, rfl, fun N _ he => by
    have := decU_digit N c (by rw [he]; exact hc)
    omega⟩
/-- A text whose beginning is too great says no number. -/
theorem IntAns.great {l : List UInt8} {k : Nat} (h : 4294967295 < decVal (l.take k)) : IntAns l 0 false :=
  .inr ⟨rfl, rfl, fun N hN he => by
    have hd := decU_digit N
    rw [he] at hd
    have h1 := decVal_take l k hd
    have h2 := decVal_of N
    rw [he] at h2
    omega⟩
/-- The end: the value is held against the text. -/
theorem IntAns.yes {l : List UInt8} {v : Int} (h0 : 0 ≤ v) (h1 : v ≤ 4294967295) (h : decI v = l) : IntAns l v true := .inl ⟨rfl, h0, h1, h⟩
theorem IntAns.no {l : List UInt8} (h : ∀ N : Nat, (N : Int) ≤ 4294967295 → decU N = l → False) : IntAns l 0 false := .inr ⟨rfl, rfl, fun N hN he => h N hN he⟩
theorem decU_ten (N : Nat) (h : (N : Int) ≤ 4294967295) : (decU N).length ≤ 10 := decU_len 9 N (by omega)
end Go.Proofs.YtlpkngjeihoknaaDoor
