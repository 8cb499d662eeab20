/- The plain law of SessionHolds: what a session that rose does with each tick. No program in sight. No conditions. -/
import Derived.Test.YthgjknmfghjioaaDoorSesI
namespace Go.Proofs.YthgjknmfghjioaaDoor
open Go.RowKit
def cnt6 (os : List OutV) : Nat := (os.filter fun O => O.ev == 6).length
def stepOk (K : SesK) (N i : Nat) (V : SesV) : Bool :=
  (sesTick K V).2.all (fun O => !O.fall || (decide (i = N) && (O.flt.1 == 4 && O.flt.2.1 == 0))) && (((sesTick K V).1.st == 5) == (decide (N = 0) || decide (i < N)))
def chkT (K : SesK) (N : Nat) : Nat → Nat → SesV → Nat → Bool
  | 0, _, _, keeps => if N = 0 then keeps == 0 else decide (2 ≤ keeps)
  | f + 1, i, V, keeps => stepOk K N i V && chkT K N f (i + 1) (sesTick K V).1 (keeps + cnt6 (sesTick K V).2)
theorem chkAll (la li lx pa : Nat) (pd pl : Int) (Ai : Option Addr) (ni ci : Nat) (Ao : Option Addr) (no co I : Nat) : (List.range 63).all (fun N => decide (N = 1) || decide (N = 2) || chkT ⟨la, li, lx, 1000, pa, pd, pl, Ai, ni, ci, Ao, no, co, false⟩ N 70 1 ⟨5, 0, (N : Int), (N : Int).tdiv 3, true, I, (N : Int)⟩ 0) = true := by kernel_rfl
theorem chk_of (la li lx pa : Nat) (pd pl : Int) (Ai : Option Addr) (ni ci : Nat) (Ao : Option Addr) (no co I : Nat) {N : Nat} (h : N = 0 ∨ 3 ≤ N ∧ N ≤ 62) : chkT ⟨la, li, lx, 1000, pa, pd, pl, Ai, ni, ci, Ao, no, co, false⟩ N 70 1 ⟨5, 0, (N : Int), (N : Int).tdiv 3, true, I, (N : Int)⟩ 0 = true := by
  have h1 := List.all_eq_true.1 (chkAll la li lx pa pd pl Ai ni ci Ao no co I) N (List.mem_range.2 (by omega))
  rw [decide_eq_false (show ¬ N = 1 by omega), decide_eq_false (show ¬ N = 2 by omega), Bool.false_or, Bool.false_or] at h1
  exact h1
theorem chk_step {K : SesK} {N f i keeps : Nat} {V : SesV} (h : chkT K N (f + 1) i V keeps = true) : stepOk K N i V = true ∧ chkT K N f (i + 1) (sesTick K V).1 (keeps + cnt6 (sesTick K V).2) = true := by
  rw [chkT, Bool.and_eq_true] at h
  exact h
theorem chk_end {K : SesK} {N i keeps : Nat} {V : SesV} (h : chkT K N 0 i V keeps = true) : (N = 0 ∧ keeps = 0) ∨ (N ≠ 0 ∧ 2 ≤ keeps) := by
  rw [chkT] at h
  split at h
  · rename_i h0; exact .inl ⟨h0, by simpa using h⟩
  · rename_i h0; exact .inr ⟨h0, of_decide_eq_true h⟩
theorem step_all {K : SesK} {N i : Nat} {V : SesV} (h : stepOk K N i V = true) : (∀ O ∈ (sesTick K V).2, O.fall = true → i = N ∧ O.flt.1 = 4 ∧ O.flt.2.1 = 0) ∧ (((sesTick K V).1.st = 5) ↔ (N = 0 ∨ i < N)) := by
  unfold stepOk at h
  rw [Bool.and_eq_true] at h
  refine ⟨fun O hO hf => ?_, ?_⟩
  · have := List.all_eq_true.1 h.1 O hO
    rw [hf] at this
    simpa using this
  · have h2 : ((sesTick K V).1.st == 5) = (decide (N = 0) || decide (i < N)) := by simpa using h.2
    constructor
    · intro h5
      rw [h5] at h2
      simpa using h2.symm
    · intro hN
      have e : (decide (N = 0) || decide (i < N)) = true := by rcases hN with h | h <;> simp [h]
      rw [e] at h2
      simpa using h2
theorem cnt6_len (os : List OutV) : cnt6 os ≤ os.length := List.length_filter_le _ _
theorem cnt6_snoc (os : List OutV) (O : OutV) : cnt6 (os ++ [O]) = cnt6 os + (if O.ev = 6 then 1 else 0) := by
  unfold cnt6
  rw [List.filter_append, List.length_append]
  congr 1
  by_cases h : O.ev = 6
  · rw [if_pos h]; simp [h]
  · rw [if_neg h]; simp [h]
theorem tickGo_flt (K : SesK) : ∀ (l : List Int) (V : SesV), ∀ O ∈ (tickGo K V l).2, O.flt.2.2 = [] := by
  intro l
  induction l with
  | nil => intro V O h; simp [tickGo] at h
  | cons i r ih =>
    intro V O h
    unfold tickGo at h
    split at h
    · exact ih V O h
    · rcases List.mem_cons.1 h with h | h
      · subst h; exact doOut_flt _ _ _
      · exact ih _ O h
end Go.Proofs.YthgjknmfghjioaaDoor
