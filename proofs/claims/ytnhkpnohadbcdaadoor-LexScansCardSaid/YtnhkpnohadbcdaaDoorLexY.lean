/- The plain law of layer 13 (lex): the scanner by bytes, place by place. No conditions. -/
import Derived.Test.YtnhkpnohadbcdaaDoorLexX
namespace Go.Proofs.YtnhkpnohadbcdaaDoor
open Go.RowKit
set_option linter.unusedVariables false
set_option linter.unusedSimpArgs false
/-- What is told from a place on. -/
noncomputable def ansB (s : ByteArray) (i : Nat) (st : Bc) : List Tk × Int := finB s (runL s (s.data.toList.drop i) i st)
def bOut (out : List Tk) : Bc := ⟨out, -1, [], false, false, false, false⟩
def bWord (out : List Tk) (f : Nat) : Bc := ⟨out, (f : Int), [], false, false, false, false⟩
def bQuo (out : List Tk) (t : List UInt8) : Bc := ⟨out, -1, t, true, false, false, false⟩
theorem ansB_step {s : ByteArray} {i : Nat} (h : i < s.size) (st : Bc) : ansB s i st = ansB s (i + 1) (stepB s i st (s.get! i)) := by
  unfold ansB
  rw [drop_head s i h]
  rfl
theorem ansB_end {s : ByteArray} {i : Nat} (h : s.size ≤ i) (st : Bc) : ansB s i st = finB s st := by
  unfold ansB
  rw [List.drop_eq_nil_of_le (show s.data.toList.length ≤ i from h)]
  rfl
theorem runL_bad (s : ByteArray) (l : List UInt8) (i : Nat) (st : Bc) (h : st.bad = true) : (runL s l i st).bad = true := by
  induction l generalizing i st with
  | nil => exact h
  | cons b l ih =>
    refine ih (i + 1) _ ?_
    unfold stepB inB outB
    repeat' split
    all_goals first | exact h | (simp only; rw [h]; rfl) | rfl
theorem ansB_bad (s : ByteArray) (i : Nat) (st : Bc) (h : st.bad = true) : ansB s i st = ([], 5) := by
  unfold ansB finB
  rw [if_pos (.inl (runL_bad s _ i st h))]
theorem ans_space {s : ByteArray} {i : Nat} (h : i < s.size) (hb : s.get! i = 32) (out : List Tk) : ansB s i (bOut out) = ansB s (i + 1) (bOut out) := by
  rw [ansB_step h, hb]
  congr 1
theorem ans_word {s : ByteArray} {i : Nat} (h : i < s.size) (h1 : s.get! i ≠ 32) (h2 : s.get! i ≠ 34) (out : List Tk) : ansB s i (bOut out) = ansB s (i + 1) (bWord out i) := by
  rw [ansB_step h]
  congr 1
  unfold stepB outB bOut bWord
  simp [h1, h2]
theorem ans_quo {s : ByteArray} {i : Nat} (h : i < s.size) (h1 : s.get! i = 34) (out : List Tk) : ansB s i (bOut out) = ansB s (i + 1) (bQuo out []) := by
  rw [ansB_step h, h1]
  congr 1
theorem ans_more {s : ByteArray} {i : Nat} (h : i < s.size) (h1 : s.get! i ≠ 32) (h2 : s.get! i ≠ 34) (out : List Tk) (f : Nat) : ansB s i (bWord out f) = ansB s (i + 1) (bWord out f) := by
  rw [ansB_step h]
  congr 1
  have hf : ¬ (f : Int) < 0 := by omega
  unfold stepB outB bWord
  simp [h1, h2, hf]
theorem ans_word_bad {s : ByteArray} {i : Nat} (h : i < s.size) (h1 : s.get! i = 34) (out : List Tk) (f : Nat) : ansB s i (bWord out f) = ([], 5) := by
  rw [ansB_step h, h1]
  refine ansB_bad s _ _ ?_
  have hf : (0 : Int) ≤ (f : Int) := by omega
  unfold stepB outB bWord
  simp [hf]
theorem ans_word_end {s : ByteArray} {i : Nat} (h : i ≤ s.size) (h1 : i < s.size → s.get! i = 32) (out : List Tk) (f : Nat) : ansB s i (bWord out f) = ansB s i (bOut (out ++ [wordOf (s.extract f i)])) := by
  have hf : (0 : Int) ≤ (f : Int) := by omega
  by_cases hi : i < s.size
  · rw [ansB_step hi, ansB_step hi, h1 hi]
    congr 1
  · have : i = s.size := by omega
    subst this
    rw [ansB_end (Nat.le_refl _), ansB_end (Nat.le_refl _)]
    unfold finB bWord bOut
    simp [hf]
theorem ans_quo_more {s : ByteArray} {i : Nat} (h : i < s.size) (h1 : s.get! i ≠ 92) (h2 : s.get! i ≠ 34) (out : List Tk) (t : List UInt8) : ansB s i (bQuo out t) = ansB s (i + 1) (bQuo out (t ++ [s.get! i])) := by
  rw [ansB_step h]
  congr 1
  unfold stepB inB bQuo
  simp [h1, h2]
theorem ans_quo_end {s : ByteArray} {i : Nat} (h : s.size ≤ i) (out : List Tk) (t : List UInt8) : ansB s i (bQuo out t) = ([], 5) := by
  rw [ansB_end h]
  unfold finB bQuo
  simp
theorem ans_esc {s : ByteArray} {i : Nat} (h : i < s.size) (h1 : s.get! i = 92) (out : List Tk) (t : List UInt8) : ansB s i (bQuo out t) = ansB s (i + 1) ⟨out, -1, t, true, true, false, false⟩ := by
  rw [ansB_step h, h1]
  congr 1
theorem ans_esc_end {s : ByteArray} {i : Nat} (h : i < s.size) (h1 : s.get! i = 92) (h2 : s.size ≤ i + 1) (out : List Tk) (t : List UInt8) : ansB s i (bQuo out t) = ([], 5) := by
  rw [ans_esc h h1, ansB_end h2]
  unfold finB
  simp
theorem ans_esc_bad {s : ByteArray} {i : Nat} (h : i < s.size) (h1 : s.get! i = 92) (h2 : i + 1 < s.size) (h3 : s.get! (i + 1) ≠ 34) (h4 : s.get! (i + 1) ≠ 92) (out : List Tk) (t : List UInt8) : ansB s i (bQuo out t) = ([], 5) := by
  rw [ans_esc h h1, ansB_step h2]
  refine ansB_bad s _ _ ?_
  unfold stepB inB
  simp [h3, h4]
theorem ans_esc_more {s : ByteArray} {i : Nat} (h : i < s.size) (h1 : s.get! i = 92) (h2 : i + 1 < s.size) (h3 : s.get! (i + 1) = 34 ∨ s.get! (i + 1) = 92) (out : List Tk) (t : List UInt8) : ansB s i (bQuo out t) = ansB s (i + 1 + 1) (bQuo out (t ++ [s.get! (i + 1)])) := by
  rw [ans_esc h h1, ansB_step h2]
  congr 1
  unfold stepB inB bQuo
  rcases h3 with h3 | h3 <;> simp [h3]
theorem ans_close {s : ByteArray} {i : Nat} (h : i < s.size) (h1 : s.get! i = 34) (out : List Tk) (t : List UInt8) : ansB s i (bQuo out t) = ansB s (i + 1) ⟨out ++ [.quo ⟨t.toArray⟩], -1, [], false, false, true, false⟩ := by
  rw [ansB_step h, h1]
  congr 1
theorem ans_close_bad {s : ByteArray} {i : Nat} (h : i < s.size) (h1 : s.get! i = 34) (h2 : i + 1 < s.size) (h3 : s.get! (i + 1) ≠ 32) (out : List Tk) (t : List UInt8) : ansB s i (bQuo out t) = ([], 5) := by
  rw [ans_close h h1, ansB_step h2]
  refine ansB_bad s _ _ ?_
  unfold stepB outB
  simp [h3]
theorem ans_close_ok {s : ByteArray} {i : Nat} (h : i < s.size) (h1 : s.get! i = 34) (h2 : i + 1 < s.size → s.get! (i + 1) = 32) (out : List Tk) (t : List UInt8) : ansB s i (bQuo out t) = ansB s (i + 1) (bOut (out ++ [.quo ⟨t.toArray⟩])) := by
  rw [ans_close h h1]
  by_cases hi : i + 1 < s.size
  · rw [ansB_step hi, ansB_step hi, h2 hi]
    congr 1
  · rw [ansB_end (by omega), ansB_end (by omega)]
    rfl
theorem ans_end {s : ByteArray} {i : Nat} (h : s.size ≤ i) (out : List Tk) : ansB s i (bOut out) = (out, 0) := by
  rw [ansB_end h]
  unfold finB bOut
  simp
theorem scanB_ans (s : ByteArray) (h : s.size ≤ 200) (hr : rightS s = true) : scanB s = ansB s 0 (bOut []) := by
  unfold scanB ansB
  rw [if_neg (by omega), if_neg (by rw [hr]; simp), List.drop_zero]
  rfl
theorem scanB_long (s : ByteArray) (h : 200 < s.size) : scanB s = ([], 4) := if_pos h
theorem scanB_not (s : ByteArray) (h : s.size ≤ 200) (hr : rightS s = false) : scanB s = ([], 5) := by
  unfold scanB
  rw [if_neg (by omega), if_pos hr]
end Go.Proofs.YtnhkpnohadbcdaaDoor
