/- The plain law of a stream that is fed in pieces. No conditions. -/
import Derived.Test.YtdcldmblgbefnaaDoorProg
import Derived.WalkKit
import Derived.WalkSpells
import Derived.WalkLawsBesides
import Derived.Outline
import Derived.Deep.QuietTactic
import Derived.BigQuiet
import Derived.Handy
import Derived.Lib.Hide
import Derived.Test.YtdcldmblgbefnaaDoorStreamPlain
import Derived.Test.YtdcldmblgbefnaaDoorStream
namespace Go.Proofs.YtdcldmblgbefnaaDoor
open Go.RowKit
theorem allR_fuel : ∀ (k k' : Nat) (l : List UInt8), l.length < 19 * k → l.length < 19 * k' → allR k l = allR k' l := by
  intro k
  induction k with
  | zero => intro k' l h; omega
  | succ k ih =>
    intro k' l h h'
    match k' with
    | 0 => omega
    | k' + 1 =>
      unfold allR
      split
      · rfl
      · split
        · rfl
        · rename_i h1 h2
          have hc : 19 ≤ (nextR l).2.2.1 ∧ (nextR l).2.2.1 ≤ l.length := by
            rcases nextR_cases l with h3 | h3 | h3
            · exact absurd h3.1 h1
            · exact absurd h3.2 h2
            · exact h3.2
          rw [ih k' (l.drop (nextR l).2.2.1.toNat) (by rw [List.length_drop]; omega) (by rw [List.length_drop]; omega)]
/-- All messages of bytes; the fault; what is left. -/
def allF (l : List UInt8) : List (Int × List UInt8) × (Int × Int × List UInt8) × List UInt8 := allR (l.length + 1) l
theorem allF_fault {l : List UInt8} (h : (nextR l).2.2.2.1 ≠ 0) : allF l = ([], ((nextR l).2.2.2.1, (nextR l).2.2.2.2.1, (nextR l).2.2.2.2.2), []) := by
  unfold allF allR
  rw [if_pos h]
theorem allF_none {l : List UInt8} (h : (nextR l).2.2.2.1 = 0) (h' : (nextR l).2.2.1 = 0) : allF l = ([], (0, 0, []), l) := by
  unfold allF allR
  rw [if_neg (by simpa using h), if_pos h']
theorem allF_msg {l : List UInt8} (h' : (nextR l).2.2.1 ≠ 0) : allF l = (((nextR l).1, (nextR l).2.1) :: (allF (l.drop (nextR l).2.2.1.toNat)).1, (allF (l.drop (nextR l).2.2.1.toNat)).2) := by
  have hc : (nextR l).2.2.2.1 = 0 ∧ 19 ≤ (nextR l).2.2.1 ∧ (nextR l).2.2.1 ≤ l.length := by
    rcases nextR_cases l with h3 | h3 | h3
    · exact absurd h3.2 h'
    · exact absurd h3.2 h'
    · exact h3
  have e : allR l.length (l.drop (nextR l).2.2.1.toNat) = allF (l.drop (nextR l).2.2.1.toNat) := allR_fuel _ _ _ (by rw [List.length_drop]; omega) (by rw [List.length_drop]; omega)
  rw [← e]
  show allR (l.length + 1) l = _
  rw [allR, if_neg (by simpa using hc.1), if_neg h']
/-- What more bytes make of it. -/
theorem allF_append : ∀ (n : Nat) (p q : List UInt8), p.length ≤ n → allF (p ++ q) = if (allF p).2.1.1 ≠ 0 then allF p else ((allF p).1 ++ (allF ((allF p).2.2 ++ q)).1, (allF ((allF p).2.2 ++ q)).2) := by
  intro n
  induction n with
  | zero =>
    intro p q hp
    have : p = [] := List.eq_nil_of_length_eq_zero (by omega)
    subst this
    have h : allF [] = ([], (0, 0, []), []) := allF_none (by rw [nextR]; rfl) (by rw [nextR]; rfl)
    rw [h]
    simp
  | succ n ih =>
    intro p q hp
    by_cases h1 : (nextR p).2.2.2.1 ≠ 0
    · rw [allF_fault h1, if_pos h1, allF_fault (by rw [nextR_fault_append q h1]; exact h1), nextR_fault_append q h1]
    · have h1 : (nextR p).2.2.2.1 = 0 := Classical.byContradiction h1
      by_cases h2 : (nextR p).2.2.1 = 0
      · rw [allF_none h1 h2, if_neg (by simp)]
        simp
      · have hc : 19 ≤ (nextR p).2.2.1 ∧ (nextR p).2.2.1 ≤ p.length := by
          rcases nextR_cases p with h3 | h3 | h3
          · exact absurd h3.2 h2
          · exact absurd h3.2 h2
          · exact h3.2
        have e := nextR_msg_append q h2
        rw [allF_msg (l := p ++ q) (by rw [e]; exact h2), e, List.drop_append_of_le_length (by omega), ih (p.drop (nextR p).2.2.1.toNat) q (by rw [List.length_drop]; omega), allF_msg h2]
        simp only
        split
        · rfl
        · rfl
/-- What a stream still hands out. -/
def stillF (y : List UInt8) (f : Int × Int × List UInt8) : List (Int × List UInt8) × (Int × Int × List UInt8) × List UInt8 := if f.1 = 0 then allF y else ([], f, [])
/-- A stream that was fed p has handed out gs, and holds y, with the fault f. -/
def FST (p : List UInt8) (gs : List (Int × List UInt8)) (y : List UInt8) (f : Int × Int × List UInt8) : Prop := allF p = (gs ++ (stillF y f).1, (stillF y f).2) ∧ (f.1 = 0 → f = (0, 0, [])) ∧ (f.1 ≠ 0 → y = [])
/-- Nothing comes out of it now. -/
def FSE (y : List UInt8) (f : Int × Int × List UInt8) : Prop := f.1 ≠ 0 ∨ ((nextR y).2.2.2.1 = 0 ∧ (nextR y).2.2.1 = 0)
theorem FST.start : FST [] [] [] (0, 0, []) := by
  have h : allF [] = ([], (0, 0, []), []) := allF_none (by rw [nextR]; rfl) (by rw [nextR]; rfl)
  refine ⟨by simp [stillF], fun _ => rfl, fun h => absurd rfl h⟩
theorem FSE.start : FSE [] (0, 0, []) := .inr ⟨by rw [nextR]; rfl, by rw [nextR]; rfl⟩
theorem FST.ends {p : List UInt8} {gs : List (Int × List UInt8)} {y : List UInt8} {f : Int × Int × List UInt8} (h : FST p gs y f) (e : FSE y f) : allF p = (gs, f, y) := by
  obtain ⟨h1, h2, h3⟩ := h
  rw [h1, stillF]
  by_cases hf : f.1 = 0
  · rw [if_pos hf]
    rcases e with e | e
    · exact absurd hf e
    · rw [allF_none e.1 e.2, h2 hf]; simp
  · rw [if_neg hf, h3 hf]; simp
theorem FST.feed {p : List UInt8} {gs : List (Int × List UInt8)} {y : List UInt8} {S : Int} {D : List UInt8} (h : FST p gs y (0, S, D)) (e : FSE y (0, S, D)) (q : List UInt8) : FST (p ++ q) gs (y ++ q) (0, S, D) := by
  have he := h.ends e
  obtain ⟨h1, h2, h3⟩ := h
  refine ⟨?_, h2, fun hh => absurd rfl hh⟩
  rw [allF_append _ p q (Nat.le_refl _), he, if_neg (by simp), stillF, if_pos rfl]
theorem FST.feedNot {p : List UInt8} {gs : List (Int × List UInt8)} {y : List UInt8} {f : Int × Int × List UInt8} (h : FST p gs y f) (hf : f.1 ≠ 0) (q : List UInt8) : FST (p ++ q) gs y f := by
  have he := h.ends (.inl hf)
  obtain ⟨h1, h2, h3⟩ := h
  refine ⟨?_, h2, h3⟩
  rw [allF_append _ p q (Nat.le_refl _), he, if_pos hf, stillF, if_neg hf, h3 hf]
  simp
theorem FST.msg {p : List UInt8} {gs : List (Int × List UInt8)} {y : List UInt8} {S : Int} {D : List UInt8} (h : FST p gs y (0, S, D)) (hm : (nextR y).2.2.1 ≠ 0) : FST p (gs ++ [((nextR y).1, (nextR y).2.1)]) (y.drop (nextR y).2.2.1.toNat) (0, S, D) := by
  obtain ⟨h1, h2, h3⟩ := h
  refine ⟨?_, h2, fun hh => absurd rfl hh⟩
  rw [h1, stillF, if_pos rfl, stillF, if_pos rfl, allF_msg hm]
  simp
theorem FST.fault {p : List UInt8} {gs : List (Int × List UInt8)} {y : List UInt8} {S : Int} {D : List UInt8} (h : FST p gs y (0, S, D)) (hm : (nextR y).2.2.2.1 ≠ 0) : FST p gs [] ((nextR y).2.2.2.1, (nextR y).2.2.2.2.1, (nextR y).2.2.2.2.2) := by
  obtain ⟨h1, h2, h3⟩ := h
  refine ⟨?_, fun hh => absurd hh hm, fun _ => rfl⟩
  rw [h1, stillF, if_pos rfl, stillF, if_neg hm, allF_fault hm]
end Go.Proofs.YtdcldmblgbefnaaDoor
