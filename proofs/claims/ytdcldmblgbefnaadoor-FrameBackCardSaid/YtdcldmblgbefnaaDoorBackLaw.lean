/- The plain law of messages that are put and fed byte by byte. No conditions. -/
import Derived.Test.YtdcldmblgbefnaaDoorProg
import Derived.WalkKit
import Derived.WalkSpells
import Derived.WalkLawsBesides
import Derived.Outline
import Derived.Deep.QuietTactic
import Derived.BigQuiet
import Derived.Handy
import Derived.Lib.Hide
import Derived.Test.YtdcldmblgbefnaaDoorStreamPlain
namespace Go.Proofs.YtdcldmblgbefnaaDoor
open Go.RowKit
/-- A message's bytes. -/
def putM (m : Int × List UInt8) : List UInt8 := fpOut m.1 m.2
/-- A message that a stream takes. -/
def LG (m : Int × List UInt8) : Prop := fpE m.1 m.2.length = 0 ∧ leastOf m.1 ≤ 19 + (m.2.length : Int) ∧ (m.1 = 4 → m.2.length = 0)
theorem LG.parts {m : Int × List UInt8} (h : LG m) : (m.1 = 1 ∨ m.1 = 2 ∨ m.1 = 3 ∨ m.1 = 4) ∧ m.2.length ≤ 4077 ∧ putM m = List.replicate 16 255 ++ b16 (19 + (m.2.length : Int)) ++ [ub (m.1 % 256)] ++ m.2 := by
  obtain ⟨h1, _, _⟩ := h
  unfold fpE at h1
  have h2 : leastOf m.1 ≠ 0 := fun e => by rw [if_pos e] at h1; omega
  rw [if_neg h2] at h1
  have h3 : ¬ 4077 < m.2.length := fun e => by rw [if_pos e] at h1; omega
  refine ⟨?_, by omega, ?_⟩
  · unfold leastOf at h2
    by_cases e1 : m.1 = 1
    · exact .inl e1
    by_cases e2 : m.1 = 2
    · exact .inr (.inl e2)
    by_cases e3 : m.1 = 3
    · exact .inr (.inr (.inl e3))
    by_cases e4 : m.1 = 4
    · exact .inr (.inr (.inr e4))
    · rw [if_neg e1, if_neg e2, if_neg e3, if_neg e4] at h2; exact absurd rfl h2
  · unfold putM fpOut
    rw [if_neg (by rintro (e | e); exact h2 e; exact h3 e)]
theorem LG.len {m : Int × List UInt8} (h : LG m) : (putM m).length = 19 + m.2.length := by
  rw [h.parts.2.2]
  simp [b16]
  omega
theorem lb_app_l {l l' : List UInt8} {k : Nat} (h : k < l.length) : lb (l ++ l') k = lb l k := by
  unfold lb
  rw [List.getElem?_append_left h]
theorem lb_app_r {l l' : List UInt8} {k : Nat} (h : l.length ≤ k) : lb (l ++ l') k = lb l' (k - l.length) := by
  unfold lb
  rw [List.getElem?_append_right h]
theorem LG.head {m : Int × List UInt8} (h : LG m) : headR (putM m) = (19 + (m.2.length : Int), m.1, 0, 0, []) := by
  obtain ⟨h1, h2, h3⟩ := h.parts
  obtain ⟨_, h4, h5⟩ := h
  have e0 : ∀ i, i < 16 → lb (putM m) i = 255 := by
    intro i hi
    rw [h3, lb_app_l (by simp [b16]; omega), lb_app_l (by simp [b16]; omega), lb_app_l (by simp; omega)]
    unfold lb
    rw [List.getElem?_replicate, if_pos hi]
    rfl
  have eN : hdN (putM m) = 19 + (m.2.length : Int) := by
    have e16 : lb (putM m) 16 = (ub ((19 + (m.2.length : Int)) % 65536 / 256)).toNat := by
      rw [h3, lb_app_l (by simp [b16]), lb_app_l (by simp [b16]), lb_app_r (by simp)]
      simp [lb, b16]
    have e17 : lb (putM m) 17 = (ub ((19 + (m.2.length : Int)) % 256)).toNat := by
      rw [h3, lb_app_l (by simp [b16]), lb_app_l (by simp [b16]), lb_app_r (by simp)]
      simp [lb, b16]
    have u1 := ub_toNat (e := (19 + (m.2.length : Int)) % 65536 / 256) (by omega) (by omega)
    have u2 := ub_toNat (e := (19 + (m.2.length : Int)) % 256) (by omega) (by omega)
    unfold hdN
    rw [e16, e17, u1, u2]
    omega
  have eK : hdK (putM m) = m.1 := by
    have e18 : lb (putM m) 18 = (ub (m.1 % 256)).toNat := by
      rw [h3, lb_app_l (by simp [b16]), lb_app_r (by simp [b16])]
      simp [lb, b16]
    have u := ub_toNat (e := m.1 % 256) (by omega) (by omega)
    unfold hdK
    rw [e18, u]
    omega
  have eM : hdMark (putM m) = true := (hdMark_iff _).2 e0
  unfold headR
  rw [eM, eN, eK, if_neg (by simp), if_neg (by omega), if_neg (by rcases h1 with e | e | e | e <;> rw [e] <;> decide), if_neg]
  rintro (e | ⟨e, e'⟩)
  · omega
  · rw [e] at e'
    have := h5 e
    rw [this] at e'
    exact e' rfl
theorem LG.next {m : Int × List UInt8} (h : LG m) : nextR (putM m) = (m.1, m.2, 19 + (m.2.length : Int), 0, 0, []) := by
  have hl := h.len
  have hh := h.head
  unfold nextR
  rw [hh, if_neg (by omega), if_neg (by simp; omega)]
  have e : (putM m).drop 19 = m.2 := by
    rw [h.parts.2.2, List.drop_append]
    simp [b16]
  simp only [e]
  rw [List.take_of_length_le (by omega)]
theorem LG.part {m : Int × List UInt8} (h : LG m) {j : Nat} (hj : j < 19 + m.2.length) : (nextR ((putM m).take j)).2.2.2.1 = 0 ∧ (nextR ((putM m).take j)).2.2.1 = 0 := by
  have hl := h.len
  by_cases h19 : j < 19
  · have e : ((putM m).take j).length < 19 := by rw [List.length_take]; omega
    unfold nextR
    rw [if_pos e]
    exact ⟨rfl, rfl⟩
  · have e : headR ((putM m).take j) = headR (putM m) := by
      rw [← headR_append ((putM m).drop j) (by rw [List.length_take]; omega), List.take_append_drop]
    unfold nextR
    rw [e, h.head, if_neg (by rw [List.length_take]; omega), if_pos (.inr (by rw [List.length_take]; simp only; omega))]
    exact ⟨rfl, rfl⟩
/-- Of the messages ms, y lies in the stream, and the bytes r are still to be fed. -/
def BK (ms : List (Int × List UInt8)) (y r : List UInt8) : Prop := (∀ m ∈ ms, LG m) ∧ y ++ r = ms.flatMap putM ∧ ∀ m ∈ ms.head?, y.length < (putM m).length
theorem BK.start {ms : List (Int × List UInt8)} (h : ∀ m ∈ ms, LG m) : BK ms [] (ms.flatMap putM) := by
  refine ⟨h, rfl, fun m hm => ?_⟩
  rw [(h m (List.mem_of_mem_head? hm)).len, List.length_nil]
  omega
theorem BK.fin {ms : List (Int × List UInt8)} {y : List UInt8} (h : BK ms y []) : ms = [] ∧ y = [] := by
  obtain ⟨h1, h2, h3⟩ := h
  match ms with
  | [] => exact ⟨rfl, by simpa using h2⟩
  | m :: ms =>
    have := h3 m (by simp)
    have e := congrArg List.length h2
    simp at e
    omega
theorem BK.step {ms : List (Int × List UInt8)} {y r : List UInt8} {b : UInt8} (h : BK ms y (b :: r)) :
    (∃ m ms', ms = m :: ms' ∧ nextR (y ++ [b]) = (m.1, m.2, 19 + (m.2.length : Int), 0, 0, []) ∧ (y ++ [b]).length = 19 + m.2.length ∧ BK ms' [] r) ∨
    ((nextR (y ++ [b])).2.2.2.1 = 0 ∧ (nextR (y ++ [b])).2.2.1 = 0 ∧ BK ms (y ++ [b]) r) := by
  obtain ⟨h1, h2, h3⟩ := h
  match ms with
  | [] => simp at h2
  | m :: ms =>
    have hm := h1 m (by simp)
    have hl := hm.len
    have hy : y.length < (putM m).length := h3 m (by simp)
    have e : y ++ [b] ++ r = putM m ++ ms.flatMap putM := by rw [List.append_assoc]; simpa using h2
    have ht : y ++ [b] = (putM m).take (y.length + 1) := by
      have := congrArg (List.take (y.length + 1)) e
      rw [List.take_append_of_le_length (by simp), List.take_of_length_le (by simp), List.take_append_of_le_length (by omega)] at this
      exact this
    by_cases hw : y.length + 1 = (putM m).length
    · left
      rw [hw, List.take_of_length_le (Nat.le_refl _)] at ht
      refine ⟨m, ms, rfl, by rw [ht, hm.next], by rw [ht, hl], fun m' hm' => h1 m' (by simp [hm']), ?_, fun m' hm' => ?_⟩
      · rw [ht] at e
        exact List.append_cancel_left e
      · rw [(h1 m' (List.mem_cons_of_mem _ (List.mem_of_mem_head? hm'))).len, List.length_nil]
        omega
    · right
      have hp := hm.part (j := y.length + 1) (by omega)
      rw [← ht] at hp
      refine ⟨hp.1, hp.2, h1, by simpa using h2, fun m' hm' => ?_⟩
      have : m' = m := by simpa using hm'.symm
      subst this
      simp
      omega
end Go.Proofs.YtdcldmblgbefnaaDoor
