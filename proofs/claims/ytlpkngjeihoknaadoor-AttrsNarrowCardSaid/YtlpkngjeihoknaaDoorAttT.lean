/- Plain law of layer 4 (attributes): sizes of a reading; a reading in steps. No conditions. -/
import Derived.Test.YtlpkngjeihoknaaDoorAttP
namespace Go.Proofs.YtlpkngjeihoknaaDoor
open Go.RowKit
set_option linter.unusedVariables false
set_option linter.unusedSimpArgs false
/-- Sizes of a reading on its way. -/
structure BdX (v : Gr) : Prop where
  path : rightA v.a.path = true ∨ v.a.path = []
  more : rightA v.more = true ∨ v.more = []
  raws : v.a.raws.length ≤ 8
  data : ∀ x ∈ v.a.raws, x.2.2.length ≤ 64
  comms : v.a.comms.length ≤ 32
  c8 : hasN v.kinds 8 = false → v.a.comms = []
  news : v.newAS.length ≤ 8
theorem readA_right {wide : Bool} {l : List UInt8} {M : List Seg} (h : readA wide l = some M) : rightA M = true := by
  unfold readA at h
  split at h
  · split at h
    · injection h with h; rw [← h]; assumption
    · cases h
  · cases h
theorem numsO_len (sz : Nat) : ∀ (n : Nat) (l : List UInt8) (p : List Int × List UInt8), numsO sz n l = some p → p.1.length = n
  | 0, l, p, h => by
    rw [numsO] at h
    injection h with h
    rw [← h]
    rfl
  | n + 1, l, p, h => by
    rw [numsO] at h
    split at h
    · cases h
    · obtain ⟨q, hq, rfl⟩ := Option.map_eq_some_iff.1 h
      have := numsO_len sz n _ q hq
      simp [this]
theorem commsA_len (l : List UInt8) : (commsA l).length ≤ l.length / 4 := by
  unfold commsA
  split
  · rename_i p hp
    exact Nat.le_of_eq (numsO_len _ _ _ _ hp)
  · simp
theorem rawPos_le' (l : List RawV) (k : Int) : rawPos l k ≤ l.length := rawPos_le l k
theorem insR_len (l : List RawV) (x : One) : (insR l x).length = l.length + 1 := by
  have := rawPos_le' l x.kind
  unfold insR
  simp
  omega
theorem BdX.g {v : Gr} (D : BdX v) (hk : 1 ≤ v.kinds.length) : BdG v := ⟨D.path, D.more, D.raws, by have := D.comms; omega, D.data⟩
theorem hasN_app {l : List Int} {k c : Int} : hasN (l ++ [k]) c = (hasN l c || decide (c = k)) := by
  unfold hasN
  by_cases h1 : c ∈ l <;> by_cases h2 : c = k <;> simp [h1, h2]
theorem BdX.push {v : Gr} (D : BdX v) (k : Int) : BdX { v with kinds := v.kinds ++ [k] } := ⟨D.path, D.more, D.raws, D.data, D.comms, fun h => D.c8 (by simp only at h; rw [hasN_app] at h; exact (Bool.or_eq_false_iff.1 h).1), D.news⟩
theorem unkA_bd {v v' : Gr} {x : One} (D : BdX v) (h : unkA v x = .ok v') : BdX v' ∧ v'.kinds = v.kinds := by
  unfold unkA at h
  by_cases c1 : optF x.fl = false
  · rw [if_pos c1] at h; cases h
  rw [if_neg c1] at h
  by_cases c2 : trF x.fl = false
  · rw [if_pos c2] at h; cases h; exact ⟨D, rfl⟩
  rw [if_neg c2] at h
  by_cases c3 : 64 < x.val.length ∨ 8 ≤ v.a.raws.length
  · rw [if_pos c3] at h; cases h
  rw [if_neg c3] at h
  cases h
  refine ⟨⟨D.path, D.more, ?_, ?_, D.comms, D.c8, D.news⟩, rfl⟩
  · simp only
    rw [insR_len]
    omega
  · simp only
    intro y hy
    unfold insR at hy
    simp only [List.mem_append, List.mem_singleton] at hy
    rcases hy with (hy | rfl) | hy
    · exact D.data y (List.mem_of_mem_take hy)
    · simp only; omega
    · exact D.data y (List.mem_of_mem_drop hy)
theorem knwA_bd {wide : Bool} {v v' : Gr} {x : One} (D : BdX v) (h8 : x.kind = 8 → hasN v.kinds 8 = true ∧ v.a.comms = []) (h : knwA wide v x = .ok v') : BdX v' := by
  unfold knwA at h
  by_cases c1 : x.kind = 1
  · rw [if_pos c1] at h
    by_cases c : 2 < numF 1 x.val
    · rw [if_pos c] at h; cases h
    · rw [if_neg c] at h; cases h; exact ⟨D.path, D.more, D.raws, D.data, D.comms, D.c8, D.news⟩
  rw [if_neg c1] at h
  by_cases c2 : x.kind = 2
  · rw [if_pos c2] at h
    cases hr : readA wide x.val with
    | none => rw [hr] at h; cases h
    | some l => rw [hr] at h; cases h; exact ⟨.inl (readA_right hr), D.more, D.raws, D.data, D.comms, D.c8, D.news⟩
  rw [if_neg c2] at h
  by_cases c3 : x.kind = 3
  · rw [if_pos c3] at h
    by_cases c : nextA (numF 4 x.val) = true
    · rw [if_pos c] at h; cases h; exact ⟨D.path, D.more, D.raws, D.data, D.comms, D.c8, D.news⟩
    · rw [if_neg c] at h; cases h
  rw [if_neg c3] at h
  by_cases c4 : x.kind = 4
  · rw [if_pos c4] at h; cases h; exact ⟨D.path, D.more, D.raws, D.data, D.comms, D.c8, D.news⟩
  rw [if_neg c4] at h
  by_cases c5 : x.kind = 5
  · rw [if_pos c5] at h; cases h; exact ⟨D.path, D.more, D.raws, D.data, D.comms, D.c8, D.news⟩
  rw [if_neg c5] at h
  by_cases c6 : x.kind = 6
  · rw [if_pos c6] at h; cases h; exact ⟨D.path, D.more, D.raws, D.data, D.comms, D.c8, D.news⟩
  rw [if_neg c6] at h
  by_cases c7 : x.kind = 7
  · rw [if_pos c7] at h; cases h; exact ⟨D.path, D.more, D.raws, D.data, D.comms, D.c8, D.news⟩
  rw [if_neg c7] at h
  by_cases c8 : x.kind = 8
  · rw [if_pos c8] at h
    by_cases c : 32 < x.val.length / 4
    · rw [if_pos c] at h; cases h
    · rw [if_neg c] at h
      cases h
      obtain ⟨h1, h2⟩ := h8 c8
      refine ⟨D.path, D.more, D.raws, D.data, ?_, fun h => ?_, D.news⟩
      · simp only
        rw [h2, List.nil_append]
        have := commsA_len x.val
        omega
      · simp only at h
        rw [h1] at h
        cases h
  rw [if_neg c8] at h
  by_cases c9 : x.kind = 17
  · rw [if_pos c9] at h
    cases h
    refine ⟨D.path, ?_, D.raws, D.data, D.comms, D.c8, D.news⟩
    simp only
    cases hr : readA true x.val with
    | none => exact .inr rfl
    | some l => exact .inl (readA_right hr)
  rw [if_neg c9] at h
  by_cases c10 : x.kind = 18
  · rw [if_pos c10] at h
    by_cases c : x.val.length = 8
    · rw [if_pos c] at h; cases h; exact ⟨D.path, D.more, D.raws, D.data, D.comms, D.c8, by simp only; omega⟩
    · rw [if_neg c] at h; cases h; exact D
  rw [if_neg c10] at h
  cases h
  exact D
/-- What a reading comes to. -/
def finA (wide : Bool) : Except FtA Gr → Except FtA (At × List Int)
  | .error e => .error e
  | .ok g => .ok (endA wide g, g.kinds)
theorem readAt_fin (b : List UInt8) (wide : Bool) : readAt b wide = finA wide (loopA wide b.length zeroGr b) := by
  unfold readAt finA
  split <;> simp_all
theorem loopA_step {wide : Bool} {f : Nat} {v : Gr} {t : List UInt8} (ht : t ≠ []) : loopA wide (f + 1) v t = match splitA t with
    | none => .error (1, [])
    | some (x, t') => match stepA wide v x with
      | .error e => .error e
      | .ok g' => loopA wide f g' t' := by
  cases t with
  | nil => exact absurd rfl ht
  | cons a r => rfl
theorem loopA_nil {wide : Bool} {f : Nat} {v : Gr} : loopA wide f v [] = .ok v := by cases f <;> rfl
theorem zero_bd : BdX zeroGr := ⟨.inr rfl, .inr rfl, by decide, (fun x h => by cases h), by decide, fun _ => rfl, by decide⟩
theorem sum_of {l : List Seg} (h : rightA l = true ∨ l = []) : sumN l ≤ 64 ∧ l.length ≤ 8 := by
  rcases h with h | rfl
  · exact (rightA_of h).2
  · exact ⟨by decide, by decide⟩
theorem mergeA_right {l m : List Seg} (h : rightA l = true ∨ l = []) : rightA (mergeA l m) = true ∨ mergeA l m = [] := by
  by_cases hc : m = [] ∨ rightA l = false ∨ rightA m = false ∨ countA l < countA m
  · rw [mergeA_no hc]; exact h
  · rw [mergeA_yes hc]
    split
    · left; assumption
    · exact h
end Go.Proofs.YtlpkngjeihoknaaDoor
