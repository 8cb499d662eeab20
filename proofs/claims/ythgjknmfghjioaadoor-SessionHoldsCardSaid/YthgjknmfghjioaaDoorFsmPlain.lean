/- The plain law of layer 21: the table as numbers, the document's rows as texts, and that both say the same. No program in sight. No conditions. -/
import Derived.Below
namespace Go.Proofs.YthgjknmfghjioaaDoor
/-- The table: next state and deeds, by state and event. -/
def fsmTbl : List (List (Nat × Nat)) := [[(1, 129), (0, 0), (0, 2), (0, 0), (0, 0), (0, 0), (0, 0), (0, 0), (0, 0), (0, 0), (0, 0), (0, 0), (0, 0), (0, 0), (0, 0), (0, 0)], [(1, 0), (0, 2050), (3, 2308), (2, 128), (1, 129), (0, 2050), (0, 2050), (0, 2050), (0, 2050), (0, 2050), (0, 2050), (0, 2050), (0, 2050), (0, 2050), (0, 2050), (0, 2050)], [(2, 0), (0, 2050), (3, 2308), (0, 2050), (1, 129), (0, 2050), (0, 2050), (0, 2050), (0, 2050), (0, 2050), (0, 2050), (0, 2050), (0, 2050), (0, 2050), (0, 2050), (0, 2050)], [(3, 0), (0, 2066), (3, 0), (2, 2176), (0, 2066), (0, 2066), (0, 2066), (4, 1544), (0, 2066), (0, 2066), (0, 2066), (0, 2050), (0, 2066), (0, 2066), (0, 2066), (0, 2066)], [(4, 0), (0, 2066), (4, 0), (0, 2048), (0, 2066), (0, 2066), (4, 1032), (0, 2066), (0, 2066), (0, 2066), (0, 2066), (0, 2050), (5, 544), (0, 2066), (0, 2066), (0, 2066)], [(5, 0), (0, 2130), (5, 0), (0, 2112), (0, 2130), (0, 2130), (5, 1032), (0, 2130), (0, 2130), (0, 2130), (0, 2130), (0, 2114), (5, 512), (5, 512), (0, 2130), (0, 2130)]]
def fsmCell (s e : Nat) : Nat × Nat := ((fsmTbl[s]?).getD [])[e]?.getD (0, 0)
/-- Step: what both answer. -/
def fsmTo (s e : Int) : Int := if 0 ≤ s ∧ s < 6 ∧ 0 ≤ e ∧ e < 16 then ((fsmCell s.toNat e.toNat).1 : Int) else 0
def fsmDo (s e : Int) : Int := if 0 ≤ s ∧ s < 6 ∧ 0 ≤ e ∧ e < 16 then ((fsmCell s.toNat e.toNat).2 : Int) else 0
theorem fsmTo_in (s e : Nat) (h : s < 6) (he : e < 16) : fsmTo s e = ((fsmCell s e).1 : Int) := by
  unfold fsmTo; rw [if_pos (by omega)]; simp
theorem fsmDo_in (s e : Nat) (h : s < 6) (he : e < 16) : fsmDo s e = ((fsmCell s e).2 : Int) := by
  unfold fsmDo; rw [if_pos (by omega)]; simp
theorem fsmTo_out (s e : Int) (h : ¬ (0 ≤ s ∧ s < 6 ∧ 0 ≤ e ∧ e < 16)) : fsmTo s e = 0 := by unfold fsmTo; rw [if_neg h]
theorem fsmDo_out (s e : Int) (h : ¬ (0 ≤ s ∧ s < 6 ∧ 0 ≤ e ∧ e < 16)) : fsmDo s e = 0 := by unfold fsmDo; rw [if_neg h]

/-- The document's rows, as bytes. -/
def refRow (n : Int) : List (List UInt8) := if n == 0 then [[49, 32, 68, 114], [49], [50], [51], [52], [53]] else if n == 1 then [[48], [48, 32, 72, 120], [48, 32, 72, 120], [48, 32, 78, 72, 120], [48, 32, 78, 72, 120], [48, 32, 78, 72, 120, 70]] else if n == 2 then [[48, 32, 72], [51, 32, 120, 79, 76], [51, 32, 120, 79, 76], [51], [52], [53]] else if n == 3 then [[48], [50, 32, 114], [48, 32, 72, 120], [50, 32, 120, 114], [48, 32, 120], [48, 32, 120, 70]] else if n == 4 then [[48], [49, 32, 68, 114], [49, 32, 68, 114], [48, 32, 78, 72, 120], [48, 32, 78, 72, 120], [48, 32, 78, 72, 120, 70]] else if n == 5 then [[48], [48, 32, 72, 120], [48, 32, 72, 120], [48, 32, 78, 72, 120], [48, 32, 78, 72, 120], [48, 32, 78, 72, 120, 70]] else if n == 6 then [[48], [48, 32, 72, 120], [48, 32, 72, 120], [48, 32, 78, 72, 120], [52, 32, 75, 107], [53, 32, 75, 107]] else if n == 7 then [[48], [48, 32, 72, 120], [48, 32, 72, 120], [52, 32, 75, 104, 107], [48, 32, 78, 72, 120], [48, 32, 78, 72, 120, 70]] else if n == 8 then [[48], [48, 32, 72, 120], [48, 32, 72, 120], [48, 32, 78, 72, 120], [48, 32, 78, 72, 120], [48, 32, 78, 72, 120, 70]] else if n == 9 then [[48], [48, 32, 72, 120], [48, 32, 72, 120], [48, 32, 78, 72, 120], [48, 32, 78, 72, 120], [48, 32, 78, 72, 120, 70]] else if n == 10 then [[48], [48, 32, 72, 120], [48, 32, 72, 120], [48, 32, 78, 72, 120], [48, 32, 78, 72, 120], [48, 32, 78, 72, 120, 70]] else if n == 11 then [[48], [48, 32, 72, 120], [48, 32, 72, 120], [48, 32, 72, 120], [48, 32, 72, 120], [48, 32, 72, 120, 70]] else if n == 12 then [[48], [48, 32, 72, 120], [48, 32, 72, 120], [48, 32, 78, 72, 120], [53, 32, 104, 82], [53, 32, 104]] else if n == 13 then [[48], [48, 32, 72, 120], [48, 32, 72, 120], [48, 32, 78, 72, 120], [48, 32, 78, 72, 120], [53, 32, 104]] else if n == 14 then [[48], [48, 32, 72, 120], [48, 32, 72, 120], [48, 32, 78, 72, 120], [48, 32, 78, 72, 120], [48, 32, 78, 72, 120, 70]] else if n == 15 then [[48], [48, 32, 72, 120], [48, 32, 72, 120], [48, 32, 78, 72, 120], [48, 32, 78, 72, 120], [48, 32, 78, 72, 120, 70]] else []
def refWord (s e : Nat) : List UInt8 := ((refRow e)[s]?).getD []
/-- A deed's bit. -/
def refBitF (n : Int) : Int := if n == 68 then 1 else if n == 72 then 2 else if n == 79 then 4 else if n == 75 then 8 else if n == 78 then 16 else if n == 82 then 32 else if n == 70 then 64 else if n == 114 then 128 else if n == 76 then 256 else if n == 104 then 512 else if n == 107 then 1024 else if n == 120 then 2048 else 0
def refSum (l : List UInt8) : Int := (l.map fun c => refBitF (c.toNat : Int)).sum
theorem refSum_snoc (l : List UInt8) (c : UInt8) : refSum (l ++ [c]) = refSum l + refBitF (c.toNat : Int) := by
  simp [refSum]
theorem refBit_le (c : Int) : 0 ≤ refBitF c ∧ refBitF c ≤ 2048 := by
  unfold refBitF; repeat' split
  all_goals omega
theorem refSum_le (l : List UInt8) : 0 ≤ refSum l ∧ refSum l ≤ l.length * 2048 := by
  induction l with
  | nil => simp [refSum]
  | cons c l ih => have := refBit_le (c.toNat : Int); simp only [refSum, List.map_cons, List.sum_cons, List.length_cons] at *; omega
/-- ROW BY ROW THE DOCUMENT'S TEXTS SAY THE TABLE. -/
theorem rows_say : ∀ s : Fin 6, ∀ e : Fin 16, refSum ((refWord s e).drop 1) = ((fsmCell s e).2 : Int) ∧ (refWord s e).head?.map (·.toNat) = some ((fsmCell s e).1 + 48) ∧ (refWord s e).length ≤ 8 := by decide +kernel
theorem rows_len : ∀ e : Fin 16, (refRow (e.val : Int)).length = 6 := by decide +kernel
theorem take_snocF (l : List UInt8) (k : Nat) (h : k < l.length) : l.take (k + 1) = l.take k ++ [l[k]] := List.take_succ_eq_append_getElem h
/-- The sum so far, ahead of place k. -/
def refAcc (s : ByteArray) (k : Nat) : Int := refSum ((s.data.toList.drop 1).take (k - 1))
theorem refAcc_one (s : ByteArray) : refAcc s 1 = 0 := by simp [refAcc, refSum]
theorem refAcc_end (s : ByteArray) : refAcc s s.size = refSum (s.data.toList.drop 1) := by
  have hl : s.data.toList.length = s.size := rfl
  unfold refAcc
  rw [List.take_of_length_le (by rw [List.length_drop]; omega)]
theorem refAcc_bd (s : ByteArray) (k : Nat) : 0 ≤ refAcc s k ∧ refAcc s k ≤ k * 2048 := by
  have h := refSum_le ((s.data.toList.drop 1).take (k - 1))
  have := List.length_take_le (k - 1) (s.data.toList.drop 1)
  unfold refAcc; omega
theorem refAcc_step (s : ByteArray) (k : Nat) (h1 : 1 ≤ k) (h : k < s.size) : refAcc s (k + 1) = refAcc s k + refBitF (s[k].toNat : Int) := by
  have hl : s.data.toList.length = s.size := rfl
  obtain ⟨j, rfl⟩ : ∃ j, k = j + 1 := ⟨k - 1, by omega⟩
  unfold refAcc
  rw [Nat.add_sub_cancel, Nat.add_sub_cancel, take_snocF _ j (by rw [List.length_drop]; omega), refSum_snoc]
  congr 3
  simp
  rfl
/-- A state's name. -/
def fsmNames : List (List UInt8) := [[105, 100, 108, 101], [99, 111, 110, 110, 101, 99, 116], [97, 99, 116, 105, 118, 101], [111, 112, 101, 110, 115, 101, 110, 116], [111, 112, 101, 110, 99, 111, 110, 102, 105, 114, 109], [101, 115, 116, 97, 98, 108, 105, 115, 104, 101, 100]]
def fsmName (s : Int) : ByteArray := ⟨(if 0 ≤ s ∧ s < 6 then fsmNames[s.toNat]?.getD [] else []).toArray⟩
end Go.Proofs.YthgjknmfghjioaaDoor
