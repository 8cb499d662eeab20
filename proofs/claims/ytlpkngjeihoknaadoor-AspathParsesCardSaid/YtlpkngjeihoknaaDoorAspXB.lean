/- Plain law of layer 3 (paths): what the rounds of the document's Parse keep. No conditions. -/
import Derived.Test.YtlpkngjeihoknaaDoorAspX
namespace Go.Proofs.YtlpkngjeihoknaaDoor
open Go.RowKit
set_option linter.unusedVariables false
set_option linter.unusedSimpArgs false
def refs (l : List UInt8) : Option (List Seg) := piecesP (l.length + 1) true l
def postO (k : Int) (o : Option (List Int × List UInt8)) : Option (Seg × List UInt8) := match o with
  | none => none
  | some p => if k = 1 then (if p.2.head? = some 125 then some ((1, p.1), p.2.tail) else none) else some ((2, p.1), p.2)
def goO (f : Nat) (P : List Seg) (o : Option (Seg × List UInt8)) : Option (List Seg) := match o with
  | none => none
  | some p => (piecesP f false p.2).map fun Q => P ++ p.1 :: Q
def midO (k : Int) (f : Nat) (t : List UInt8) : Option (List Int × List UInt8) := if k = 1 then numsP f t else (intO (t.takeWhile isD)).map fun v => ([v], t.dropWhile isD)
def Inv3 (l : List UInt8) (P : List Seg) (i : Nat) : Prop :=
  refs l = (piecesP (l.length + 1 - P.length) (decide (i = 0)) (l.drop i)).map (P ++ ·) ∧ P.length ≤ i ∧ sumN P ≤ i ∧ i ≤ l.length
def InvP (l : List UInt8) (P : List Seg) (i : Nat) : Prop := refs l = goO (l.length - P.length) P (pieceP (l.drop i)) ∧ P.length ≤ i ∧ sumN P ≤ i ∧ i ≤ l.length
def InvM (l : List UInt8) (P : List Seg) (k : Int) (acc : List Int) (more : Bool) (i : Nat) : Prop :=
  (k = 1 ∨ k = 2) ∧ P.length + (if more = true then 0 else 1) ≤ i ∧ sumN P + acc.length ≤ i ∧ i ≤ l.length ∧ (more = true → k = 2 → acc = []) ∧
  ∃ f, (more = true → l.length - i < f) ∧ refs l = goO (l.length - P.length) P (postO k (if more = true then (midO k f (l.drop i)).map (fun p => (acc ++ p.1, p.2)) else some (acc, l.drop i)))
theorem Inv3.start (l : List UInt8) : Inv3 l [] 0 := by
  refine ⟨?_, Nat.le_refl _, Nat.le_refl _, Nat.zero_le _⟩
  unfold refs
  simp
theorem dropNe {l : List UInt8} {i : Nat} (h : i < l.length) : l.drop i ≠ [] := fun e => by
  have := List.drop_eq_nil_iff.1 e
  omega
theorem Inv3.sep {l : List UInt8} {P : List Seg} {i : Nat} (h : Inv3 l P i) (hi : i < l.length) (h0 : 0 < i) (hs : (l.drop i).head? ≠ some 32) : refs l = none := by
  obtain ⟨h1, h2, h3, h4⟩ := h
  rw [h1, show l.length + 1 - P.length = (l.length - P.length) + 1 by omega, piecesP, if_neg (dropNe hi), if_pos ⟨decide_eq_false (by omega), hs⟩]
  rfl
theorem Inv3.piece0 {l : List UInt8} {P : List Seg} {i : Nat} (h : Inv3 l P i) (hi : i < l.length) (h0 : i = 0) : InvP l P i := by
  obtain ⟨h1, h2, h3, h4⟩ := h
  subst h0
  refine ⟨?_, h2, h3, h4⟩
  rw [h1, show l.length + 1 - P.length = (l.length - P.length) + 1 by omega, piecesP, if_neg (dropNe hi), if_neg (by simp)]
  simp only [decide_true, if_true]
  rcases pieceP (l.drop 0) with _ | p
  · rfl
  · simp only [goO, Option.map_map]
    rfl
theorem Inv3.piece1 {l : List UInt8} {P : List Seg} {i : Nat} (h : Inv3 l P i) (hi : i < l.length) (h0 : 0 < i) (hs : (l.drop i).head? = some 32) : InvP l P (i + 1) := by
  obtain ⟨h1, h2, h3, h4⟩ := h
  refine ⟨?_, by omega, by omega, by omega⟩
  have hd : decide (i = 0) = false := decide_eq_false (by omega)
  rw [h1, show l.length + 1 - P.length = (l.length - P.length) + 1 by omega, piecesP, if_neg (dropNe hi), if_neg (by simp [hs]), hd]
  simp only [Bool.false_eq_true, if_false, List.tail_drop]
  rcases pieceP (l.drop (i + 1)) with _ | p
  · rfl
  · simp only [goO, Option.map_map]
    rfl
theorem InvP.set {l : List UInt8} {P : List Seg} {i : Nat} (h : InvP l P i) (hs : (l.drop i).head? = some 123) : InvM l P 1 [] true (i + 1) := by
  obtain ⟨h1, h2, h3, h4⟩ := h
  have hi : i < l.length := by
    rcases Nat.lt_or_ge i l.length with h | h
    · exact h
    · rw [List.drop_eq_nil_of_le h] at hs; cases hs
  refine ⟨.inl rfl, by simp; omega, by simp; omega, by omega, fun _ h => by simp at h, (l.drop i).length, fun _ => by rw [List.length_drop]; omega, ?_⟩
  rw [h1]
  unfold pieceP midO postO
  rw [if_pos hs, List.tail_drop]
  simp only [if_true]
  rcases numsP (l.drop i).length (l.drop (i + 1)) with _ | ⟨zs, r⟩
  · rfl
  · simp
theorem InvP.seq {l : List UInt8} {P : List Seg} {i : Nat} (h : InvP l P i) (hs : (l.drop i).head? ≠ some 123) : InvM l P 2 [] true i := by
  obtain ⟨h1, h2, h3, h4⟩ := h
  refine ⟨.inr rfl, by simp; omega, by simp; omega, h4, fun _ _ => rfl, l.length + 1, fun _ => by omega, ?_⟩
  rw [h1]
  unfold pieceP midO postO
  rw [if_neg hs]
  have e : ¬ ((2 : Int) = 1) := by decide
  simp only [if_true, if_neg e]
  rcases intO ((l.drop i).takeWhile isD) with _ | v
  · rfl
  · simp
theorem InvM.bad {l : List UInt8} {P : List Seg} {k : Int} {acc : List Int} {i : Nat} (h : InvM l P k acc true i) (hn : intO ((l.drop i).takeWhile isD) = none) : refs l = none := by
  obtain ⟨_, _, _, _, _, f, hf, h1⟩ := h
  obtain ⟨g, rfl⟩ : ∃ g, f = g + 1 := ⟨f - 1, by have := hf rfl; omega⟩
  have e : midO k (g + 1) (l.drop i) = none := by
    unfold midO
    split
    · rw [numsP, hn]
    · rw [hn]; rfl
  rw [h1, if_pos rfl, e]
  rfl
theorem InvM.more {l : List UInt8} {P : List Seg} {acc : List Int} {i j : Nat} {v : Int} (h : InvM l P 1 acc true i) (hv : intO ((l.drop i).takeWhile isD) = some v) (hd : (l.drop i).dropWhile isD = l.drop j) (hij : i < j) (hs : (l.drop j).head? = some 44) : InvM l P 1 (acc ++ [v]) true (j + 1) := by
  obtain ⟨_, h2, h3, h4, _, f, hf, h1⟩ := h
  obtain ⟨g, rfl⟩ : ∃ g, f = g + 1 := ⟨f - 1, by have := hf rfl; omega⟩
  have hj : j < l.length := by
    rcases Nat.lt_or_ge j l.length with h | h
    · exact h
    · rw [List.drop_eq_nil_of_le h] at hs; cases hs
  refine ⟨.inl rfl, by simp at h2 ⊢; omega, by simp; omega, by omega, fun _ h => by simp at h, g, fun _ => by have := hf rfl; omega, ?_⟩
  have e : midO 1 (g + 1) (l.drop i) = (midO 1 g (l.drop (j + 1))).map fun p => (v :: p.1, p.2) := by
    unfold midO
    rw [if_pos rfl, if_pos rfl, numsP, hv]
    simp only
    rw [hd, if_pos hs, List.tail_drop]
  rw [h1, if_pos rfl, if_pos rfl, e, Option.map_map]
  congr 2
  congr 1
  funext p
  simp
theorem InvM.last {l : List UInt8} {P : List Seg} {k : Int} {acc : List Int} {i j : Nat} {v : Int} (h : InvM l P k acc true i) (hv : intO ((l.drop i).takeWhile isD) = some v) (hd : (l.drop i).dropWhile isD = l.drop j) (hij : i < j) (hj : j ≤ l.length) (hs : k = 2 ∨ (l.drop j).head? ≠ some 44) : InvM l P k (acc ++ [v]) false j := by
  obtain ⟨hk, h2, h3, h4, h5, f, hf, h1⟩ := h
  obtain ⟨g, rfl⟩ : ∃ g, f = g + 1 := ⟨f - 1, by have := hf rfl; omega⟩
  refine ⟨hk, by simp at h2 ⊢; omega, by simp; omega, hj, (fun h => by cases h), 0, (fun h => by cases h), ?_⟩
  have e : midO k (g + 1) (l.drop i) = some ([v], l.drop j) := by
    unfold midO
    rcases hk with rfl | rfl
    · rw [if_pos rfl, numsP, hv]
      simp only
      rw [hd, if_neg (by rcases hs with h | h; simp at h; exact h)]
    · rw [if_neg (by decide), hv, hd]; rfl
  rw [h1, if_pos rfl, e, if_neg (by simp)]
  rfl
theorem InvM.open_ {l : List UInt8} {P : List Seg} {acc : List Int} {i : Nat} (h : InvM l P 1 acc false i) (hs : (l.drop i).head? ≠ some 125) : refs l = none := by
  obtain ⟨_, _, _, _, _, f, hf, h1⟩ := h
  rw [h1, if_neg (by simp)]
  unfold postO
  simp only [if_true]
  rw [if_neg hs]
  rfl
theorem InvM.close {l : List UInt8} {P : List Seg} {acc : List Int} {i : Nat} (h : InvM l P 1 acc false i) (hs : (l.drop i).head? = some 125) : Inv3 l (P ++ [(1, acc)]) (i + 1) := by
  obtain ⟨_, h2, h3, h4, _, f, hf, h1⟩ := h
  have hi : i < l.length := by
    rcases Nat.lt_or_ge i l.length with h | h
    · exact h
    · rw [List.drop_eq_nil_of_le h] at hs; cases hs
  simp only [Bool.false_eq_true, if_false] at h2
  refine ⟨?_, by simp; omega, by rw [sumN_app]; simp [sumN]; omega, by omega⟩
  rw [h1, if_neg (by simp)]
  unfold postO goO
  simp only [if_true]
  rw [if_pos hs, List.tail_drop]
  simp only [List.length_append, List.length_cons, List.length_nil]
  rw [show l.length + 1 - (P.length + (0 + 1)) = l.length - P.length by omega, show decide (i + 1 = 0) = false from decide_eq_false (by omega)]
  congr 1
  funext Q
  simp
theorem InvM.done {l : List UInt8} {P : List Seg} {acc : List Int} {i : Nat} (h : InvM l P 2 acc false i) : Inv3 l (P ++ [(2, acc)]) i := by
  obtain ⟨_, h2, h3, h4, _, f, hf, h1⟩ := h
  simp only [Bool.false_eq_true, if_false] at h2
  refine ⟨?_, by simp; omega, by rw [sumN_app]; simp [sumN]; omega, h4⟩
  rw [h1, if_neg (by simp)]
  unfold postO goO
  have e : ¬ ((2 : Int) = 1) := by decide
  simp only [if_neg e, List.length_append, List.length_cons, List.length_nil]
  rw [show l.length + 1 - (P.length + (0 + 1)) = l.length - P.length by omega, show decide (i = 0) = false from decide_eq_false (by omega)]
  congr 1
  funext Q
  simp
theorem Inv3.fin {l : List UInt8} {P : List Seg} {i : Nat} (h : Inv3 l P i) (hi : ¬ i < l.length) : refs l = some P := by
  obtain ⟨h1, h2, h3, h4⟩ := h
  rw [h1, show l.length + 1 - P.length = (l.length - P.length) + 1 by omega, piecesP, if_pos (List.drop_eq_nil_of_le (by omega))]
  simp
/-- What the round over digits keeps. -/
def DInv (l : List UInt8) (a j : Nat) : Prop := a ≤ j ∧ j ≤ l.length ∧ (l.drop a).takeWhile isD = (l.take j).drop a ++ (l.drop j).takeWhile isD ∧ (l.drop a).dropWhile isD = (l.drop j).dropWhile isD
theorem DInv.start {l : List UInt8} {a : Nat} (h : a ≤ l.length) : DInv l a a := by
  refine ⟨Nat.le_refl _, h, ?_, rfl⟩
  have e : (l.take a).drop a = [] := List.drop_eq_nil_of_le (by rw [List.length_take]; exact Nat.min_le_left _ _)
  rw [e, List.nil_append]
theorem DInv.step {l : List UInt8} {a j : Nat} (h : DInv l a j) (hj : j < l.length) (hd : isD l[j] = true) : DInv l a (j + 1) := by
  obtain ⟨h1, h2, h3, h4⟩ := h
  refine ⟨by omega, by omega, ?_, ?_⟩
  · rw [h3, List.drop_eq_getElem_cons hj, List.takeWhile_cons, if_pos hd, List.take_succ_eq_append_getElem hj, List.drop_append_of_le_length (by rw [List.length_take]; omega)]
    simp
  · rw [h4, List.drop_eq_getElem_cons hj, List.dropWhile_cons, if_pos hd]
theorem DInv.stop {l : List UInt8} {a j : Nat} (h : DInv l a j) (hd : nonD (l.drop j)) : (l.drop a).takeWhile isD = (l.take j).drop a ∧ (l.drop a).dropWhile isD = l.drop j := by
  obtain ⟨h1, h2, h3, h4⟩ := h
  obtain ⟨t1, t2⟩ := take_nonD hd
  rw [h3, h4, t1, t2, List.append_nil]
  exact ⟨rfl, rfl⟩
theorem DInv.lt {l : List UInt8} {a j : Nat} {v : Int} (h : DInv l a j) (hv : intO ((l.take j).drop a) = some v) : a < j := by
  rcases Nat.lt_or_ge a j with h1 | h1
  · exact h1
  · rw [List.drop_eq_nil_of_le (by rw [List.length_take]; omega), intO_nil] at hv
    cases hv
theorem refP_none {l : List UInt8} (h : refs l = none) : refP l = ([], false) := by unfold refP; rw [show piecesP (l.length + 1) true l = none from h]
theorem refP_yes {l : List UInt8} {P : List Seg} (h : refs l = some P) (hr : rightA (normA P) = true) : refP l = (normA P, true) := by unfold refP; rw [show piecesP (l.length + 1) true l = some P from h]; simp only; rw [if_pos hr]
theorem refP_no {l : List UInt8} {P : List Seg} (h : refs l = some P) (hr : rightA (normA P) = false) : refP l = ([], false) := by unfold refP; rw [show piecesP (l.length + 1) true l = some P from h]; simp only; rw [if_neg (by rw [hr]; simp)]
/-- The byte at a place of a text. -/
theorem headB (s : ByteArray) (i x : Nat) (h : i < s.size) (hx : (s[i]'h).toNat = x) : (s.data.toList.drop i).head? = some (UInt8.ofNat x) ∧ x < 256 := by
  have hl : i < s.data.toList.length := h
  refine ⟨?_, by rw [← hx]; exact UInt8.toNat_lt _⟩
  rw [List.head?_drop, List.getElem?_eq_getElem hl, ← hx]
  simp [ByteArray.getElem_eq_getElem_data]
theorem ofNat_ne {x c : Nat} (hx : x < 256) (hc : c < 256) (h : x ≠ c) : some (UInt8.ofNat x) ≠ some (UInt8.ofNat c) := by
  intro e
  injection e with e
  have := congrArg UInt8.toNat e
  simp only [UInt8.toNat_ofNat'] at this
  omega
theorem head_end (l : List UInt8) (i : Nat) (h : ¬ i < l.length) (c : UInt8) : (l.drop i).head? ≠ some c := by
  rw [List.drop_eq_nil_of_le (by omega)]
  simp
theorem isD_nat {x : Nat} (hx : x < 256) : isD (UInt8.ofNat x) = decide (48 ≤ x ∧ x ≤ 57) := by
  unfold isD
  rw [UInt8.toNat_ofNat', Nat.mod_eq_of_lt (by omega)]
theorem getB (s : ByteArray) (i x : Nat) (h : i < s.size) (hx : (s[i]'h).toNat = x) : s.data.toList[i]'h = UInt8.ofNat x := by
  rw [← hx]
  simp [ByteArray.getElem_eq_getElem_data]
end Go.Proofs.YtlpkngjeihoknaaDoor
