/- The plain law of hexadecimal digits: which bytes a text says. No program in sight. No conditions. -/
import Derived.Test.YtlpkngjeihoknaaDoorOctetB
namespace Go.Proofs.YtlpkngjeihoknaaDoor
open Go.RowKit
/-- Pair k of a text's letters: are both digits; which byte it says. -/
def pairOK (l : List UInt8) (k : Nat) : Bool := decide (valI (lb l (2 * k) : Int) ≤ 15) && decide (valI (lb l (2 * k + 1) : Int) ≤ 15)
def pairB (l : List UInt8) (k : Nat) : UInt8 := ub (16 * valI (lb l (2 * k) : Int) + valI (lb l (2 * k + 1) : Int))
def pairs (l : List UInt8) (k : Nat) : List UInt8 := (List.range k).map (pairB l)
theorem pairs_zero (l : List UInt8) : pairs l 0 = [] := rfl
theorem pairs_succ (l : List UInt8) (k : Nat) : pairs l (k + 1) = pairs l k ++ [pairB l k] := by simp [pairs, List.range_succ]
theorem pairs_length (l : List UInt8) (k : Nat) : (pairs l k).length = k := by simp [pairs]
/-- The bytes that a text says. -/
def unhexL (l : List UInt8) : Option (List UInt8) := if l.length % 2 = 0 ∧ ∀ k, k < l.length / 2 → pairOK l k = true then some (pairs l (l.length / 2)) else none
theorem unhexL_odd {l : List UInt8} (h : l.length % 2 ≠ 0) : unhexL l = none := by unfold unhexL; rw [if_neg (fun hh => h hh.1)]
theorem unhexL_bad {l : List UInt8} {k : Nat} (hk : k < l.length / 2) (h : pairOK l k = false) : unhexL l = none := by
  unfold unhexL; rw [if_neg (fun hh => by rw [hh.2 k hk] at h; cases h)]
theorem unhexL_ok {l : List UInt8} (h : l.length % 2 = 0) (hh : ∀ k, k < l.length / 2 → pairOK l k = true) : unhexL l = some (pairs l (l.length / 2)) := by unfold unhexL; rw [if_pos ⟨h, hh⟩]
theorem valI_range (c : Int) : 0 ≤ valI c ∧ valI c ≤ 16 := by
  unfold valI
  repeat' split
  all_goals omega
theorem pairOK_iff (l : List UInt8) (k : Nat) : pairOK l k = true ↔ valI (lb l (2 * k) : Int) ≤ 15 ∧ valI (lb l (2 * k + 1) : Int) ≤ 15 := by simp [pairOK]
/-- Fresh bytes and a bool are handed back: none: nil and false. -/
def RetBB (w : World) (T : Nat) (o : Option (List UInt8)) (e : Ending) (w' : World) : Prop := ∃ (A : Option Addr) (n c : Nat), e = .returned (.tuple #[.slice A n c, .bool o.isSome]) ∧ OB w' T w.heap.size A n c (o.getD []) ∧ Below w.heap.size w w'
theorem RetBB.none_ {w w' : World} {T : Nat} (hb : Below w.heap.size w w') : RetBB w T none (.returned (.tuple #[.slice none 0 0, .bool false])) w' := ⟨none, 0, 0, rfl, OB.nil_, hb⟩
theorem or_nib (a b : Int) (ha0 : 0 ≤ a) (ha : a ≤ 15) (hb0 : 0 ≤ b) (hb : b ≤ 15) : bits .or .u8 (a * 16) b = 16 * a + b := by
  have : ∀ a b : Fin 16, bits .or .u8 ((a.val : Int) * 16) (b.val : Int) = 16 * (a.val : Int) + (b.val : Int) := by decide +kernel
  obtain ⟨x, rfl⟩ := Int.eq_ofNat_of_zero_le ha0
  obtain ⟨y, rfl⟩ := Int.eq_ofNat_of_zero_le hb0
  exact this ⟨x, by omega⟩ ⟨y, by omega⟩
theorem dg_valI : ∀ c : Fin 256, valI (c.val : Int) ≤ 15 → dg (valI (c.val : Int)).toNat = UInt8.ofNat c.val := by decide +kernel
theorem valI_dg : ∀ k : Fin 16, valI ((dg k.val).toNat : Int) = (k.val : Int) := by decide +kernel
/-- A pair's two letters are the digits of byte k just where both are digits and the byte is k. -/
theorem pair_hit (l : List UInt8) (j k : Nat) (hk : k < 256) (hj : 2 * j + 1 < l.length) : ([dg (k / 16), dg (k % 16)] = [l[2 * j], l[2 * j + 1]]) ↔ (pairOK l j = true ∧ pairB l j = ub k) := by
  have hx := lb_eq l (2 * j) (by omega)
  have hy := lb_eq l (2 * j + 1) hj
  have hxl := lb_lt l (2 * j)
  have hyl := lb_lt l (2 * j + 1)
  have ex : l[2 * j] = UInt8.ofNat (lb l (2 * j)) := by rw [hx]; simp
  have ey : l[2 * j + 1] = UInt8.ofNat (lb l (2 * j + 1)) := by rw [hy]; simp
  rw [pairOK_iff]
  unfold pairB
  obtain ⟨x, hX⟩ : ∃ x, lb l (2 * j) = x := ⟨_, rfl⟩
  obtain ⟨y, hY⟩ : ∃ y, lb l (2 * j + 1) = y := ⟨_, rfl⟩
  rw [ex, ey]
  rw [hX] at hxl ⊢
  rw [hY] at hyl ⊢
  have dx := dg_valI ⟨x, hxl⟩
  have dy := dg_valI ⟨y, hyl⟩
  simp only at dx dy
  have vx := valI_range (x : Int)
  have vy := valI_range (y : Int)
  constructor
  · intro h
    simp only [List.cons.injEq, and_true] at h
    have h1 := valI_dg ⟨k / 16, by omega⟩
    have h2 := valI_dg ⟨k % 16, by omega⟩
    simp only at h1 h2
    rw [h.1] at h1
    rw [h.2] at h2
    have e1 : ((UInt8.ofNat x).toNat : Int) = x := by rw [UInt8.toNat_ofNat']; omega
    have e2 : ((UInt8.ofNat y).toNat : Int) = y := by rw [UInt8.toNat_ofNat']; omega
    rw [e1] at h1
    rw [e2] at h2
    rw [h1, h2]
    refine ⟨⟨by omega, by omega⟩, ?_⟩
    congr 1
    omega
  · rintro ⟨⟨hp, hq⟩, hb⟩
    have hk' : 16 * valI (x : Int) + valI (y : Int) = (k : Int) := by
      have h1 := congrArg (fun b : UInt8 => (b.toNat : Int)) hb
      rw [ub_toNat (by omega) (by omega), ub_toNat (by omega) (by omega)] at h1
      exact h1
    have k1 : k / 16 = (valI (x : Int)).toNat := by omega
    have k2 : k % 16 = (valI (y : Int)).toNat := by omega
    rw [k1, k2, dx hp, dy hq]
/-- What the document's search finds of the first j pairs. -/
def found (l : List UInt8) (j : Nat) : List UInt8 := (List.range j).flatMap fun i => if pairOK l i then [pairB l i] else []
theorem found_succ (l : List UInt8) (j : Nat) : found l (j + 1) = found l j ++ (if pairOK l j then [pairB l j] else []) := by simp [found, List.range_succ]
theorem found_le (l : List UInt8) (j : Nat) : (found l j).length ≤ j := by
  induction j with
  | zero => simp [found]
  | succ j ih => rw [found_succ, List.length_append]; split <;> simp <;> omega
theorem found_all (l : List UInt8) (j : Nat) (h : ∀ i, i < j → pairOK l i = true) : found l j = pairs l j := by
  induction j with
  | zero => rfl
  | succ j ih => rw [found_succ, pairs_succ, ih (fun i hi => h i (by omega)), h j (by omega)]; rfl
theorem found_lt (l : List UInt8) (j : Nat) (i : Nat) (hi : i < j) (h : pairOK l i = false) : (found l j).length < j := by
  induction j with
  | zero => omega
  | succ j ih =>
    rw [found_succ, List.length_append]
    rcases Nat.lt_or_ge i j with h1 | h1
    · have := ih h1; split <;> simp <;> omega
    · obtain rfl : i = j := by omega
      have := found_le l i
      rw [h]; simp; omega
theorem hexL_pairs (l : List UInt8) (j : Nat) (h : ∀ i, i < j → pairOK l i = true) (hj : 2 * j ≤ l.length) : hexL (pairs l j) = l.take (2 * j) := by
  induction j with
  | zero => rfl
  | succ j ih =>
    rw [pairs_succ, hexL_snoc, ih (fun i hi => h i (by omega)) (by omega)]
    have hb : pairB l j = ub ((pairB l j).toNat : Int) := (ub_of _).symm
    have hlt : (pairB l j).toNat < 256 := UInt8.toNat_lt _
    have := (pair_hit l j (pairB l j).toNat hlt (by omega)).2 ⟨h j (by omega), hb⟩
    rw [this, show 2 * (j + 1) = 2 * j + 1 + 1 by omega, List.take_succ_eq_append_getElem (show 2 * j + 1 < l.length by omega), List.take_succ_eq_append_getElem (show 2 * j < l.length by omega), List.append_assoc]
    rfl
/-- What the document's search finds of pair j among the first k bytes. -/
def part (l : List UInt8) (j k : Nat) : List UInt8 := if pairOK l j = true ∧ (pairB l j).toNat < k then [pairB l j] else []
theorem part_zero (l : List UInt8) (j : Nat) : part l j 0 = [] := by unfold part; rw [if_neg (by omega)]
theorem part_all (l : List UInt8) (j : Nat) : part l j 256 = if pairOK l j then [pairB l j] else [] := by
  have : (pairB l j).toNat < 256 := UInt8.toNat_lt _
  unfold part
  cases h : pairOK l j <;> simp [this]
theorem part_hit (l : List UInt8) (j k : Nat) (hk : k < 256) (h : pairOK l j = true ∧ pairB l j = ub k) : part l j (k + 1) = part l j k ++ [ub k] := by
  have hb : (pairB l j).toNat = k := by
    rw [h.2]
    have := ub_toNat (e := (k : Int)) (by omega) (by omega)
    omega
  unfold part
  rw [if_pos ⟨h.1, by omega⟩, if_neg (by omega), h.2]
  rfl
theorem part_miss (l : List UInt8) (j k : Nat) (h : ¬ (pairOK l j = true ∧ pairB l j = ub k)) : part l j (k + 1) = part l j k := by
  unfold part
  by_cases hp : pairOK l j = true
  · have hne : (pairB l j).toNat ≠ k := by
      intro he
      apply h
      refine ⟨hp, ?_⟩
      rw [← he, ub_of]
    by_cases h1 : (pairB l j).toNat < k
    · rw [if_pos ⟨hp, by omega⟩, if_pos ⟨hp, h1⟩]
    · rw [if_neg (by omega), if_neg (by omega)]
  · rw [if_neg (fun hh => hp hh.1), if_neg (fun hh => hp hh.1)]
/-- The document's answer is the program's. -/
theorem found_same (l : List UInt8) : unhexL l = if hexL (found l (l.length / 2)) = l then some (found l (l.length / 2)) else none := by
  by_cases hp : l.length % 2 = 0
  · by_cases ha : ∀ k, k < l.length / 2 → pairOK l k = true
    · rw [unhexL_ok hp ha, found_all l _ ha, if_pos]
      rw [hexL_pairs l _ ha (by omega), List.take_of_length_le (by omega)]
    · have : ∃ k, k < l.length / 2 ∧ pairOK l k = false := by
        apply Classical.byContradiction
        intro hc
        apply ha
        intro k hk
        cases hh : pairOK l k with
        | true => rfl
        | false => exact absurd ⟨k, hk, hh⟩ hc
      obtain ⟨k, hk, hf⟩ := this
      rw [unhexL_bad hk hf, if_neg]
      intro he
      have h1 := congrArg List.length he
      rw [hexL_length] at h1
      have := found_lt l _ k hk hf
      omega
  · rw [unhexL_odd hp, if_neg]
    intro he
    have h1 := congrArg List.length he
    rw [hexL_length] at h1
    omega
theorem hexL_get : ∀ (l : List UInt8) (k : Nat) (h : k < l.length), (hexL l)[2 * k]? = some (dg ((l[k]).toNat / 16)) ∧ (hexL l)[2 * k + 1]? = some (dg ((l[k]).toNat % 16))
  | b :: l, 0, _ => ⟨rfl, rfl⟩
  | b :: l, k + 1, h => by
    have := hexL_get l k (by simpa using h)
    have e : hexL (b :: l) = dg (b.toNat / 16) :: dg (b.toNat % 16) :: hexL l := rfl
    rw [e, show 2 * (k + 1) = 2 * k + 1 + 1 by omega]
    simpa using this
/-- What is put in digits is read as it was. -/
theorem unhexL_hexL (l : List UInt8) : unhexL (hexL l) = some l := by
  have hlen := hexL_length l
  have hk : ∀ k, (h : k < l.length) → pairOK (hexL l) k = true ∧ pairB (hexL l) k = l[k] := by
    intro k h
    have hg := hexL_get l k h
    have hlt : (l[k]).toNat < 256 := UInt8.toNat_lt _
    have h0 : (hexL l)[2 * k] = dg ((l[k]).toNat / 16) := by
      have := hg.1; rw [List.getElem?_eq_getElem (by omega)] at this; injection this
    have h1 : (hexL l)[2 * k + 1] = dg ((l[k]).toNat % 16) := by
      have := hg.2; rw [List.getElem?_eq_getElem (by omega)] at this; injection this
    have := (pair_hit (hexL l) k (l[k]).toNat hlt (by omega)).1 (by rw [h0, h1])
    rw [ub_of] at this
    exact this
  rw [unhexL_ok (by omega) (fun k h => (hk k (by omega)).1)]
  congr 1
  apply List.ext_getElem
  · rw [pairs_length]; omega
  · intro k h1 h2
    simp only [pairs, List.getElem_map, List.getElem_range]
    exact (hk k h2).2
end Go.Proofs.YtlpkngjeihoknaaDoor
