/- The plain law of layer 2 (prefix): masks, right prefixes, what covers what. No program in sight. No conditions. -/
import Derived.Test.YtnhkpnohadbcdaaDoorBase
namespace Go.Proofs.YtnhkpnohadbcdaaDoor
/-- How many first bits: from 0 to 32. -/
def cl (n : Int) : Nat := if n < 0 then 0 else if 32 < n then 32 else n.toNat
theorem cl_le (n : Int) : cl n ≤ 32 := by unfold cl; split; omega; split <;> omega
def maskN (n : Int) : Nat := 2 ^ 32 - 2 ^ (32 - cl n)
def normN (a : Nat) (n : Int) : Nat := a / 2 ^ (32 - cl n) * 2 ^ (32 - cl n)
theorem mask_shl (j : Nat) (h : j ≤ 32) : 2 ^ 32 - 2 ^ j = (2 ^ (32 - j) - 1) <<< j := by
  rw [Nat.shiftLeft_eq, Nat.sub_mul, ← Nat.pow_add, Nat.sub_add_cancel h, Nat.one_mul]
theorem div_mul_bit (a j i : Nat) : (a / 2 ^ j * 2 ^ j).testBit i = (decide (j ≤ i) && a.testBit i) := by
  rw [← Nat.shiftRight_eq_div_pow, ← Nat.shiftLeft_eq, Nat.testBit_shiftLeft, Nat.testBit_shiftRight]
  by_cases h : j ≤ i
  · simp [h, show j + (i - j) = i by omega]
  · simp [h]
theorem and_mask (a j : Nat) (h : j ≤ 32) (ha : a < 4294967296) : a &&& (2 ^ 32 - 2 ^ j) = a / 2 ^ j * 2 ^ j := by
  apply Nat.eq_of_testBit_eq
  intro i
  rw [Nat.testBit_and, mask_shl j h, Nat.testBit_shiftLeft, Nat.testBit_two_pow_sub_one, div_mul_bit]
  by_cases hi : i < 32
  · by_cases hj : j ≤ i
    · simp [hj, show i - j < 32 - j by omega]
    · simp [hj]
  · have : a.testBit i = false := Nat.testBit_lt_two_pow (Nat.lt_of_lt_of_le ha (show 4294967296 ≤ 2 ^ i from (show 2 ^ 32 ≤ 2 ^ i from Nat.pow_le_pow_right (by omega) (by omega))))
    simp [this]
theorem div_mul_le (a j : Nat) : a / 2 ^ j * 2 ^ j ≤ a := Nat.div_mul_le_self _ _
theorem normN_le (a : Nat) (n : Int) : normN a n ≤ a := Nat.div_mul_le_self _ _
theorem and_maskN (a : Nat) (n : Int) (ha : a < 4294967296) : a &&& maskN n = normN a n := and_mask a _ (by omega) ha
theorem maskN_lt (n : Int) : maskN n < 4294967296 := by
  unfold maskN
  have : 0 < 2 ^ (32 - cl n) := Nat.two_pow_pos _
  have h2 : (2 : Nat) ^ 32 = 4294967296 := by decide
  omega
theorem xor_zero {x y : Nat} (h : x ^^^ y = 0) : x = y := by
  apply Nat.eq_of_testBit_eq
  intro i
  have := congrArg (fun z => z.testBit i) h
  simp only [Nat.testBit_xor, Nat.zero_testBit] at this
  cases hx : x.testBit i <;> cases hy : y.testBit i <;> simp_all
theorem xor_norm (a b : Nat) (n : Int) (ha : a < 4294967296) (hb : b < 4294967296) : ((a ^^^ b) &&& maskN n = 0) ↔ normN a n = normN b n := by
  have e : (a ^^^ b) &&& maskN n = normN a n ^^^ normN b n := by
    rw [Nat.and_xor_distrib_right, and_maskN a n ha, and_maskN b n hb]
  rw [e]
  exact ⟨xor_zero, fun h => by rw [h, Nat.xor_self]⟩
/-- May it be a prefix? -/
def pRight (a : Nat) (n : Int) : Bool := decide (0 ≤ n ∧ n ≤ 32 ∧ normN a n = a)
theorem andnot (a : Nat) (n : Int) (ha : a < 4294967296) : (a &&& (4294967295 ^^^ maskN n) = 0) ↔ normN a n = a := by
  have e : a &&& (4294967295 ^^^ maskN n) = a ^^^ normN a n := by
    rw [Nat.and_xor_distrib_left, and_maskN a n ha]
    congr 1
    have := Nat.and_two_pow_sub_one_of_lt_two_pow (x := a) (n := 32) (by simpa using ha)
    simpa using this
  rw [e]
  exact ⟨fun h => (xor_zero h).symm, fun h => by rw [h, Nat.xor_self]⟩
theorem cl_of {n : Int} (h0 : 0 ≤ n) (h1 : n ≤ 32) : cl n = n.toNat := by unfold cl; split; omega; split <;> omega
theorem normN_norm (a : Nat) (n m : Int) (h : cl n ≤ cl m) : normN (normN a m) n = normN a n := by
  unfold normN
  have e : 2 ^ (32 - cl n) = 2 ^ (32 - cl m) * 2 ^ (cl m - cl n) := by
    rw [← Nat.pow_add]
    congr 1
    have := cl_le m
    omega
  rw [e, ← Nat.div_div_eq_div_mul, ← Nat.div_div_eq_div_mul, Nat.mul_div_cancel _ (Nat.two_pow_pos _)]
theorem normN_norm' (a : Nat) (n m : Int) (h : cl m ≤ cl n) : normN (normN a m) n = normN a m := by
  unfold normN
  have e : 2 ^ (32 - cl m) = 2 ^ (cl n - cl m) * 2 ^ (32 - cl n) := by
    rw [← Nat.pow_add]
    congr 1
    have := cl_le n
    omega
  have e2 : a / 2 ^ (32 - cl m) * 2 ^ (32 - cl m) = (a / 2 ^ (32 - cl m) * 2 ^ (cl n - cl m)) * 2 ^ (32 - cl n) := by rw [Nat.mul_assoc, ← e]
  rw [e2, Nat.mul_div_cancel _ (Nat.two_pow_pos _)]
def bitN (a : Nat) (i : Int) : Nat := if i < 0 ∨ 31 < i then 0 else a / 2 ^ (31 - i.toNat) % 2
theorem bitN_lt (a : Nat) (i : Int) : bitN a i ≤ 1 := by unfold bitN; split <;> omega
/-- The document's right prefix, bit by bit. -/
def nrmAt (a k i : Nat) : Nat := a / 2 ^ (32 - min i k) * 2 ^ (i - min i k)
theorem nrmAt_zero (a k : Nat) (h : a < 4294967296) : nrmAt a k 0 = 0 := by
  unfold nrmAt
  rw [Nat.zero_min, Nat.sub_zero, Nat.div_eq_of_lt (by simpa using h), Nat.zero_mul]
theorem nrmAt_succ (a k i : Nat) (hi : i < 32) : nrmAt a k (i + 1) = 2 * nrmAt a k i + (if i < k then bitN a (i : Int) else 0) := by
  unfold nrmAt
  by_cases h : i < k
  · rw [if_pos h, Nat.min_eq_left (by omega), Nat.min_eq_left (by omega), Nat.sub_self, Nat.sub_self, bitN, if_neg (by omega)]
    have e1 : 32 - (i + 1) = 31 - i := by omega
    have e2 : 2 ^ (32 - i) = 2 ^ (31 - i) * 2 := by rw [← Nat.pow_succ]; congr 1; omega
    rw [e1, e2, ← Nat.div_div_eq_div_mul]
    simp only [Int.toNat_natCast]
    omega
  · rw [if_neg h, Nat.min_eq_right (by omega), Nat.min_eq_right (by omega), show i + 1 - k = (i - k) + 1 by omega, Nat.pow_succ]
    rw [← Nat.mul_assoc]
    omega
theorem nrmAt_end (a : Nat) (n : Int) : nrmAt a (cl n) 32 = normN a n := by
  unfold nrmAt normN
  rw [Nat.min_eq_right (cl_le n)]
theorem nrmAt_lt (a k i : Nat) (h : a < 4294967296) (hk : k ≤ 32) (hi : i ≤ 32) : nrmAt a k i < 4294967296 := by
  have h0 : a / 2 ^ (32 - min i k) < 2 ^ min i k := by
    rw [Nat.div_lt_iff_lt_mul (Nat.two_pow_pos _), ← Nat.pow_add, show min i k + (32 - min i k) = 32 by omega]
    simpa using h
  have h1 : nrmAt a k i < 2 ^ i := by
    unfold nrmAt
    have : 2 ^ i = 2 ^ min i k * 2 ^ (i - min i k) := by rw [← Nat.pow_add]; congr 1; omega
    rw [this]
    exact Nat.mul_lt_mul_of_pos_right h0 (Nat.two_pow_pos _)
  have h2 : 2 ^ i ≤ 2 ^ 32 := Nat.pow_le_pow_right (by omega) hi
  have h3 : (2 : Nat) ^ 32 = 4294967296 := by decide
  omega
/-- The document's mask, bit by bit. -/
def mskAt (k i : Nat) : Nat := (2 ^ min i k - 1) * 2 ^ (i - min i k)
theorem mskAt_succ (k i : Nat) : mskAt k (i + 1) = 2 * mskAt k i + (if i < k then 1 else 0) := by
  unfold mskAt
  by_cases h : i < k
  · rw [if_pos h, Nat.min_eq_left (by omega), Nat.min_eq_left (by omega), Nat.sub_self, Nat.sub_self, Nat.pow_succ]
    have := Nat.two_pow_pos i
    omega
  · rw [if_neg h, Nat.min_eq_right (by omega), Nat.min_eq_right (by omega), show i + 1 - k = (i - k) + 1 by omega, Nat.pow_succ, ← Nat.mul_assoc]
    omega
theorem mskAt_end (n : Int) : mskAt (cl n) 32 = maskN n := by
  unfold mskAt maskN
  have hc := cl_le n
  rw [Nat.min_eq_right hc, Nat.sub_mul, ← Nat.pow_add, Nat.one_mul]
  congr 2
  omega
theorem mskAt_lt (k i : Nat) (hi : i ≤ 32) : mskAt k i < 4294967296 := by
  have h1 : mskAt k i < 2 ^ i := by
    unfold mskAt
    have e : 2 ^ i = 2 ^ min i k * 2 ^ (i - min i k) := by rw [← Nat.pow_add]; congr 1; omega
    rw [e]
    exact Nat.mul_lt_mul_of_pos_right (by have := Nat.two_pow_pos (min i k); omega) (Nat.two_pow_pos _)
  have h2 : 2 ^ i ≤ 2 ^ 32 := Nat.pow_le_pow_right (by omega) hi
  have h3 : (2 : Nat) ^ 32 = 4294967296 := by decide
  omega
/-- Is a number in a prefix? -/
def pHolds (a : Nat) (n : Int) (x : Nat) : Bool := pRight a n && decide (normN x n = a)
/-- Is the prefix b m in a n? -/
def pCovers (a : Nat) (n : Int) (b : Nat) (m : Int) : Bool := pRight b m && decide (n ≤ m) && pHolds a n b
def pCmp (a : Nat) (n : Int) (b : Nat) (m : Int) : Int := if a < b ∨ (a = b ∧ n < m) then -1 else if a = b ∧ n = m then 0 else 1
/-- How many first bits two have in common, of k. -/
def comN (a b : Nat) : Nat → Nat
  | 0 => 0
  | k + 1 => if normN a ((k + 1 : Nat) : Int) = normN b ((k + 1 : Nat) : Int) then k + 1 else comN a b k
theorem comN_le (a b k : Nat) : comN a b k ≤ k := by
  induction k with
  | zero => exact Nat.le_refl _
  | succ k ih => unfold comN; split <;> omega
theorem cl_nat {k : Nat} (h : k ≤ 32) : cl (k : Int) = k := by rw [cl_of (by omega) (by omega)]; omega
theorem normN_zero (a : Nat) (h : a < 4294967296) : normN a 0 = 0 := by
  unfold normN
  rw [show cl 0 = 0 from rfl, Nat.div_eq_of_lt (by simpa using h), Nat.zero_mul]
theorem pRight_norm (a : Nat) {k : Nat} (hk : k ≤ 32) : pRight (normN a (k : Int)) (k : Int) = true := by
  unfold pRight
  exact decide_eq_true ⟨by omega, by omega, normN_norm a _ _ (Nat.le_refl _)⟩
theorem pRight_of {a : Nat} {n : Int} (h : pRight a n = true) : ∃ k : Nat, n = k ∧ k ≤ 32 ∧ normN a (k : Int) = a := by
  unfold pRight at h
  have h := of_decide_eq_true h
  obtain ⟨k, rfl⟩ := Int.eq_ofNat_of_zero_le h.1
  exact ⟨k, rfl, by omega, h.2.2⟩
/-- Covering by a prefix of one's own. -/
theorem covers_self (a b k : Nat) (m : Int) (hk : k ≤ 32) (hb : pRight b m = true) : pCovers (normN a (k : Int)) k b m = (decide ((k : Int) ≤ m) && decide (normN b (k : Int) = normN a (k : Int))) := by
  unfold pCovers pHolds
  rw [hb, pRight_norm a hk]
  simp
theorem right_zero : pRight 0 0 = true := by decide
theorem normN_idem (a : Nat) (n : Int) : normN (normN a n) n = normN a n := normN_norm a n n (Nat.le_refl _)
theorem cl_cl (n : Int) : cl ((cl n : Nat) : Int) = cl n := cl_nat (cl_le n)
theorem normN_cl (a : Nat) (n : Int) : normN a ((cl n : Nat) : Int) = normN a n := by unfold normN; rw [cl_cl]
theorem right_normN (a : Nat) (n : Int) : pRight (normN a n) ((cl n : Nat) : Int) = true := by
  rw [← normN_cl]; exact pRight_norm a (cl_le n)
end Go.Proofs.YtnhkpnohadbcdaaDoor
