/- Joined texts (PfxPlain Pfx PfxB PfxR Octet OctPlain OctetB HexPlain DecPlain PfxText OctetC Unhex RefHex OctInt RefText Ref01 OctLaw RefInt PfxA Reader ReaderB PfxP PfxQ PfxQR PfxPut PfxV RdMore PfxW SRows Deep NSl Nums AspA AspB AspC AspI AspD AttA AttB). Conditions: those of the theorems. -/
import Derived.Test.YthgjknmfghjioaaGreatDoorProg
import Derived.WalkKit
import Derived.WalkSpells
import Derived.WalkLawsBesides
import Derived.Outline
import Derived.Deep.QuietTactic
import Derived.BigQuiet
import Derived.Handy
import Derived.Lib.Hide
import Derived.Test.YthgjknmfghjioaaGreatDoorBase
import Derived.Deep.RegionHeld3
import Derived.Laws.ResultCell
import Derived.Deep.RegionHeld
import Derived.Deep.MidRow
import Derived.Lib.Strings
import Derived.Laws.RangeString
import Derived.Laws.RangeAny
import Derived.Test.YthgjknmfghjioaaGreatDoorOpen
import Derived.Lib.SliceRun
import Derived.Deep.DeepCutAuto
import Derived.Deep.CutBlock
namespace Go.Proofs.YthgjknmfghjioaaGreatDoor
/-- How many first bits: from 0 to 32. -/
def cl (n : Int) : Nat := if n < 0 then 0 else if 32 < n then 32 else n.toNat
theorem cl_le (n : Int) : cl n ≤ 32 := by unfold cl; split; omega; split <;> omega
def maskN (n : Int) : Nat := 2 ^ 32 - 2 ^ (32 - cl n)
def normN (a : Nat) (n : Int) : Nat := a / 2 ^ (32 - cl n) * 2 ^ (32 - cl n)
theorem mask_shl (j : Nat) (h : j ≤ 32) : 2 ^ 32 - 2 ^ j = (2 ^ (32 - j) - 1) <<< j := by
 rw [Nat.shiftLeft_eq, Nat.sub_mul, ← Nat.pow_add, Nat.sub_add_cancel h, Nat.one_mul]
theorem div_mul_bit (a j i : Nat) : (a / 2 ^ j * 2 ^ j).testBit i = (decide (j ≤ i) && a.testBit i) := by
 rw [← Nat.shiftRight_eq_div_pow, ← Nat.shiftLeft_eq, Nat.testBit_shiftLeft, Nat.testBit_shiftRight]
 by_cases h : j ≤ i
 ·simp [h, show j + (i - j) = i by omega]
 ·simp [h]
theorem and_mask (a j : Nat) (h : j ≤ 32) (ha : a < 4294967296) : a &&& (2 ^ 32 - 2 ^ j) = a / 2 ^ j * 2 ^ j := by
 apply Nat.eq_of_testBit_eq
 intro i
 rw [Nat.testBit_and, mask_shl j h, Nat.testBit_shiftLeft, Nat.testBit_two_pow_sub_one, div_mul_bit]
 by_cases hi : i < 32
 ·by_cases hj : j ≤ i
  ·simp [hj, show i - j < 32 - j by omega]
  ·simp [hj]
 ·have : a.testBit i = false := Nat.testBit_lt_two_pow (Nat.lt_of_lt_of_le ha (show 4294967296 ≤ 2 ^ i from (show 2 ^ 32 ≤ 2 ^ i from Nat.pow_le_pow_right (by omega) (by omega))))
  simp [this]
theorem normN_le (a : Nat) (n : Int) : normN a n ≤ a := Nat.div_mul_le_self _ _
theorem and_maskN (a : Nat) (n : Int) (ha : a < 4294967296) : a &&& maskN n = normN a n := and_mask a _ (by omega) ha
theorem maskN_lt (n : Int) : maskN n < 4294967296 := by
 unfold maskN
 have : 0 < 2 ^ (32 - cl n) := Nat.two_pow_pos _
 have h2 : (2 : Nat) ^ 32 = 4294967296 := by decide
 omega
theorem xor_zero {x y : Nat} (h : x ^^^ y = 0) : x = y := by
 apply Nat.eq_of_testBit_eq
 intro i
 have := congrArg (fun z => z.testBit i) h
 simp only [Nat.testBit_xor, Nat.zero_testBit] at this
 cases hx : x.testBit i <;> cases hy : y.testBit i <;> simp_all
/-- May it be a prefix? -/
def pRight (a : Nat) (n : Int) : Bool := decide (0 ≤ n ∧ n ≤ 32 ∧ normN a n = a)
theorem cl_of {n : Int} (h0 : 0 ≤ n) (h1 : n ≤ 32) : cl n = n.toNat := by unfold cl; split; omega; split <;> omega
theorem normN_norm (a : Nat) (n m : Int) (h : cl n ≤ cl m) : normN (normN a m) n = normN a n := by
 unfold normN
 have e : 2 ^ (32 - cl n) = 2 ^ (32 - cl m) * 2 ^ (cl m - cl n) := by
  rw [← Nat.pow_add]
  congr 1
  have := cl_le m
  omega
 rw [e, ← Nat.div_div_eq_div_mul, ← Nat.div_div_eq_div_mul, Nat.mul_div_cancel _ (Nat.two_pow_pos _)]
def bitN (a : Nat) (i : Int) : Nat := if i < 0 ∨ 31 < i then 0 else a / 2 ^ (31 - i.toNat) % 2
/-- The document's right prefix, bit by bit. -/
def nrmAt (a k i : Nat) : Nat := a / 2 ^ (32 - min i k) * 2 ^ (i - min i k)
theorem nrmAt_zero (a k : Nat) (h : a < 4294967296) : nrmAt a k 0 = 0 := by
 unfold nrmAt
 rw [Nat.zero_min, Nat.sub_zero, Nat.div_eq_of_lt (by simpa using h), Nat.zero_mul]
theorem nrmAt_succ (a k i : Nat) (hi : i < 32) : nrmAt a k (i + 1) = 2 * nrmAt a k i + (if i < k then bitN a (i : Int) else 0) := by
 unfold nrmAt
 by_cases h : i < k
 ·rw [if_pos h, Nat.min_eq_left (by omega), Nat.min_eq_left (by omega), Nat.sub_self, Nat.sub_self, bitN, if_neg (by omega)]
  have e1 : 32 - (i + 1) = 31 - i := by omega
  have e2 : 2 ^ (32 - i) = 2 ^ (31 - i) * 2 := by rw [← Nat.pow_succ]; congr 1; omega
  rw [e1, e2, ← Nat.div_div_eq_div_mul]
  simp only [Int.toNat_natCast]
  omega
 ·rw [if_neg h, Nat.min_eq_right (by omega), Nat.min_eq_right (by omega), show i + 1 - k = (i - k) + 1 by omega, Nat.pow_succ]
  rw [← Nat.mul_assoc]
  omega
theorem nrmAt_end (a : Nat) (n : Int) : nrmAt a (cl n) 32 = normN a n := by
 unfold nrmAt normN
 rw [Nat.min_eq_right (cl_le n)]
theorem nrmAt_lt (a k i : Nat) (h : a < 4294967296) (hk : k ≤ 32) (hi : i ≤ 32) : nrmAt a k i < 4294967296 := by
 have h0 : a / 2 ^ (32 - min i k) < 2 ^ min i k := by
  rw [Nat.div_lt_iff_lt_mul (Nat.two_pow_pos _), ← Nat.pow_add, show min i k + (32 - min i k) = 32 by omega]
  simpa using h
 have h1 : nrmAt a k i < 2 ^ i := by
  unfold nrmAt
  have : 2 ^ i = 2 ^ min i k * 2 ^ (i - min i k) := by rw [← Nat.pow_add]; congr 1; omega
  rw [this]
  exact Nat.mul_lt_mul_of_pos_right h0 (Nat.two_pow_pos _)
 have h2 : 2 ^ i ≤ 2 ^ 32 := Nat.pow_le_pow_right (by omega) hi
 have h3 : (2 : Nat) ^ 32 = 4294967296 := by decide
 omega
/-- The document's mask, bit by bit. -/
def mskAt (k i : Nat) : Nat := (2 ^ min i k - 1) * 2 ^ (i - min i k)
/-- Is a number in a prefix? -/
def pHolds (a : Nat) (n : Int) (x : Nat) : Bool := pRight a n && decide (normN x n = a)
/-- Is the prefix b m in a n? -/
def pCovers (a : Nat) (n : Int) (b : Nat) (m : Int) : Bool := pRight b m && decide (n ≤ m) && pHolds a n b
def pCmp (a : Nat) (n : Int) (b : Nat) (m : Int) : Int := if a < b ∨ (a = b ∧ n < m) then -1 else if a = b ∧ n = m then 0 else 1
/-- How many first bits two have in common, of k. -/
def comN (a b : Nat) : Nat → Nat
 | 0 => 0
 | k + 1 => if normN a ((k + 1 : Nat) : Int) = normN b ((k + 1 : Nat) : Int) then k + 1 else comN a b k
theorem cl_nat {k : Nat} (h : k ≤ 32) : cl (k : Int) = k := by rw [cl_of (by omega) (by omega)]; omega
theorem pRight_of {a : Nat} {n : Int} (h : pRight a n = true) : ∃ k : Nat, n = k ∧ k ≤ 32 ∧ normN a (k : Int) = a := by
 unfold pRight at h
 have h := of_decide_eq_true h
 obtain ⟨k, rfl⟩ := Int.eq_ofNat_of_zero_le h.1
 exact ⟨k, rfl, by omega, h.2.2⟩
open Go.RowKit
theorem shl_fin : ∀ k : Fin 32, (4294967295 * 2 ^ (k.val + 1) % 4294967296 : Nat) = 2 ^ 32 - 2 ^ (k.val + 1) ∨ k.val = 31 := by decide +kernel
theorem shl_mask {n : Int} (h0 : 0 < n) (h1 : n < 32) : (4294967295 * 2 ^ (32 - n).toNat % 4294967296 : Int) = (maskN n : Nat) := by
 obtain ⟨m, rfl⟩ := Int.eq_ofNat_of_zero_le (show 0 ≤ n by omega)
 have e : ((32 : Int) - m).toNat = 31 - m + 1 := by omega
 have h := shl_fin ⟨31 - m, by omega⟩
 simp only at h
 rw [e, maskN, cl_nat (by omega), show 32 - m = 31 - m + 1 by omega]
 rcases h with h | h
 ·rw [← h]; simp
 ·omega
theorem u32_and_nat (a b : Nat) (ha : a < 4294967296) (hb : b < 4294967296) : bits .and .u32 (a : Int) (b : Int) = ((a &&& b : Nat) : Int) := by
 have hx : a &&& b < 2 ^ 32 := Nat.and_lt_two_pow _ (by omega)
 have e1 : (BitVec.ofInt 32 (a : Int)).toNat = a := by rw [BitVec.ofInt_natCast, BitVec.toNat_ofNat]; exact Nat.mod_eq_of_lt (by omega)
 have e2 : (BitVec.ofInt 32 (b : Int)).toNat = b := by rw [BitVec.ofInt_natCast, BitVec.toNat_ofNat]; exact Nat.mod_eq_of_lt (by omega)
 show IntKind.u32.wrap ((BitVec.ofInt 32 (a : Int) &&& BitVec.ofInt 32 (b : Int)).toNat : Int) = _
 rw [BitVec.toNat_and, e1, e2]
 show ((a &&& b : Nat) : Int) % (2 ^ 32) = _
 omega
theorem bv_andNot (x y : BitVec 32) : x &&& ~~~y = x ^^^ (x &&& y) := by
 apply BitVec.eq_of_getLsbD_eq
 intro i hi
 simp only [BitVec.getLsbD_and, BitVec.getLsbD_not, BitVec.getLsbD_xor, hi, decide_true, Bool.true_and]
 cases x.getLsbD i <;> cases y.getLsbD i <;> rfl
theorem u32_andNot (a b : Nat) (ha : a < 4294967296) (hb : b < 4294967296) : bits .andNot .u32 (a : Int) (b : Int) = ((a ^^^ (a &&& b) : Nat) : Int) := by
 have hx : a ^^^ (a &&& b) < 2 ^ 32 := Nat.xor_lt_two_pow (by omega) (Nat.and_lt_two_pow _ (by omega))
 have e1 : (BitVec.ofInt 32 (a : Int)).toNat = a := by rw [BitVec.ofInt_natCast, BitVec.toNat_ofNat]; exact Nat.mod_eq_of_lt (by omega)
 have e2 : (BitVec.ofInt 32 (b : Int)).toNat = b := by rw [BitVec.ofInt_natCast, BitVec.toNat_ofNat]; exact Nat.mod_eq_of_lt (by omega)
 show IntKind.u32.wrap ((BitVec.ofInt 32 (a : Int) &&& ~~~(BitVec.ofInt 32 (b : Int))).toNat : Int) = _
 rw [bv_andNot, BitVec.toNat_xor, BitVec.toNat_and, e1, e2]
 show ((a ^^^ (a &&& b) : Nat) : Int) % (2 ^ 32) = _
 omega
set_option maxHeartbeats 1000000 in
theorem prefixMask (n : Int) (w : World) :
  Calls Tryz.prog 231 #[.int .i64 n] w fun en w' => en = .returned (.int .u32 (maskN n)) ∧ w = w' := by
 by_cases h0 : n ≤ 0
 ·have e : maskN n = 0 := by
   have : cl n = 0 := by unfold cl; split <;> (try split) <;> omega
   rw [maskN, this]
  rw [e]
  go_enter Tryz.func231, Tryz.ntmps231
  go_wp2_with fail
  go_ret
  exact ⟨rfl, rfl⟩
 ·by_cases h1 : 32 ≤ n
  ·have e : maskN n = 4294967295 := by
    have : cl n = 32 := by unfold cl; split <;> (try split) <;> omega
    rw [maskN, this]
   rw [e]
   go_enter Tryz.func231, Tryz.ntmps231
   go_wp2_with fail
   go_ret
   exact ⟨rfl, rfl⟩
  ·go_enter Tryz.func231, Tryz.ntmps231
   go_wp2_with fail
   rw [shl_mask (by omega) (by omega)]
   go_ret
   exact ⟨rfl, rfl⟩
set_option maxHeartbeats 1000000 in
set_option maxRecDepth 100000 in
theorem prefixRight (a : Nat) (ha : a < 4294967296) (n : Int) (w : World) :
  Calls Tryz.prog 223 #[.agg #[.int .u32 a, .int .i64 n]] w fun en w' => en = .returned (.bool (pRight a n)) ∧ Below w.heap.size w w' := by
 have hB := Blk.new w 146 #[.int .u32 a, .int .i64 n]
 have c0 := hB.cell 0
 have c1 := hB.cell 1
 have b0 := (Below.refl w.heap.size w).alloc (Nat.le_refl _) (.cells #[.int .u32 a, .int .i64 n] 146)
 by_cases h0 : n < 0
 ·have e : pRight a n = false := by unfold pRight; exact decide_eq_false (by omega)
  rw [e]
  have hd : decide (0 ≤ n) = false := decide_eq_false (by omega)
  go_enter Tryz.func223, Tryz.ntmps223
  go_wp2_with fail
  go_quiet (fail)
  go_wp2_with fail
  go_ret
  exact ⟨rfl, below_drewN b0 _⟩
 ·by_cases h1 : 32 < n
  ·have e : pRight a n = false := by unfold pRight; exact decide_eq_false (by omega)
   rw [e]
   have hd : decide (n ≤ 32) = false := decide_eq_false (by omega)
   go_enter Tryz.func223, Tryz.ntmps223
   go_wp2_with fail
   go_quiet (fail)
   go_wp2_with fail
   go_ret
   exact ⟨rfl, below_drewN b0 _⟩
  ·go_enter Tryz.func223, Tryz.ntmps223
   go_wp2_with fail
   go_quiet ((go_at_call 231; exact quiet_left (prefixMask n _)))
   go_wp2_with fail
   have e1 : (bits BinOp.andNot IntKind.u32 (a : Int) (maskN n : Nat) == 0) = pRight a n := by
    rw [u32_andNot a _ ha (maskN_lt n), and_maskN a n ha, pRight]
    rw [Bool.eq_iff_iff, beq_iff_eq, decide_eq_true_iff]
    constructor
    ·intro h
     exact ⟨by omega, by omega, (xor_zero (by exact_mod_cast h)).symm⟩
    ·rintro ⟨_, _, h⟩
     rw [h, Nat.xor_self]
     rfl
   rw [e1]
   go_ret
   exact ⟨rfl, below_drewN b0 _⟩
theorem pfx_info : (Tryz.prog.info? 146).map (·.size) = some 2 := by kernel_rfl
/-- The result of a function that hands back a prefix out of a cell. -/
theorem pfx_ret {fn : Func} {p : Tmp} (h : fn.results = #[.cell p 146]) (tmps : Array Value) (w : World) (g : Nat) (x y : Value)
  (hp : tmps.getD p undef = .pointer (some ⟨g, 0, none⟩)) (hB : Blk w g 146 #[x, y]) :
  (results fn tmps).run Tryz.prog w = .ok (.agg #[x, y]) w :=
 results_cell_row h tmps w g 146 #[x, y] (0, 0) _ hp hB Tryz.underlying146 rfl pfx_info
set_option maxHeartbeats 1000000 in
set_option maxRecDepth 100000 in
theorem prefixNorm (a : Nat) (ha : a < 4294967296) (n : Int) (w : World) :
  Calls Tryz.prog 198 #[.int .u32 a, .int .i64 n] w fun en w' => en = .returned (.agg #[.int .u32 (normN a n), .int .i64 (cl n)]) ∧ Below w.heap.size w w' := by
 have hB := Blk.new w 146 #[.int .u32 0, .int .i64 0]
 have f0 := hB.frozen 0
 have f1 := hB.frozen 1
 have c0 := hB.cell 0
 have c1 := hB.cell 1
 have b0 := (Below.refl w.heap.size w).alloc (Nat.le_refl _) (.cells #[.int .u32 0, .int .i64 0] 146)
 by_cases h0 : n < 0
 ·have hC0 : cl n = cl 0 := by unfold cl; simp [h0]
  have hC : ((cl n : Nat) : Int) = 0 := by rw [hC0]; rfl
  have hN : normN a 0 = normN a n := by unfold normN; rw [hC0]
  have e1 := u32_and_nat a (maskN 0) ha (maskN_lt _)
  rw [and_maskN a _ ha, hN] at e1
  go_enter Tryz.func198, Tryz.ntmps198
  go_wp2_with fail
  refine (prefixMask 0 _).mono ?_
  rintro _ _ ⟨rfl, rfl⟩
  go_wp2_with fail
  refine bodyPost_ret (pfx_ret rfl _ _ w.heap.size (.int .u32 (normN a n)) (.int .i64 (cl n)) rfl ?_) rfl ?_
  ·rw [hC]
   exact Blk.new w _ _
  ·exact ⟨rfl, (Below.refl _ _).alloc (Nat.le_refl _) _⟩
 ·by_cases h1 : 32 < n
  ·have hC0 : cl n = cl 32 := by unfold cl; simp [h0, h1]
   have hC : ((cl n : Nat) : Int) = 32 := by rw [hC0]; rfl
   have hN : normN a 32 = normN a n := by unfold normN; rw [hC0]
   have e1 := u32_and_nat a (maskN 32) ha (maskN_lt _)
   rw [and_maskN a _ ha, hN] at e1
   go_enter Tryz.func198, Tryz.ntmps198
   go_wp2_with fail
   refine (prefixMask 32 _).mono ?_
   rintro _ _ ⟨rfl, rfl⟩
   go_wp2_with fail
   refine bodyPost_ret (pfx_ret rfl _ _ w.heap.size (.int .u32 (normN a n)) (.int .i64 (cl n)) rfl ?_) rfl ?_
   ·rw [hC]
    exact Blk.new w _ _
   ·exact ⟨rfl, (Below.refl _ _).alloc (Nat.le_refl _) _⟩
  ·have hC : ((cl n : Nat) : Int) = n := by rw [cl_of (by omega) (by omega)]; omega
   have hN : normN a n = normN a n := rfl
   have e1 := u32_and_nat a (maskN n) ha (maskN_lt _)
   rw [and_maskN a _ ha, hN] at e1
   go_enter Tryz.func198, Tryz.ntmps198
   go_wp2_with fail
   refine (prefixMask n _).mono ?_
   rintro _ _ ⟨rfl, rfl⟩
   go_wp2_with fail
   refine bodyPost_ret (pfx_ret rfl _ _ w.heap.size (.int .u32 (normN a n)) (.int .i64 (cl n)) rfl ?_) rfl ?_
   ·rw [hC]
    exact Blk.new w _ _
   ·exact ⟨rfl, (Below.refl _ _).alloc (Nat.le_refl _) _⟩
theorem keep2c {w W W' : World} {g : Nat} {x y : Value} (hg : g < w.heap.size) (hb : Below W.heap.size W W') (h : Below w.heap.size w W ∧ W.cell? ⟨g, 0, none⟩ = some x ∧ W.cell? ⟨g, 1, none⟩ = some y) :
  Below w.heap.size w W' ∧ W'.cell? ⟨g, 0, none⟩ = some x ∧ W'.cell? ⟨g, 1, none⟩ = some y :=
 have hs := h.1.size
 ⟨btr h.1 hb hs, (hb.cell (show g < _ by omega)).trans h.2.1, (hb.cell (show g < _ by omega)).trans h.2.2⟩
set_option maxHeartbeats 1000000 in
set_option maxRecDepth 100000 in
theorem refBit (a : Nat) (ha : a < 4294967296) (i : Int) (w : World) :
  Calls Tryz.prog 248 #[.int .u32 a, .int .i64 i] w fun en w' => en = .returned (.int .i64 (bitN a i)) ∧ w = w' := by
 by_cases h0 : i < 0
 ·have e : bitN a i = 0 := by unfold bitN; rw [if_pos (.inl h0)]
  rw [e]
  go_enter Tryz.func248, Tryz.ntmps248
  go_wp2_with fail
  go_ret
  exact ⟨rfl, rfl⟩
 ·by_cases h1 : 31 < i
  ·have e : bitN a i = 0 := by unfold bitN; rw [if_pos (.inr (by omega))]
   rw [e]
   go_enter Tryz.func248, Tryz.ntmps248
   go_wp2_with fail
   go_ret
   exact ⟨rfl, rfl⟩
  ·obtain ⟨m, rfl⟩ := Int.eq_ofNat_of_zero_le (show 0 ≤ i by omega)
   have HE := Lib.hid (show bitN a (m : Int) = a / 2 ^ (31 - m) % 2 by unfold bitN; rw [if_neg (by omega), Int.toNat_natCast])
   have hm31 : m ≤ 31 := by omega
   go_enter Tryz.func248, Tryz.ntmps248
   go_wp2_with fail
   go_loop [5, 6] (fun n k => ∃ (q X : Nat), q ≤ 31 - m ∧ k = .int .i64 ((31 : Int) - q) ∧ n = .int .i64 X ∧ Hid (X = a / 2 ^ q) ∧ X < 4294967296) (fun _ k => (intOf k + 1).toNat)
   case atStart => exact ⟨0, a, by omega, by go_num, by go_num, Lib.hid (by simp), ha⟩
   case round =>
    obtain ⟨q, X, hq, rfl, rfl, hX, hXl⟩ := hrel
    by_cases hlt : q < 31 - m
    ·have hgt : (m : Int) < 31 - (q : Int) := by omega
     have hX1 := Lib.hid (show X / 2 = a / 2 ^ (q + 1) by rw [hX.out, Nat.pow_succ, Nat.div_div_eq_div_mul])
     go_wp2_with fail
     go_round
     case rel => exact ⟨q + 1, X / 2, by omega, by go_num, by go_num, hX1, by omega⟩
     case measure => simp [intOf]; omega
    ·have hgt : ¬ (m : Int) < 31 - (q : Int) := by omega
     have hq' : q = 31 - m := by omega
     have e : X % 2 = bitN a (m : Int) := by rw [HE.out, hX.out, hq']
     go_wp2_with fail
     go_ret
     exact ⟨by rw [← e]; rfl, rfl⟩
/-- The document's right prefix, bit by bit. -/
theorem cl_case (n : Int) : (n < 0 ∧ cl n = 0) ∨ (32 < n ∧ cl n = 32) ∨ ∃ k : Nat, n = k ∧ k ≤ 32 ∧ cl n = k := by
 unfold cl
 by_cases h0 : n < 0
 ·exact .inl ⟨h0, if_pos h0⟩
 ·by_cases h1 : 32 < n
  ·exact .inr (.inl ⟨h1, by rw [if_neg h0, if_pos h1]⟩)
  ·exact .inr (.inr ⟨n.toNat, by omega, by omega, by rw [if_neg h0, if_neg h1]⟩)
set_option maxHeartbeats 2000000 in
set_option maxRecDepth 100000 in
theorem refNorm (a : Nat) (ha : a < 4294967296) (n : Int) (w : World) :
  Calls Tryz.prog 230 #[.int .u32 a, .int .i64 n] w fun en w' => en = .returned (.agg #[.int .u32 (normN a n), .int .i64 (cl n)]) ∧ Below w.heap.size w w' := by
 have hB := Blk.new w 146 #[.int .u32 0, .int .i64 0]
 have f0 := hB.frozen 0
 have f1 := hB.frozen 1
 have c0 := hB.cell 0
 have c1 := hB.cell 1
 rcases cl_case n with ⟨h0, hC⟩ | ⟨h0, hC⟩ | ⟨k, rfl, hk, hC⟩
 ·have h1 : ¬ 32 < n := by omega
  go_enter Tryz.func230, Tryz.ntmps230
  go_wp2_with fail
  go_loop [6, 7] (fun x i => ∃ (j X : Nat), j ≤ 32 ∧ i = .int .i64 j ∧ x = .int .i64 X ∧ Hid (X = nrmAt a 0 j) ∧ X < 4294967296) (fun _ i => 32 - (intOf i).toNat)
  case atStart => exact ⟨0, 0, by omega, rfl, rfl, Lib.hid (nrmAt_zero a _ ha).symm, by omega⟩
  case round =>
   obtain ⟨j, X, hj, rfl, rfl, hX, hXl⟩ := hrel
   by_cases hlt : j < 32
   ·have hji : (j : Int) < 32 := by omega
    have HS := Lib.hid (nrmAt_succ a 0 j hlt)
    have hlast := nrmAt_lt a 0 (j + 1) ha (by omega) (by omega)
    by_cases hn : j < 0
    ·have hni : (j : Int) < 0 := by omega
     obtain ⟨Y, hY⟩ : ∃ Y, bitN a (j : Int) = Y := ⟨_, rfl⟩
     have HY := Lib.hid hY
     have hX1 := Lib.hid (show 2 * X + Y = nrmAt a 0 (j + 1) by rw [HS.out, ← hX.out, if_pos hn, hY])
     have hX2 : 2 * X + Y < 4294967296 := by rw [hX1.out]; exact hlast
     clear hlast hY
     go_wp2_with fail
     refine (refBit a ha (j : Int) _).mono ?_
     rw [HY.out]
     rintro _ _ ⟨rfl, rfl⟩
     go_wp2_with fail
     go_round
     case rel => exact ⟨j + 1, 2 * X + Y, by omega, by go_num, by go_num, hX1, hX2⟩
     case measure => simp [intOf]; omega
    ·have hni : ¬ (j : Int) < 0 := by omega
     have hX1 := Lib.hid (show 2 * X = nrmAt a 0 (j + 1) by rw [HS.out, ← hX.out, if_neg hn]; omega)
     have hX2 : 2 * X < 4294967296 := by rw [hX1.out]; exact hlast
     clear hlast
     go_wp2_with fail
     go_round
     case rel => exact ⟨j + 1, 2 * X, by omega, by go_num, by go_num, hX1, hX2⟩
     case measure => simp [intOf]; omega
   ·have hj' : j = 32 := by omega
    subst hj'
    have e : (X : Int) = (normN a n : Nat) := by rw [hX.out, ← nrmAt_end, hC]
    go_wp2_with fail
    refine bodyPost_ret (pfx_ret rfl _ _ w.heap.size (.int .u32 (normN a n)) (.int .i64 (cl n)) rfl ?_) rfl ?_
    ·have hcl : ((cl n : Nat) : Int) = 0 := by rw [hC]; rfl
     rw [hcl]
     exact Blk.new w _ _
    ·exact ⟨by first | rfl | (rw [hC]; rfl) | (rw [hC]; done) | (rw [hC]; rfl) | (simp only [hC]; rfl), (Below.refl _ _).alloc (Nat.le_refl _) _⟩
 ·have h1 : ¬ n < 0 := by omega
  go_enter Tryz.func230, Tryz.ntmps230
  go_wp2_with fail
  go_loop [6, 7] (fun x i => ∃ (j X : Nat), j ≤ 32 ∧ i = .int .i64 j ∧ x = .int .i64 X ∧ Hid (X = nrmAt a 32 j) ∧ X < 4294967296) (fun _ i => 32 - (intOf i).toNat)
  case atStart => exact ⟨0, 0, by omega, rfl, rfl, Lib.hid (nrmAt_zero a _ ha).symm, by omega⟩
  case round =>
   obtain ⟨j, X, hj, rfl, rfl, hX, hXl⟩ := hrel
   by_cases hlt : j < 32
   ·have hji : (j : Int) < 32 := by omega
    have HS := Lib.hid (nrmAt_succ a 32 j hlt)
    have hlast := nrmAt_lt a 32 (j + 1) ha (by omega) (by omega)
    by_cases hn : j < 32
    ·have hni : (j : Int) < 32 := by omega
     obtain ⟨Y, hY⟩ : ∃ Y, bitN a (j : Int) = Y := ⟨_, rfl⟩
     have HY := Lib.hid hY
     have hX1 := Lib.hid (show 2 * X + Y = nrmAt a 32 (j + 1) by rw [HS.out, ← hX.out, if_pos hn, hY])
     have hX2 : 2 * X + Y < 4294967296 := by rw [hX1.out]; exact hlast
     clear hlast hY
     go_wp2_with fail
     refine (refBit a ha (j : Int) _).mono ?_
     rw [HY.out]
     rintro _ _ ⟨rfl, rfl⟩
     go_wp2_with fail
     go_round
     case rel => exact ⟨j + 1, 2 * X + Y, by omega, by go_num, by go_num, hX1, hX2⟩
     case measure => simp [intOf]; omega
    ·exact absurd hlt hn
   ·have hj' : j = 32 := by omega
    subst hj'
    have e : (X : Int) = (normN a n : Nat) := by rw [hX.out, ← nrmAt_end, hC]
    go_wp2_with fail
    refine bodyPost_ret (pfx_ret rfl _ _ w.heap.size (.int .u32 (normN a n)) (.int .i64 (cl n)) rfl ?_) rfl ?_
    ·have hcl : ((cl n : Nat) : Int) = 32 := by rw [hC]; rfl
     rw [hcl]
     exact Blk.new w _ _
    ·exact ⟨by first | rfl | (rw [hC]; rfl) | (rw [hC]; done) | (rw [hC]; rfl) | (simp only [hC]; rfl), (Below.refl _ _).alloc (Nat.le_refl _) _⟩
 ·have h0 : ¬ (k : Int) < 0 := by omega
  have h1 : ¬ 32 < (k : Int) := by omega
  go_enter Tryz.func230, Tryz.ntmps230
  go_wp2_with fail
  go_loop [6, 7] (fun x i => ∃ (j X : Nat), j ≤ 32 ∧ i = .int .i64 j ∧ x = .int .i64 X ∧ Hid (X = nrmAt a k j) ∧ X < 4294967296) (fun _ i => 32 - (intOf i).toNat)
  case atStart => exact ⟨0, 0, by omega, rfl, rfl, Lib.hid (nrmAt_zero a _ ha).symm, by omega⟩
  case round =>
   obtain ⟨j, X, hj, rfl, rfl, hX, hXl⟩ := hrel
   by_cases hlt : j < 32
   ·have hji : (j : Int) < 32 := by omega
    have HS := Lib.hid (nrmAt_succ a k j hlt)
    have hlast := nrmAt_lt a k (j + 1) ha (by omega) (by omega)
    by_cases hn : j < k
    ·have hni : (j : Int) < (k : Int) := by omega
     obtain ⟨Y, hY⟩ : ∃ Y, bitN a (j : Int) = Y := ⟨_, rfl⟩
     have HY := Lib.hid hY
     have hX1 := Lib.hid (show 2 * X + Y = nrmAt a k (j + 1) by rw [HS.out, ← hX.out, if_pos hn, hY])
     have hX2 : 2 * X + Y < 4294967296 := by rw [hX1.out]; exact hlast
     clear hlast hY
     go_wp2_with fail
     refine (refBit a ha (j : Int) _).mono ?_
     rw [HY.out]
     rintro _ _ ⟨rfl, rfl⟩
     go_wp2_with fail
     go_round
     case rel => exact ⟨j + 1, 2 * X + Y, by omega, by go_num, by go_num, hX1, hX2⟩
     case measure => simp [intOf]; omega
    ·have hni : ¬ (j : Int) < (k : Int) := by omega
     have hX1 := Lib.hid (show 2 * X = nrmAt a k (j + 1) by rw [HS.out, ← hX.out, if_neg hn]; omega)
     have hX2 : 2 * X < 4294967296 := by rw [hX1.out]; exact hlast
     clear hlast
     go_wp2_with fail
     go_round
     case rel => exact ⟨j + 1, 2 * X, by omega, by go_num, by go_num, hX1, hX2⟩
     case measure => simp [intOf]; omega
   ·have hj' : j = 32 := by omega
    subst hj'
    have e : (X : Int) = (normN a (k : Int) : Nat) := by rw [hX.out, ← nrmAt_end, hC]
    go_wp2_with fail
    refine bodyPost_ret (pfx_ret rfl _ _ w.heap.size (.int .u32 (normN a (k : Int))) (.int .i64 (cl (k : Int))) rfl ?_) rfl ?_
    ·have hcl : ((cl (k : Int) : Nat) : Int) = (k : Int) := by rw [hC]
     rw [hcl]
     exact Blk.new w _ _
    ·exact ⟨by first | rfl | (rw [hC]; rfl) | (rw [hC]; done) | (rw [hC]; rfl) | (simp only [hC]; rfl), (Below.refl _ _).alloc (Nat.le_refl _) _⟩
set_option maxHeartbeats 1000000 in
set_option maxRecDepth 100000 in
theorem refRight (a : Nat) (ha : a < 4294967296) (n : Int) (w : World) :
  Calls Tryz.prog 197 #[.agg #[.int .u32 a, .int .i64 n]] w fun en w' => en = .returned (.bool (pRight a n)) ∧ Below w.heap.size w w' := by
 have hB := Blk.new w 146 #[.int .u32 a, .int .i64 n]
 have c0 := hB.cell 0
 have c1 := hB.cell 1
 have hgl := hB.lt
 have b0 := (Below.refl w.heap.size w).alloc (Nat.le_refl _) (.cells #[.int .u32 a, .int .i64 n] 146)
 obtain ⟨W, hW⟩ : ∃ W, w.alloc (.cells #[.int .u32 a, .int .i64 n] 146) = W := ⟨_, rfl⟩
 rw [hW] at c0 c1 hgl b0 hB
 obtain ⟨N, hN⟩ : ∃ N, normN a n = N := ⟨_, rfl⟩
 obtain ⟨C, hC⟩ : ∃ C, cl n = C := ⟨_, rfl⟩
 have HN := Lib.hid hN
 have HC := Lib.hid hC
 by_cases h1 : N = a
 ·by_cases h2 : (C : Int) = n
  ·have e : pRight a n = true := by
    have := cl_le n
    unfold pRight
    exact decide_eq_true ⟨by omega, by omega, by rw [hN, h1]⟩
   subst h1
   clear hN hC
   subst h2
   go_enter Tryz.func197, Tryz.ntmps197
   go_wp2_with fail
   try rw [hW]
   clear hW
   go_region_held3 (fun w' => Below W.heap.size W w' ∧ w'.cell? ⟨w.heap.size, 0, none⟩ = some (.int .u32 N) ∧ w'.cell? ⟨w.heap.size, 1, none⟩ = some (.int .i64 C))
    (first | (refine keep2c hgl b1 ?_; assumption) | ((repeat' apply And.intro) <;> first | (with_reducible exact Below.drew (Below.refl _ _)) | go_keep))
    ((go_at_call 230; refine (refNorm N ha (C : Int) _).mono ?_; rw [HN.out, HC.out]; rintro _ w1 ⟨rfl, b1⟩))
   all_goals
    have hbf : Below W.heap.size W w1 := And.left (by with_reducible assumption)
    try go_wp2_with fail
    go_ret
    exact ⟨ret_b e.symm, btr b0 hbf b0.size⟩
  ·have e : pRight a n = false := by
    unfold pRight
    exact decide_eq_false fun hh => h2 (by rw [← hC, cl_of hh.1 hh.2.1]; omega)
   have ht : ((C : Int) == n) = false := by simpa using h2
   subst h1
   clear hN hC
   go_enter Tryz.func197, Tryz.ntmps197
   go_wp2_with fail
   try rw [hW]
   clear hW
   go_region_held3 (fun w' => Below W.heap.size W w' ∧ w'.cell? ⟨w.heap.size, 0, none⟩ = some (.int .u32 N) ∧ w'.cell? ⟨w.heap.size, 1, none⟩ = some (.int .i64 n))
    (first | (refine keep2c hgl b1 ?_; assumption) | ((repeat' apply And.intro) <;> first | (with_reducible exact Below.drew (Below.refl _ _)) | go_keep))
    ((go_at_call 230; refine (refNorm N ha n _).mono ?_; rw [HN.out, HC.out]; rintro _ w1 ⟨rfl, b1⟩))
   all_goals
    have hbf : Below W.heap.size W w1 := And.left (by with_reducible assumption)
    try go_wp2_with fail
    go_ret
    exact ⟨ret_b e.symm, btr b0 hbf b0.size⟩
 ·have e : pRight a n = false := by
   unfold pRight
   exact decide_eq_false fun hh => h1 (by rw [← hN]; exact hh.2.2)
  have ht : ((N : Int) == a) = false := by simpa using (by omega : ¬ (N : Int) = a)
  clear hN hC
  go_enter Tryz.func197, Tryz.ntmps197
  go_wp2_with fail
  try rw [hW]
  clear hW
  go_region_held3 (fun w' => Below W.heap.size W w' ∧ w'.cell? ⟨w.heap.size, 0, none⟩ = some (.int .u32 a) ∧ w'.cell? ⟨w.heap.size, 1, none⟩ = some (.int .i64 n))
   (first | (refine keep2c hgl b1 ?_; assumption) | ((repeat' apply And.intro) <;> first | (with_reducible exact Below.drew (Below.refl _ _)) | go_keep))
   ((go_at_call 230; refine (refNorm a ha n _).mono ?_; rw [HN.out, HC.out]; rintro _ w1 ⟨rfl, b1⟩))
  all_goals
   have hbf : Below W.heap.size W w1 := And.left (by with_reducible assumption)
   try go_wp2_with fail
   go_ret
   exact ⟨ret_b e.symm, btr b0 hbf b0.size⟩
theorem u8info : (Tryz.prog.info? 5).map (fun i => (i.zero, i.size, i.bytes)) = some (some (.int .u8 0), 1, 1) := by kernel_rfl
theorem i64_and_mask (m : Int) (k : Nat) (hk : k ≤ 62) : bits .and .i64 m ((2 ^ k - 1 : Nat) : Int) = m % (2 ^ k : Nat) := by
 have hp : 2 ^ k ≤ 2 ^ 62 := Nat.pow_le_pow_right (by omega) hk
 have hp1 : 1 ≤ 2 ^ k := Nat.one_le_two_pow
 have h62 : (2 : Nat) ^ 62 = 4611686018427387904 := by decide
 have hlt : 2 ^ k - 1 < 2 ^ 64 := by omega
 show IntKind.i64.wrap ((BitVec.ofInt 64 m &&& BitVec.ofInt 64 ((2 ^ k - 1 : Nat) : Int)).toNat : Int) = _
 rw [BitVec.toNat_and, BitVec.ofInt_natCast, BitVec.toNat_ofNat, Nat.mod_eq_of_lt hlt, Nat.and_two_pow_sub_one_eq_mod, BitVec.toNat_ofInt]
 have hm : ((m % ((2 ^ 64 : Nat) : Int)).toNat : Int) = m % ((2 ^ 64 : Nat) : Int) := Int.toNat_of_nonneg (Int.emod_nonneg _ (by decide))
 have hd : ((2 ^ k : Nat) : Int) ∣ ((2 ^ 64 : Nat) : Int) := by
  exact_mod_cast Nat.pow_dvd_pow 2 (by omega : k ≤ 64)
 have e1 : (((m % ((2 ^ 64 : Nat) : Int)).toNat % 2 ^ k : Nat) : Int) = m % ((2 ^ k : Nat) : Int) := by
  rw [Int.natCast_emod, hm, Int.emod_emod_of_dvd _ hd]
 rw [e1, IntKind.wrap_i64]
 have h0 : 0 ≤ m % ((2 ^ k : Nat) : Int) := Int.emod_nonneg _ (by omega)
 have h1 : m % ((2 ^ k : Nat) : Int) < ((2 ^ k : Nat) : Int) := Int.emod_lt_of_pos _ (by omega)
 omega
theorem and_ffff (m : Int) : bits .and .i64 m 65535 = m % 65536 := i64_and_mask m 16 (by omega)
theorem u16_wrap_mod (m : Int) : IntKind.u16.wrap (m % 65536) = m % 65536 := by rw [IntKind.wrap_u16]; omega
/-- One byte, laid in a block of its own. -/
theorem BS.one (w : World) (T : Nat) (e : Int) (h0 : 0 ≤ e) (h1 : e ≤ 255) : BS (w.alloc (.cells #[.int .u8 e] T)) (w.heap.size + 1) (some ⟨w.heap.size, 0, none⟩) 1 [ub e] := by
 refine ⟨rfl, rfl, fun _ => ⟨_, rfl, by simp, fun j u hu => ?_⟩⟩
 match j, hu with
 | 0, hu =>
  simp only [bv, List.map_cons, List.map_nil, List.getElem?_cons_zero, Option.some.injEq] at hu
  subst hu
  rw [ub_toNat h0 h1]
  exact (Blk.new w T #[.int .u8 e]).cell 0
section
variable {W0 W : World} {ops : Array Oper} {rest : List Oper} {o : Oper} {a : Act} {Q : Exit → Act → World → Prop}
/-- append(s, x...) onto bytes of the call's own. -/
theorem appB (s x : Operand) (hgd : o.guard = none) (ho : o.op = .call { callee := .builtin .append, args := #[s, x], argTypes := #[38, 38] })
  (base : Nat) (hb : Below base W0 W) (hB : base ≤ W.heap.size) (A : Option Addr) (n c : Nat) (l : List UInt8) (hs : a.eval s = .slice A n c) (hown : OB W 5 base A n c l)
  (B : Nat) (A' : Option Addr) (m c' : Nat) (l' : List UInt8) (hx : a.eval x = .slice A' m c') (hr : BS W B A' m l') (hlen : l.length + l'.length ≤ 140737488355328)
  (h : ∀ (A2 : Option Addr) (n2 c2 : Nat) (w' : World), OB w' 5 base A2 n2 c2 (l ++ l') → Below base W0 w' → base ≤ w'.heap.size → wpList Tryz.prog ops Q rest (a.put o.dst (.slice A2 n2 c2)) w') :
  wpList Tryz.prog ops Q (o :: rest) a W :=
 wpl_app hgd s x 38 ho 5 Tryz.underlying38 u8info base A n c l hs hown B A' m c' l' hx hr hlen hB fun A2 n2 c2 w' h1 h2 _ => h A2 n2 c2 w' h1 (hb.trans h2) (Nat.le_trans hB h2.size)
/-- append(s, v) of one byte, that lies in the block that was laid last. -/
theorem appB1 (s x : Operand) (hgd : o.guard = none) (ho : o.op = .call { callee := .builtin .append, args := #[s, x], argTypes := #[38, 38] })
  (base : Nat) (hb : Below base W0 W) (hB : base ≤ W.heap.size) (A : Option Addr) (n c : Nat) (l : List UInt8) (v : Int) (hs : a.eval s = .slice A n c) (hown : OB W 5 base A n c l)
  (hx : a.eval x = .slice (some ⟨W.heap.size, 0, none⟩) 1 1) (hv0 : 0 ≤ v) (hv1 : v ≤ 255) (hlen : l.length ≤ 140737488355327)
  (h : ∀ (A2 : Option Addr) (n2 c2 : Nat) (w' : World), OB w' 5 base A2 n2 c2 (l ++ [ub v]) → Below base W0 w' → base ≤ w'.heap.size → wpList Tryz.prog ops Q rest (a.put o.dst (.slice A2 n2 c2)) w') :
  wpList Tryz.prog ops Q (o :: rest) a (W.alloc (.cells #[.int .u8 v] 5)) :=
 appB s x hgd ho base (hb.alloc hB _) (by simp; omega) A n c l hs (hown.alloc _) _ _ 1 1 [ub v] hx (BS.one W 5 v hv0 hv1) (by simp; omega) h
end
set_option maxHeartbeats 2000000 in
theorem put16_any (A : Option Addr) (n c : Nat) (l : List UInt8) (m : Int) (w : World) (h : BS w w.heap.size A n l) (hl : l.length ≤ 140737488355320) (h0 : 0 ≤ m) (h1 : m < 65536) :
  Calls Tryz.prog 196 #[.slice A n c, .int .u16 m, .int .i64 2] w (RetB w 5 (l ++ [ub (m / 256), ub (m % 256)])) := by
 go_enter Tryz.func196, Tryz.ntmps196
 go_wp2_with (at_builtin; refine wpl_app rfl (.const (.slice none 0 0)) (.tmp 9) _ rfl 5 Tryz.underlying38 u8info w.heap.size none 0 0 [] rfl OB.nil_ w.heap.size A n c l rfl h (by simp; omega) (Nat.le_refl _) ?_; intro A0 n0 c0 w0 o0 b0 g0)
 rw [List.nil_append] at o0
 have s0 := b0.size
 refine wp_loop_rounds 3 ?_
 rw [rounds_succ]
 go_wp2_with (at_builtin; refine wpl_app rfl (.tmp 17) (.tmp 23) _ rfl 5 Tryz.underlying38 u8info w.heap.size A0 n0 c0 (l) (by rfl) (o0.alloc _) (w0.heap.size + 1) (some ⟨w0.heap.size, 0, none⟩) 1 1 [ub (m / 256)] (by rfl) (BS.one _ _ _ (by omega) (by omega)) (by simp; omega) (by simp; omega) ?_; intro A1 n1 c1 w1 o1 b1 g1)
 have t1 : Below w.heap.size w w1 := (b0.alloc (by omega) _).trans b1
 have s1 := t1.size
 rw [rounds_succ]
 go_wp2_with (at_builtin; refine wpl_app rfl (.tmp 17) (.tmp 23) _ rfl 5 Tryz.underlying38 u8info w.heap.size A1 n1 c1 (l ++ [ub (m / 256)]) (by rfl) (o1.alloc _) (w1.heap.size + 1) (some ⟨w1.heap.size, 0, none⟩) 1 1 [ub (m % 256)] (by rfl) (BS.one _ _ _ (by omega) (by omega)) (by simp; omega) (by simp; omega) ?_; intro A2 n2 c2 w2 o2 b2 g2)
 have t2 : Below w.heap.size w w2 := (t1.alloc (by omega) _).trans b2
 have s2 := t2.size
 rw [rounds_succ]
 go_wp2_with fail
 go_ret
 exact ⟨A2, n2, c2, rfl, by simpa using o2, t2⟩
set_option maxHeartbeats 2000000 in
theorem put32_any (A : Option Addr) (n c : Nat) (l : List UInt8) (m : Int) (w : World) (h : BS w w.heap.size A n l) (hl : l.length ≤ 140737488355320) (h0 : 0 ≤ m) (h1 : m < 4294967296) :
  Calls Tryz.prog 209 #[.slice A n c, .int .u32 m, .int .i64 4] w (RetB w 5 (l ++ [ub (m / 16777216), ub (m / 65536 % 256), ub (m / 256 % 256), ub (m % 256)])) := by
 go_enter Tryz.func209, Tryz.ntmps209
 go_wp2_with (at_builtin; refine wpl_app rfl (.const (.slice none 0 0)) (.tmp 9) _ rfl 5 Tryz.underlying38 u8info w.heap.size none 0 0 [] rfl OB.nil_ w.heap.size A n c l rfl h (by simp; omega) (Nat.le_refl _) ?_; intro A0 n0 c0 w0 o0 b0 g0)
 rw [List.nil_append] at o0
 have s0 := b0.size
 refine wp_loop_rounds 5 ?_
 rw [rounds_succ]
 go_wp2_with (at_builtin; refine wpl_app rfl (.tmp 17) (.tmp 23) _ rfl 5 Tryz.underlying38 u8info w.heap.size A0 n0 c0 (l) (by rfl) (o0.alloc _) (w0.heap.size + 1) (some ⟨w0.heap.size, 0, none⟩) 1 1 [ub (m / 16777216)] (by rfl) (BS.one _ _ _ (by omega) (by omega)) (by simp; omega) (by simp; omega) ?_; intro A1 n1 c1 w1 o1 b1 g1)
 have t1 : Below w.heap.size w w1 := (b0.alloc (by omega) _).trans b1
 have s1 := t1.size
 rw [rounds_succ]
 go_wp2_with (at_builtin; refine wpl_app rfl (.tmp 17) (.tmp 23) _ rfl 5 Tryz.underlying38 u8info w.heap.size A1 n1 c1 (l ++ [ub (m / 16777216)]) (by rfl) (o1.alloc _) (w1.heap.size + 1) (some ⟨w1.heap.size, 0, none⟩) 1 1 [ub (m / 65536 % 256)] (by rfl) (BS.one _ _ _ (by omega) (by omega)) (by simp; omega) (by simp; omega) ?_; intro A2 n2 c2 w2 o2 b2 g2)
 have t2 : Below w.heap.size w w2 := (t1.alloc (by omega) _).trans b2
 have s2 := t2.size
 rw [rounds_succ]
 go_wp2_with (at_builtin; refine wpl_app rfl (.tmp 17) (.tmp 23) _ rfl 5 Tryz.underlying38 u8info w.heap.size A2 n2 c2 (l ++ [ub (m / 16777216)] ++ [ub (m / 65536 % 256)]) (by rfl) (o2.alloc _) (w2.heap.size + 1) (some ⟨w2.heap.size, 0, none⟩) 1 1 [ub (m / 256 % 256)] (by rfl) (BS.one _ _ _ (by omega) (by omega)) (by simp; omega) (by simp; omega) ?_; intro A3 n3 c3 w3 o3 b3 g3)
 have t3 : Below w.heap.size w w3 := (t2.alloc (by omega) _).trans b3
 have s3 := t3.size
 rw [rounds_succ]
 go_wp2_with (at_builtin; refine wpl_app rfl (.tmp 17) (.tmp 23) _ rfl 5 Tryz.underlying38 u8info w.heap.size A3 n3 c3 (l ++ [ub (m / 16777216)] ++ [ub (m / 65536 % 256)] ++ [ub (m / 256 % 256)]) (by rfl) (o3.alloc _) (w3.heap.size + 1) (some ⟨w3.heap.size, 0, none⟩) 1 1 [ub (m % 256)] (by rfl) (BS.one _ _ _ (by omega) (by omega)) (by simp; omega) (by simp; omega) ?_; intro A4 n4 c4 w4 o4 b4 g4)
 have t4 : Below w.heap.size w w4 := (t3.alloc (by omega) _).trans b4
 have s4 := t4.size
 rw [rounds_succ]
 go_wp2_with fail
 go_ret
 exact ⟨A4, n4, c4, rfl, by simpa using o4, t4⟩
/-- octet.Put16. -/
def b16 (m : Int) : List UInt8 := [ub (m % 65536 / 256), ub (m % 256)]
def b32 (m : Int) : List UInt8 := [ub (m / 16777216), ub (m / 65536 % 256), ub (m / 256 % 256), ub (m % 256)]
theorem octetPut32 (A : Option Addr) (n c : Nat) (l : List UInt8) (m : Int) (w : World) (h : BS w w.heap.size A n l) (hl : l.length ≤ 140737488355320) (h0 : 0 ≤ m) (h1 : m < 4294967296) :
  Calls Tryz.prog 161 #[.slice A n c, .int .u32 m] w (RetB w 5 (l ++ b32 m)) := by
 go_enter Tryz.func161, Tryz.ntmps161
 go_wp2_with fail
 refine (put32_any A n c l m _ h hl h0 h1).mono ?_
 rintro _ w1 ⟨A1, n1, c1, rfl, o1, b1⟩
 go_wp2_with fail
 go_ret
 exact ⟨A1, n1, c1, rfl, o1, b1⟩
theorem octetPut16 (A : Option Addr) (n c : Nat) (l : List UInt8) (m : Int) (w : World) (h : BS w w.heap.size A n l) (hl : l.length ≤ 140737488355320) :
  Calls Tryz.prog 136 #[.slice A n c, .int .i64 m] w (RetB w 5 (l ++ b16 m)) := by
 go_enter Tryz.func136, Tryz.ntmps136
 go_wp2_with fail
 rw [and_ffff, u16_wrap_mod]
 refine (put16_any A n c l (m % 65536) _ h hl (by omega) (by omega)).mono ?_
 rintro _ w1 ⟨A1, n1, c1, rfl, o1, b1⟩
 go_wp2_with fail
 go_ret
 refine ⟨A1, n1, c1, rfl, ?_, b1⟩
 have e : m % 65536 % 256 = m % 256 := by omega
 rw [e] at o1
 exact o1
/-- The digits. -/
def digitsL : List Nat := [48, 49, 50, 51, 52, 53, 54, 55, 56, 57, 97, 98, 99, 100, 101, 102]
/-- Digit k. -/
def dg (k : Nat) : UInt8 := UInt8.ofNat (digitsL[k]?.getD 0)
/-- Bytes as hexadecimal digits. -/
def hexL (l : List UInt8) : List UInt8 := l.flatMap fun b => [dg (b.toNat / 16), dg (b.toNat % 16)]
/-- A number's decimal digits. -/
def decU (n : Nat) : List UInt8 := if n < 10 then [dg n] else decU (n / 10) ++ [dg (n % 10)]
termination_by n
theorem decU_small {n : Nat} (h : n < 10) : decU n = [dg n] := by rw [decU, if_pos h]
theorem decU_big {n : Nat} (h : ¬ n < 10) : decU n = decU (n / 10) ++ [dg (n % 10)] := by rw [decU, if_neg h]
theorem decU_ne (n : Nat) : decU n ≠ [] := by
 by_cases h : n < 10
 ·rw [decU_small h]; simp
 ·rw [decU_big h]; simp
theorem decU_len (k : Nat) : ∀ n : Nat, n < 10 ^ (k + 1) → (decU n).length ≤ k + 1 := by
 induction k with
 | zero => intro n h; rw [decU_small (by omega)]; simp
 | succ k ih =>
  intro n h
  by_cases h10 : n < 10
  ·rw [decU_small h10]; simp
  ·rw [decU_big h10, List.length_append]
   have : n / 10 < 10 ^ (k + 1) := by
    have e : 10 ^ (k + 1 + 1) = 10 ^ (k + 1) * 10 := Nat.pow_succ _ _
    omega
   have := ih _ this
   simp; omega
/-- A whole number's text. -/
def decI (n : Int) : List UInt8 := (if n < 0 then [45] else []) ++ decU n.natAbs
/-- What is written so far, when u is still to be written. -/
def DecAt (U u : Nat) (L : List UInt8) : Prop := decU U = decU u ++ L
theorem DecAt.start (U : Nat) : DecAt U U [] := by simp [DecAt]
theorem DecAt.last {U u : Nat} {L : List UInt8} (h : DecAt U u L) (hu : u < 10) : decU U = dg u :: L := by
 unfold DecAt at h; rw [h, decU_small hu]; rfl
theorem DecAt.step {U u : Nat} {L : List UInt8} (h : DecAt U u L) (hu : ¬ u < 10) : DecAt U (u / 10) (dg (u % 10) :: L) := by
 unfold DecAt at h ⊢; rw [h, decU_big hu]; simp
theorem DecAt.len {U u : Nat} {L : List UInt8} (h : DecAt U u L) (hU : U < 10 ^ 20) : L.length < 20 := by
 have h1 := decU_len 19 U hU
 have h2 := decU_ne u
 have h3 : 0 < (decU u).length := List.length_pos_iff.2 h2
 unfold DecAt at h
 rw [h, List.length_append] at h1
 omega
/-- The table, as a row of sixteen cells. -/
def digArr : Array Value := (digitsL.map fun b : Nat => Value.int .u8 (b : Int)).toArray
theorem digArr_at (k : Nat) (h : k < 16) : digArr[k]? = some (.int .u8 ((dg k).toNat : Int)) := by
 have : ∀ k : Fin 16, digitsL[k.val]? = some ((dg k.val).toNat) := by decide
 have h1 := this ⟨k, h⟩
 simp only at h1
 simp only [digArr, List.getElem?_toArray, List.getElem?_map, h1]
 rfl
/-- What a digit stands for; 16: it is none. -/
def valI (c : Int) : Int := if 48 ≤ c ∧ c ≤ 57 then c - 48 else if 97 ≤ c ∧ c ≤ 102 then c - 87 else 16
theorem valI_hit (k : Nat) (hk : k < 16) : valI ((dg k).toNat : Int) = k := by
 have : ∀ k : Fin 16, valI ((dg k.val).toNat : Int) = (k.val : Int) := by decide
 exact this ⟨k, hk⟩
theorem dg_low (k : Nat) (hk : k < 10) : (dg k).toNat = 48 + k := by
 have : ∀ k : Fin 10, (dg k.val).toNat = 48 + k.val := by decide
 exact this ⟨k, hk⟩
/-- Byte k of a list, as a number. -/
def lb (l : List UInt8) (k : Nat) : Nat := (l[k]?.getD 0).toNat
theorem lb_lt (l : List UInt8) (k : Nat) : lb l k < 256 := UInt8.toNat_lt _
theorem lb_eq (l : List UInt8) (k : Nat) (h : k < l.length) : lb l k = (l[k]).toNat := by simp [lb, h]
theorem BS.form {w : World} {B n : Nat} {A : Option Addr} {l : List UInt8} (h : BS w B A n l) {k : Nat} (hk : k < n) : ∃ b off, A = some ⟨b, off, none⟩ ∧ b < B ∧ w.cell? ⟨b, off + k, none⟩ = some (.int .u8 (lb l k : Int)) := by
 have hk' : k < l.length := by rw [← h.len]; exact hk
 obtain ⟨ad, rfl, hb, hc⟩ := h.at_ hk'
 have h0 := h.at_ (k := 0) (by omega)
 obtain ⟨ad', e, _, hc0⟩ := h0
 injection e with e
 subst e
 have hs : ad.spot = none := by
  have := World.cell?_spot hc0
  simpa [Addr.add] using this
 obtain ⟨b, off, spot⟩ := ad
 simp only at hs
 subst hs
 refine ⟨b, off, rfl, hb, ?_⟩
 rw [lb_eq l k hk', ← hc]
 congr 1
 unfold Addr.add
 split <;> simp_all
/-- Pair k of a text's letters: are both digits; which byte it says. -/
def pairOK (l : List UInt8) (k : Nat) : Bool := decide (valI (lb l (2 * k) : Int) ≤ 15) && decide (valI (lb l (2 * k + 1) : Int) ≤ 15)
def pairB (l : List UInt8) (k : Nat) : UInt8 := ub (16 * valI (lb l (2 * k) : Int) + valI (lb l (2 * k + 1) : Int))
def pairs (l : List UInt8) (k : Nat) : List UInt8 := (List.range k).map (pairB l)
/-- The bytes that a text says. -/
def unhexL (l : List UInt8) : Option (List UInt8) := if l.length % 2 = 0 ∧ ∀ k, k < l.length / 2 → pairOK l k = true then some (pairs l (l.length / 2)) else none
/-- Fresh bytes and a bool are handed back: none: nil and false. -/
def RetBB (w : World) (T : Nat) (o : Option (List UInt8)) (e : Ending) (w' : World) : Prop := ∃ (A : Option Addr) (n c : Nat), e = .returned (.tuple #[.slice A n c, .bool o.isSome]) ∧ OB w' T w.heap.size A n c (o.getD []) ∧ Below w.heap.size w w'
theorem RetBB.none_ {w w' : World} {T : Nat} (hb : Below w.heap.size w w') : RetBB w T none (.returned (.tuple #[.slice none 0 0, .bool false])) w' := ⟨none, 0, 0, rfl, OB.nil_, hb⟩
/-- What the document's search finds of the first j pairs. -/
def found (l : List UInt8) (j : Nat) : List UInt8 := (List.range j).flatMap fun i => if pairOK l i then [pairB l i] else []
/-- What the document's search finds of pair j among the first k bytes. -/
def part (l : List UInt8) (j k : Nat) : List UInt8 := if pairOK l j = true ∧ (pairB l j).toNat < k then [pairB l j] else []
/-- A text's value, whatever letters it has. -/
def decVal (l : List UInt8) : Int := l.foldl (fun n c => 10 * n + ((c.toNat : Int) - 48)) 0
theorem decVal_snoc (l : List UInt8) (c : UInt8) : decVal (l ++ [c]) = 10 * decVal l + ((c.toNat : Int) - 48) := by simp [decVal]
theorem dg_small (k : Nat) (h : k < 10) : ((dg k).toNat : Int) - 48 = k := by rw [dg_low k h]; omega
theorem decVal_decU (k : Nat) : ∀ n : Nat, n < 10 ^ k → decVal (decU n) = n := by
 induction k with
 | zero => intro n h; rw [decU_small (by omega)]; have := dg_small n (by omega); simp [decVal]; exact this
 | succ k ih =>
  intro n h
  by_cases h10 : n < 10
  ·rw [decU_small h10]; have := dg_small n h10; simp [decVal]; exact this
  ·have hp : 10 ^ (k + 1) = 10 ^ k * 10 := Nat.pow_succ _ _
   rw [decU_big h10, decVal_snoc, ih (n / 10) (by omega), dg_small _ (by omega)]
   omega
theorem decVal_of (n : Nat) : decVal (decU n) = n := decVal_decU n n (Nat.lt_pow_self (by omega))
theorem decU_digits (k : Nat) : ∀ n : Nat, n < 10 ^ k → ∀ c ∈ decU n, valI (c.toNat : Int) ≤ 9 := by
 have hd : ∀ j, j < 10 → valI ((dg j).toNat : Int) ≤ 9 := fun j hj => by rw [valI_hit j (by omega)]; omega
 induction k with
 | zero => intro n h c hc; rw [decU_small (by omega)] at hc; simp at hc; subst hc; exact hd n (by omega)
 | succ k ih =>
  intro n h c hc
  by_cases h10 : n < 10
  ·rw [decU_small h10] at hc; simp at hc; subst hc; exact hd n h10
  ·have hp : 10 ^ (k + 1) = 10 ^ k * 10 := Nat.pow_succ _ _
   rw [decU_big h10, List.mem_append] at hc
   rcases hc with hc | hc
   ·exact ih (n / 10) (by omega) c hc
   ·simp at hc; subst hc; exact hd _ (by omega)
theorem decU_digit (n : Nat) : ∀ c ∈ decU n, valI (c.toNat : Int) ≤ 9 := decU_digits n n (Nat.lt_pow_self (by omega))
/-- What a text answers, read as a number: v and ok. -/
def IntAns (l : List UInt8) (v : Int) (ok : Bool) : Prop := (ok = true ∧ 0 ≤ v ∧ v ≤ 4294967295 ∧ decI v = l) ∨ (ok = false ∧ v = 0 ∧ ∀ N : Nat, (N : Int) ≤ 4294967295 → decU N ≠ l)
theorem decI_nat (N : Nat) : decI (N : Int) = decU N := by unfold decI; rw [if_neg (by omega)]; rfl
theorem IntAns.one {l : List UInt8} {v v' : Int} {ok ok' : Bool} (h : IntAns l v ok) (h' : IntAns l v' ok') : v = v' ∧ ok = ok' := by
 rcases h with ⟨rfl, h1, h2, h3⟩ | ⟨rfl, rfl, h3⟩
 ·obtain ⟨N, rfl⟩ := Int.eq_ofNat_of_zero_le h1
  rw [decI_nat] at h3
  rcases h' with ⟨rfl, g1, g2, g3⟩ | ⟨rfl, rfl, g3⟩
  ·obtain ⟨M, rfl⟩ := Int.eq_ofNat_of_zero_le g1
   rw [decI_nat, ← h3] at g3
   have e := congrArg decVal g3
   rw [decVal_of, decVal_of] at e
   exact ⟨e.symm, rfl⟩
  ·exact absurd h3 (g3 N h2)
 ·rcases h' with ⟨rfl, g1, g2, g3⟩ | ⟨rfl, rfl, g3⟩
  ·obtain ⟨M, rfl⟩ := Int.eq_ofNat_of_zero_le g1
   rw [decI_nat] at g3
   exact absurd g3 (h3 M g2)
  ·exact ⟨rfl, rfl⟩
/-- Any number's digits are read again, if it may be. -/
theorem IntAns.text (n : Int) : IntAns (decI n) (if 0 ≤ n ∧ n ≤ 4294967295 then n else 0) (decide (0 ≤ n ∧ n ≤ 4294967295)) := by
 by_cases h : 0 ≤ n ∧ n ≤ 4294967295
 ·rw [if_pos h]; exact .inl ⟨by simp; exact h, h.1, h.2, rfl⟩
 ·rw [if_neg h]
  refine .inr ⟨by simp; omega, rfl, fun N hN he => ?_⟩
  by_cases hn : 0 ≤ n
  ·obtain ⟨M, rfl⟩ := Int.eq_ofNat_of_zero_le hn
   rw [decI_nat] at he
   have e := congrArg decVal he
   rw [decVal_of, decVal_of] at e
   omega
  ·have e : decI n = 45 :: decU n.natAbs := by unfold decI; rw [if_pos (by omega)]; rfl
   have hd := decU_digit N 45 (by rw [he, e]; simp)
   exact absurd hd (by decide)
/-- A text with a letter that is no digit says no number. -/
theorem IntAns.letter {l : List UInt8} {c : UInt8} (hc : c ∈ l) (h : 9 < valI (c.toNat : Int)) : IntAns l 0 false :=
 .inr ⟨rfl, rfl, fun N _ he => by
  have := decU_digit N c (by rw [he]; exact hc)
  omega⟩
theorem IntAns.no {l : List UInt8} (h : ∀ N : Nat, (N : Int) ≤ 4294967295 → decU N = l → False) : IntAns l 0 false := .inr ⟨rfl, rfl, fun N hN he => h N hN he⟩
/-- A number as a text: four numbers with dots between. -/
def adT (a : Nat) : List UInt8 := decU (a / 16777216) ++ [46] ++ decU (a / 65536 % 256) ++ [46] ++ decU (a / 256 % 256) ++ [46] ++ decU (a % 256)
/-- One letter of a text that is read; none: no number. -/
def paStep (st : Option (Nat × Nat)) (c : UInt8) : Option (Nat × Nat) :=
 match st with
 | none => none
 | some (a, p) => if c.toNat = 46 then some (a * 256 % 4294967296 + p % 256, 0) else if 48 ≤ c.toNat ∧ c.toNat ≤ 57 then some (a, min (10 * p + (c.toNat - 48)) 1000) else none
/-- The same of the document's reader. -/
def prStep (st : Option (Nat × Nat)) (c : UInt8) : Option (Nat × Nat) :=
 match st with
 | none => none
 | some (a, p) =>
  if c.toNat = 46 then (if 16777215 < 256 * a + p then none else some (256 * a + p, 0))
  else if 10 * p + c.toNat < 48 ∨ 255 < 10 * p + c.toNat - 48 then none else some (a, 10 * p + c.toNat - 48)
def paL (l : List UInt8) : Option (Nat × Nat) := l.foldl paStep (some (0, 0))
def prL (l : List UInt8) : Option (Nat × Nat) := l.foldl prStep (some (0, 0))
theorem pa_none (l : List UInt8) : l.foldl paStep none = none := by induction l with | nil => rfl | cons c l ih => exact ih
theorem pa_step {a p d : Nat} {c : UInt8} (e : c.toNat = 48 + d) (hd : d < 10) (h : 10 * p + d ≤ 1000) : paStep (some (a, p)) c = some (a, 10 * p + d) := by
 unfold paStep
 simp only
 rw [if_neg (by omega), if_pos (by omega), e, show 48 + d - 48 = d by omega, Nat.min_eq_left h]
theorem pa_dec (a : Nat) : ∀ k n : Nat, n < 10 ^ k → n ≤ 1000 → (decU n).foldl paStep (some (a, 0)) = some (a, n) := by
 intro k
 induction k with
 | zero =>
  intro n h _
  rw [decU_small (by omega), List.foldl_cons, pa_step (dg_low n (by omega)) (by omega) (by omega)]
  simp
 | succ k ih =>
  intro n h hn
  by_cases h10 : n < 10
  ·rw [decU_small h10, List.foldl_cons, pa_step (dg_low n h10) h10 (by omega)]
   simp
  ·have hp : 10 ^ (k + 1) = 10 ^ k * 10 := Nat.pow_succ _ _
   rw [decU_big h10, List.foldl_append, ih (n / 10) (by omega) (by omega), List.foldl_cons, pa_step (dg_low (n % 10) (by omega)) (by omega) (by omega)]
   simp
   omega
theorem pa_dot (a p : Nat) : [(46 : UInt8)].foldl paStep (some (a, p)) = some (a * 256 % 4294967296 + p % 256, 0) := by simp [paStep]
theorem pa_adT (a : Nat) (h : a < 4294967296) : paL (adT a) = some (a / 256, a % 256) := by
 unfold paL adT
 simp only [List.foldl_append]
 rw [pa_dec 0 3 _ (by omega) (by omega), pa_dot, pa_dec _ 3 _ (by omega) (by omega), pa_dot, pa_dec _ 3 _ (by omega) (by omega), pa_dot, pa_dec _ 3 _ (by omega) (by omega)]
 congr 2
 omega
theorem adT_inj {a b : Nat} (ha : a < 4294967296) (hb : b < 4294967296) (h : adT a = adT b) : a = b := by
 have e := pa_adT a ha
 rw [h, pa_adT b hb] at e
 injection e with e
 injection e with e1 e2
 omega
/-- What a text answers, read as a number with dots. -/
def AdAns (l : List UInt8) (v : Nat) (ok : Bool) : Prop := (ok = true ∧ v < 4294967296 ∧ adT v = l) ∨ (ok = false ∧ v = 0 ∧ ∀ a, a < 4294967296 → adT a ≠ l)
theorem AdAns.one {l : List UInt8} {v v' : Nat} {ok ok' : Bool} (h : AdAns l v ok) (h' : AdAns l v' ok') : v = v' ∧ ok = ok' := by
 rcases h with ⟨rfl, h1, h2⟩ | ⟨rfl, rfl, h2⟩
 ·rcases h' with ⟨rfl, g1, g2⟩ | ⟨rfl, rfl, g2⟩
  ·exact ⟨adT_inj h1 g1 (h2.trans g2.symm), rfl⟩
  ·exact absurd h2 (g2 v h1)
 ·rcases h' with ⟨rfl, g1, g2⟩ | ⟨rfl, rfl, g2⟩
  ·exact absurd g2 (h2 v' g1)
  ·exact ⟨rfl, rfl⟩
theorem AdAns.text (a : Nat) (h : a < 4294967296) : AdAns (adT a) a true := .inl ⟨rfl, h, rfl⟩
/-- No letter of a number's text is a slash. -/
theorem adT_noslash (a : Nat) (h : a < 4294967296) : (47 : UInt8) ∉ adT a := by
 intro hm
 obtain ⟨s, t, e⟩ := List.append_of_mem hm
 have e1 := pa_adT a h
 rw [e] at e1
 unfold paL at e1
 rw [List.foldl_append, List.foldl_cons] at e1
 have e2 : ∀ st : Option (Nat × Nat), paStep st 47 = none := by
  intro st
  cases st with
  | none => rfl
  | some q => simp [paStep]
 rw [e2, pa_none] at e1
 cases e1
/-- A prefix as a text. -/
def pfT (a n : Nat) : List UInt8 := adT a ++ [47] ++ decU n
theorem decU_inj {a b : Nat} (h : decU a = decU b) : a = b := by
 have := decVal_of a
 rw [h, decVal_of] at this
 omega
/-- A list that has a slash: what stands ahead of the first one, and behind it. -/
theorem slash_split {l l' m m' : List UInt8} (h : l ++ 47 :: m = l' ++ 47 :: m') (hl : (47 : UInt8) ∉ l) (hl' : (47 : UInt8) ∉ l') : l = l' ∧ m = m' := by
 induction l generalizing l' with
 | nil =>
  cases l' with
  | nil => exact ⟨rfl, by simpa using h⟩
  | cons x l' =>
   simp only [List.nil_append, List.cons_append, List.cons.injEq] at h
   exact absurd (by rw [← h.1]; simp) hl'
 | cons x l ih =>
  cases l' with
  | nil =>
   simp only [List.nil_append, List.cons_append, List.cons.injEq] at h
   exact absurd (by rw [h.1]; simp) hl
  | cons y l' =>
   simp only [List.cons_append, List.cons.injEq] at h
   obtain ⟨h1, h2⟩ := ih h.2 (fun hh => hl (by simp [hh])) (fun hh => hl' (by simp [hh]))
   exact ⟨by rw [h.1, h1], h2⟩
/-- What a text answers, read as a prefix. -/
def PfAns (ok? : Nat → Nat → Bool) (l : List UInt8) (a n : Nat) (ok : Bool) : Prop := (ok = true ∧ a < 4294967296 ∧ n ≤ 32 ∧ ok? a n = true ∧ pfT a n = l) ∨ (ok = false ∧ a = 0 ∧ n = 0 ∧ ∀ b m, b < 4294967296 → m ≤ 32 → ok? b m = true → pfT b m ≠ l)
theorem pfT_inj {a b n m : Nat} (ha : a < 4294967296) (hb : b < 4294967296) (h : pfT a n = pfT b m) : a = b ∧ n = m := by
 unfold pfT at h
 rw [List.append_assoc, List.append_assoc] at h
 obtain ⟨h1, h2⟩ := slash_split h (adT_noslash a ha) (adT_noslash b hb)
 exact ⟨adT_inj ha hb h1, decU_inj h2⟩
theorem PfAns.one {g : Nat → Nat → Bool} {l : List UInt8} {a n a' n' : Nat} {ok ok' : Bool} (h : PfAns g l a n ok) (h' : PfAns g l a' n' ok') : a = a' ∧ n = n' ∧ ok = ok' := by
 rcases h with ⟨rfl, h1, h2, h3, h4⟩ | ⟨rfl, rfl, rfl, h4⟩
 ·rcases h' with ⟨rfl, g1, g2, g3, g4⟩ | ⟨rfl, rfl, rfl, g4⟩
  ·obtain ⟨e1, e2⟩ := pfT_inj h1 g1 (h4.trans g4.symm)
   exact ⟨e1, e2, rfl⟩
  ·exact absurd h4 (g4 a n h1 h2 h3)
 ·rcases h' with ⟨rfl, g1, g2, g3, g4⟩ | ⟨rfl, rfl, rfl, g4⟩
  ·exact absurd g4 (h4 a' n' g1 g2 g3)
  ·exact ⟨rfl, rfl, rfl⟩
def zero20 : Array Value := #[.int .u8 0, .int .u8 0, .int .u8 0, .int .u8 0, .int .u8 0, .int .u8 0, .int .u8 0, .int .u8 0, .int .u8 0, .int .u8 0, .int .u8 0, .int .u8 0, .int .u8 0, .int .u8 0, .int .u8 0, .int .u8 0, .int .u8 0, .int .u8 0, .int .u8 0, .int .u8 0]
def digS : ByteArray := ⟨#[48, 49, 50, 51, 52, 53, 54, 55, 56, 57, 97, 98, 99, 100, 101, 102]⟩
/-- A number and a bool are handed back: what the text says. -/
def RetIB (w : World) (l : List UInt8) (e : Ending) (w' : World) : Prop := ∃ (v : Int) (ok : Bool), e = .returned (.tuple #[.int .i64 v, .bool ok]) ∧ IntAns l v ok ∧ Below w.heap.size w w'
def dig10 : ByteArray := ⟨#[48, 49, 50, 51, 52, 53, 54, 55, 56, 57]⟩
/-- What is written so far, when M is still to be written; nothing is left when M is 0. -/
def RefAt (U M : Nat) (L : List UInt8) : Prop := (M ≠ 0 → decU U = decU M ++ L) ∧ (M = 0 → L = decU U)
theorem RefAt.start (U : Nat) (h : 1 ≤ U) : RefAt U U [] := ⟨fun _ => by simp, fun h0 => by omega⟩
theorem RefAt.last {U M : Nat} {L : List UInt8} (h : RefAt U M L) (h0 : M = 0) : L = decU U := h.2 h0
theorem RefAt.next {U M : Nat} {L : List UInt8} (h : RefAt U M L) (h0 : M ≠ 0) : RefAt U (M / 10) (dg (M % 10) :: L) := by
 have e := h.1 h0
 by_cases h10 : M < 10
 ·have hq : M / 10 = 0 := by omega
  have hr : M % 10 = M := by omega
  rw [hq, hr]
  refine ⟨fun hh => absurd rfl hh, fun _ => ?_⟩
  rw [e, decU_small h10]; rfl
 ·refine ⟨fun _ => ?_, fun hh => by omega⟩
  rw [e, decU_big h10]; simp
theorem RefAt.size {U M : Nat} {L : List UInt8} (h : RefAt U M L) (hU : U < 10 ^ 20) : (⟨L.toArray⟩ : ByteArray).size ≤ 20 := by
 have h1 := decU_len 19 U hU
 have e : (⟨L.toArray⟩ : ByteArray).size = L.length := rfl
 rw [e]
 by_cases h0 : M = 0
 ·rw [h.2 h0]; exact h1
 ·have h2 := congrArg List.length (h.1 h0)
  rw [List.length_append] at h2
  omega
/-- The document's Put16, its number brought between 0 and 65535. -/
theorem ref01Put16_core (m r x : Int) (A : Option Addr) (n c : Nat) (l : List UInt8) (w : World) (h : BS w w.heap.size A n l) (hl : l.length ≤ 140737488355320) (hr : m.tmod 65536 = r) (h0 : -65536 < r) (h1 : r < 65536) (hx : x = if r < 0 then r + 65536 else r) :
  Calls Tryz.prog 85 #[.slice A n c, .int .i64 m] w (RetB w 5 (l ++ [ub (x / 256), ub (x % 256)])) := by
 by_cases hneg : r < 0
 all_goals
  simp only [hneg, if_true, if_false] at hx
  subst hx
  go_enter Tryz.func85, Tryz.ntmps85
  go_wp2_with (first
   | (at_builtin; refine appB (.tmp 13) (.tmp 14) rfl rfl w.heap.size (Below.refl _ w) (Nat.le_refl _) none 0 0 [] rfl OB.nil_ w.heap.size A n c l rfl h (by simp; omega) ?_; intro A0 n0 c0 w0 o0 b0 s0; rw [List.nil_append] at o0)
   | (at_builtin; refine appB1 (.tmp 16) (.tmp 20) rfl rfl w.heap.size b0 s0 A0 n0 c0 l _ rfl o0 rfl (by omega) (by omega) (by omega) ?_; intro A1 n1 c1 w1 o1 b1 s1)
   | (at_builtin; refine appB1 (.tmp 22) (.tmp 26) rfl rfl w.heap.size b1 s1 A1 n1 c1 _ _ rfl o1 rfl (by omega) (by omega) (by simp; omega) ?_; intro A2 n2 c2 w2 o2 b2 s2))
  go_ret
  exact ⟨A2, n2, c2, rfl, by simpa using o2, b2⟩
theorem ref01Put16 (A : Option Addr) (n c : Nat) (l : List UInt8) (m : Int) (w : World) (h : BS w w.heap.size A n l) (hl : l.length ≤ 140737488355320) :
  Calls Tryz.prog 85 #[.slice A n c, .int .i64 m] w (RetB w 5 (l ++ b16 m)) := by
 have hm : m.tmod 65536 = if m < 0 then -((-m) % 65536) else m % 65536 := by
  split
  ·have h1 : m = -(-m) := by omega
   rw [h1, Int.neg_tmod, Int.tmod_eq_emod_of_nonneg (by omega), Int.neg_neg]
  ·exact Int.tmod_eq_emod_of_nonneg (by omega)
 have hx : m % 65536 = if m.tmod 65536 < 0 then m.tmod 65536 + 65536 else m.tmod 65536 := by
  rw [hm]; split <;> split <;> omega
 refine (ref01Put16_core m (m.tmod 65536) (m % 65536) A n c l w h hl rfl (by rw [hm]; split <;> omega) (by rw [hm]; split <;> omega) hx).mono ?_
 have e : m % 65536 % 256 = m % 256 := by omega
 rw [e]
 exact fun _ _ hh => hh
theorem ref01Put32 (A : Option Addr) (n c : Nat) (l : List UInt8) (m : Int) (w : World) (h : BS w w.heap.size A n l) (hl : l.length ≤ 140737488355310) (h0 : 0 ≤ m) (h1 : m < 4294967296) :
  Calls Tryz.prog 140 #[.slice A n c, .int .u32 m] w (RetB w 5 (l ++ b32 m)) := by
 go_enter Tryz.func140, Tryz.ntmps140
 go_wp2_with fail
 refine (ref01Put16 A n c l (m / 65536) _ h (by omega)).mono ?_
 rintro _ w1 ⟨A1, n1, c1, rfl, o1, b1⟩
 go_wp2_with fail
 refine (ref01Put16 A1 n1 c1 (l ++ b16 (m / 65536)) (m % 65536) _ o1.bs (by simp [b16]; omega)).mono ?_
 rintro _ w2 ⟨A2, n2, c2, rfl, o2, b2⟩
 go_wp2_with fail
 go_ret
 have e1 : m / 65536 % 65536 / 256 = m / 16777216 := by omega
 have e3 : m % 65536 / 256 = m / 256 % 256 := by omega
 have e5 : m % 65536 % 65536 = m % 65536 := by omega
 have e4 : m % 65536 % 256 = m % 256 := by omega
 refine ⟨A2, n2, c2, rfl, ?_, b1.trans (b2.mono b1.size)⟩
 have := o2.low b1.size
 simpa [b16, b32, e1, e3, e4, e5] using this
end Go.Proofs.YthgjknmfghjioaaGreatDoor

namespace Go.Proofs.YthgjknmfghjioaaGreatDoor
open Go.RowKit
end Go.Proofs.YthgjknmfghjioaaGreatDoor

namespace Go.Proofs.YthgjknmfghjioaaGreatDoor
open Go.RowKit
/-- What is owned stays owned while one older block changes. -/
theorem OB.grownAt {w w' : World} {T base g n c : Nat} {A : Option Addr} {l : List UInt8} (h : OB w T base A n c l) (hg : w.grownBy w' (some g)) (hlt : g < base) : OB w' T base A n c l := by
 refine ⟨h.1, h.2.1, ?_⟩
 rcases h.2.2 with h2 | ⟨g', cap, cur, hv, hb, hh, r⟩
 ·exact .inl h2
 ·have hl : g' < w.heap.size := by
   rcases Nat.lt_or_ge g' w.heap.size with hlt | hge
   ·exact hlt
   ·rw [Array.getElem?_eq_none hge] at hh; cases hh
  exact .inr ⟨g', cap, cur, hv, hb, (hg.block g' hl (fun e => by injection e with e; omega)).trans hh, r⟩
theorem OB.cap {w : World} {T base n c : Nat} {A : Option Addr} {l : List UInt8} (h : OB w T base A n c l) : n ≤ c := by
 rcases h.2.2 with ⟨hv, _⟩ | ⟨g', cap, cur, hv, _, _, hnc, _⟩
 ·injection hv with _ h1 h2; omega
 ·injection hv with _ _ h2; omega
theorem BS.take_ {w : World} {B n k : Nat} {A : Option Addr} {l : List UInt8} (h : BS w B A n l) (hk : k ≤ n) : BS w B A k (l.take k) := by
 obtain ⟨h1, h2, h3⟩ := h
 refine ⟨by rw [List.length_take]; omega, by rw [bv_length, List.length_take]; omega, fun hn => ?_⟩
 obtain ⟨ad, e, hb, hc⟩ := h3 (by omega)
 refine ⟨ad, e, hb, fun j u hu => hc j u ?_⟩
 rw [bv, List.map_take, List.getElem?_take] at hu
 split at hu
 ·exact hu
 ·cases hu
theorem BS.drop_ {w : World} {B n k c : Nat} {A : Option Addr} {l : List UInt8} (h : BS w B A n l) (hk : k ≤ n) (hc : n ≤ c) : BS w B (if c = k then A else A.map (·.add k)) (n - k) (l.drop k) := by
 have := Reads.cut h.2 hk hc
 rw [Nat.mul_one] at this
 refine ⟨by rw [List.length_drop, h.1], ?_⟩
 rw [bv, List.map_drop]
 exact this
/-- Bytes lie elsewhere than a row that holds no byte. -/
theorem BS.apart {w : World} {B n g : Nat} {A : Option Addr} {l : List UInt8} {t : TypeId} {cs : Array Value} (h : BS w B A n l) (hb : Blk w g t cs) (hno : ∀ (i : Nat) (v : Int), cs[i]? ≠ some (Value.int .u8 v)) : 0 < n → ∀ ad, A = some ad → ad.block ≠ g := by
 intro hn ad he hg
 obtain ⟨b, off, hA, _, hc⟩ := h.form hn
 rw [he] at hA
 injection hA with hA
 subst hA
 simp only at hg
 subst hg
 rw [hb.cell] at hc
 exact hno _ _ hc
/-- Bytes stay where they are while one other block changes. -/
theorem BS.grownAt {w w' : World} {n g : Nat} {A : Option Addr} {l : List UInt8} (h : BS w w.heap.size A n l) (hg : w.grownBy w' (some g)) (hne : 0 < n → ∀ ad, A = some ad → ad.block ≠ g) : BS w' w'.heap.size A n l := by
 refine ⟨h.1, h.2.1, fun hn => ?_⟩
 obtain ⟨ad, e, hb, hc⟩ := h.2.2 hn
 refine ⟨ad, e, Nat.lt_of_lt_of_le hb hg.size, fun j u hu => ?_⟩
 refine (World.cell?_of_block ?_).trans (hc j u hu)
 rw [block_of_add]
 exact hg.block _ hb (fun e' => by injection e' with e'; exact hne hn _ e e')
/-- A reader's row: what is left, and whether it is short. -/
def RD (w : World) (g : Nat) (l : List UInt8) (s : Bool) : Prop := ∃ (A : Option Addr) (n c : Nat), Blk w g 212 #[.slice A n c, .bool s] ∧ n ≤ c ∧ BS w w.heap.size A n l
theorem RD.lt {w : World} {g : Nat} {l : List UInt8} {s : Bool} (h : RD w g l s) : g < w.heap.size := by
 obtain ⟨_, _, _, hb, _⟩ := h; exact hb.lt
theorem rd_no {A : Option Addr} {n c : Nat} {s : Bool} : ∀ (i : Nat) (v : Int), (#[Value.slice A n c, Value.bool s] : Array Value)[i]? ≠ some (Value.int .u8 v) := by
 intro i v
 rcases i with _ | _ | i
 ·simp
 ·simp
 ·simp
/-- What a call of Take hands back, what is left then, and whether the reader is short then. -/
def tkOut (l : List UInt8) (s : Bool) (k : Int) : List UInt8 := if s = true ∨ k < 0 ∨ (l.length : Int) < k then [] else l.take k.toNat
def tkLeft (l : List UInt8) (s : Bool) (k : Int) : List UInt8 := if s = true ∨ k < 0 ∨ (l.length : Int) < k then l else l.drop k.toNat
def tkShort (l : List UInt8) (s : Bool) (k : Int) : Bool := decide (s = true ∨ k < 0 ∨ (l.length : Int) < k)
/-- What a call of Take does, be it of the program's reader or of the document's. -/
def TkPost (R : World → List UInt8 → Bool → Prop) (g : Nat) (w : World) (l : List UInt8) (s : Bool) (k : Int) (e : Ending) (w' : World) : Prop :=
 ∃ (A : Option Addr) (n c : Nat), e = .returned (.slice A n c) ∧ OB w' 5 w.heap.size A n c (tkOut l s k) ∧ R w' (tkLeft l s k) (tkShort l s k) ∧ w.grownBy w' (some g)
/-- The number of bytes, the highest first. -/
def numL (l : List UInt8) : Nat := l.foldl (fun x b => 256 * x + b.toNat) 0
theorem numL_snoc (l : List UInt8) (b : UInt8) : numL (l ++ [b]) = 256 * numL l + b.toNat := by simp [numL]
theorem numL_succ (l : List UInt8) (k : Nat) (h : k < l.length) : numL (l.take (k + 1)) = 256 * numL (l.take k) + lb l k := by
 rw [List.take_succ_eq_append_getElem h, numL_snoc, lb_eq l k h]
theorem numL_lt (l : List UInt8) : ∀ k, k ≤ l.length → numL (l.take k) < 256 ^ k
 | 0, _ => by simp [numL]
 | k + 1, h => by
  have h1 := numL_lt l k (by omega)
  have h2 := lb_lt l k
  rw [numL_succ l k (by omega), Nat.pow_succ]
  omega
theorem or8 (x v : Nat) (h : v < 256) : 256 * x ||| v = 256 * x + v := by
 have := Nat.two_pow_add_eq_or_of_lt (i := 8) (b := v) (by omega) x
 simpa using this.symm
theorem u32_or8 (x v : Nat) (hx : x < 16777216) (hv : v < 256) : bits .or .u32 ((x : Int) * 256) (v : Int) = ((256 * x + v : Nat) : Int) := by
 have e : (x : Int) * 256 = ((256 * x : Nat) : Int) := by omega
 rw [e]
 first
  | (show IntKind.u32.wrap ((BitVec.ofInt 32 ((256 * x : Nat) : Int) ||| BitVec.ofInt 32 ((v : Nat) : Int)).toNat : Int) = _
     rw [BitVec.toNat_or, BitVec.ofInt_natCast, BitVec.ofInt_natCast, BitVec.toNat_ofNat, BitVec.toNat_ofNat, Nat.mod_eq_of_lt (by omega), Nat.mod_eq_of_lt (by omega), or8 x v hv, IntKind.wrap_u32]
     omega)
  | (show IntKind.u32.wrap ((BitVec.ofInt 64 ((256 * x : Nat) : Int) ||| BitVec.ofInt 64 ((v : Nat) : Int)).toNat : Int) = _
     rw [BitVec.toNat_or, BitVec.ofInt_natCast, BitVec.ofInt_natCast, BitVec.toNat_ofNat, BitVec.toNat_ofNat, Nat.mod_eq_of_lt (by omega), Nat.mod_eq_of_lt (by omega), or8 x v hv, IntKind.wrap_u32]
     omega)
theorem tkOut_len (l : List UInt8) (s : Bool) (k : Nat) : (tkOut l s k).length ≤ k := by
 unfold tkOut
 split
 ·simp
 ·simp; omega
theorem tkOut_num (l : List UInt8) (s : Bool) (k : Nat) : numL (tkOut l s k) < 256 ^ k := by
 have h1 := tkOut_len l s k
 have h2 := numL_lt (tkOut l s k) _ (Nat.le_refl _)
 rw [List.take_length] at h2
 exact Nat.lt_of_lt_of_le h2 (Nat.pow_le_pow_right (by omega) h1)
set_option maxHeartbeats 1000000 in
theorem readerLeft (g : Nat) (l : List UInt8) (s : Bool) (w : World) (h : RD w g l s) :
  Calls Tryz.prog 93 #[.pointer (some ⟨g, 0, none⟩)] w fun en w' => en = .returned (.int .i64 (if s then 0 else l.length : Nat)) ∧ w = w' := by
 obtain ⟨A, n, c, hb, hnc, hbs⟩ := h
 have hc0 := hb.cell 0
 have hc1 := hb.cell 1
 have hn := hbs.len
 cases s
 all_goals
  go_enter Tryz.func93, Tryz.ntmps93
  go_wp2_with fail
  go_ret
  exact ⟨rfl, rfl⟩
set_option maxHeartbeats 1000000 in
theorem readerErr (g : Nat) (l : List UInt8) (s : Bool) (w : World) (h : RD w g l s) :
  Calls Tryz.prog 89 #[.pointer (some ⟨g, 0, none⟩)] w fun en w' => en = .returned (.int .i64 (if s then 3 else 0 : Nat)) ∧ w = w' := by
 obtain ⟨A, n, c, hb, hnc, hbs⟩ := h
 have hc1 := hb.cell 1
 cases s
 all_goals
  go_enter Tryz.func89, Tryz.ntmps89
  go_wp2_with fail
  go_ret
  exact ⟨rfl, rfl⟩
/-- A number and a bool are handed back: which number with dots the text says. -/
def RetAd (w : World) (l : List UInt8) (e : Ending) (w' : World) : Prop := ∃ (v : Nat) (ok : Bool), e = .returned (.tuple #[.int .u32 v, .bool ok]) ∧ AdAns l v ok ∧ Below w.heap.size w w'
/-- What a text answers, read as a prefix. -/
def PfA (l : List UInt8) (a n : Nat) (ok : Bool) : Prop := PfAns (fun a n => pRight a (n : Int)) l a n ok
theorem cut_slash {l : List UInt8} {k : Nat} (hk : l[k]? = some 47) : l = l.take k ++ 47 :: l.drop (k + 1) := by
 obtain ⟨h1, h2⟩ := List.getElem?_eq_some_iff.1 hk
 rw [← h2, ← List.drop_eq_getElem_cons h1, List.take_append_drop]
theorem PfA.no {l : List UInt8} {k v : Nat} {ok1 ok2 : Bool} {n : Int} (hk : l[k]? = some 47) (h0 : (47 : UInt8) ∉ l.take k) (h1 : AdAns (l.take k) v ok1) (h2 : IntAns (l.drop (k + 1)) n ok2) (h : ok1 = false ∨ ok2 = false ∨ pRight v n = false) : PfA l 0 0 false := by
 refine .inr ⟨rfl, rfl, rfl, fun b m hb hm hr he => ?_⟩
 have e := cut_slash hk
 rw [e, pfT, List.append_assoc] at he
 obtain ⟨e1, e2⟩ := slash_split he (adT_noslash b hb) h0
 have a1 := h1.one (by rw [← e1]; exact AdAns.text b hb)
 have a2 : n = (m : Int) ∧ ok2 = true := by
  have h3 := IntAns.text (m : Int)
  rw [decI_nat, show decU m = l.drop (k + 1) from e2, if_pos (by omega)] at h3
  have h4 := h2.one h3
  exact ⟨h4.1, by rw [h4.2]; exact decide_eq_true (by omega)⟩
 rcases h with h | h | h
 ·rw [a1.2] at h; cases h
 ·rw [a2.2] at h; cases h
 ·rw [a1.1, a2.1] at h; exact absurd hr (by simp [h])
theorem pfx_ret2 {fn : Func} {p u : Tmp} (h : fn.results = #[.cell p 146, .tmp u]) (tmps : Array Value) (w : World) (g : Nat) (x y : Value)
  (hp : tmps.getD p undef = .pointer (some ⟨g, 0, none⟩)) (hB : Blk w g 146 #[x, y]) :
  (results fn tmps).run Tryz.prog w = .ok (.tuple #[.agg #[x, y], tmps.getD u undef]) w := by
 rw [results_cell_tmp h, hp]
 have := run_loadVar_row (P := Tryz.prog) w g 146 146 #[x, y] (0, 0) _ hB Tryz.underlying146 rfl pfx_info
 simp [asAddr, this]
def RetPf (w : World) (l : List UInt8) (e : Ending) (w' : World) : Prop := ∃ (a n : Nat) (ok : Bool), e = .returned (.tuple #[.agg #[.int .u32 a, .int .i64 n], .bool ok]) ∧ PfA l a n ok ∧ Below w.heap.size w w'
end Go.Proofs.YthgjknmfghjioaaGreatDoor

namespace Go.Proofs.YthgjknmfghjioaaGreatDoor
open Go.RowKit
/-- A prefix's bytes. -/
def pBytes (a k : Nat) : List UInt8 := (ub (k : Int) :: b32 (a : Int)).take (1 + (k + 7) / 8)
def RetPut (w : World) (l : List UInt8) (x : Int) (e : Ending) (w' : World) : Prop := ∃ (A : Option Addr) (n c : Nat), e = .returned (.tuple #[.slice A n c, .int .i64 x]) ∧ OB w' 5 w.heap.size A n c l ∧ Below w.heap.size w w'
set_option maxHeartbeats 1000000 in
set_option maxRecDepth 100000 in
theorem prefixPut_no (A : Option Addr) (n c : Nat) (a : Nat) (ha : a < 4294967296) (m : Int) (w : World) (hr : pRight a m = false) :
  Calls Tryz.prog 189 #[.slice A n c, .agg #[.int .u32 a, .int .i64 m]] w (RetPut w [] 1) := by
 have hB := Blk.new w 146 #[.int .u32 a, .int .i64 m]
 have c0 := hB.cell 0
 have c1 := hB.cell 1
 have b0 := (Below.refl w.heap.size w).alloc (Nat.le_refl _) (.cells #[.int .u32 a, .int .i64 m] 146)
 go_enter Tryz.func189, Tryz.ntmps189
 go_wp2_with fail
 refine (prefixRight a ha m _).mono ?_
 rw [hr]
 rintro _ w1 ⟨rfl, b1⟩
 have b01 := btr b0 b1 b0.size
 go_wp2_with fail
 go_ret2
 exact ⟨none, 0, 0, rfl, OB.nil_, b01⟩
theorem keep1d {w W W' : World} {g : Nat} {y : Value} (hg : g < w.heap.size) (hb : Below w.heap.size W W') (h : Below w.heap.size w W ∧ W.cell? ⟨g, 1, none⟩ = some y) :
  Below w.heap.size w W' ∧ W'.cell? ⟨g, 1, none⟩ = some y :=
 ⟨h.1.trans hb, (hb.cell hg).trans h.2⟩
set_option maxHeartbeats 1000000 in
set_option maxRecDepth 100000 in
theorem prefixPut_yes (A : Option Addr) (n c : Nat) (l : List UInt8) (a : Nat) (ha : a < 4294967296) (k : Nat) (hk : k ≤ 32) (w : World) (h : BS w w.heap.size A n l) (hn : n ≤ 100000) (hr : pRight a (k : Int) = true) :
  Calls Tryz.prog 189 #[.slice A n c, .agg #[.int .u32 a, .int .i64 k]] w (RetPut w (l ++ pBytes a k) 0) := by
 have hB := Blk.new w 146 #[.int .u32 a, .int .i64 k]
 have c0 := hB.cell 0
 have c1 := hB.cell 1
 have b0 := (Below.refl w.heap.size w).alloc (Nat.le_refl _) (.cells #[.int .u32 a, .int .i64 k] 146)
 have HL := Lib.hid h.len
 go_enter Tryz.func189, Tryz.ntmps189
 go_wp2_with fail
 refine (prefixRight a ha k _).mono ?_
 rw [hr]
 rintro _ w1 ⟨rfl, b1⟩
 have b01 := btr b0 b1 b0.size
 have hB1 := hB.below b1 hB.lt
 have x0 := hB1.cell 0
 have x1 := hB1.cell 1
 have k2 := (Below.refl w1.heap.size w1).alloc (Nat.le_refl _) (.cells #[.int .u8 k] 5)
 have s2 := (BS.one w1 5 (k : Int) (by omega) (by omega)).more (B' := (w1.alloc (.cells #[.int .u8 k] 5)).heap.size) (by simp)
 have b02 := btr b01 k2 b01.size
 have hB2 := hB1.alloc (.cells #[.int .u8 k] 5)
 have z0 := hB2.cell 0
 have z1 := hB2.cell 1
 clear c0 c1 hB
 go_wp2_with fail
 refine (octetPut32 _ 1 1 [ub (k : Int)] (a : Int) _ s2 (by simp) (by omega) (by omega)).mono ?_
 rintro _ w3 ⟨A3, n3, c3, rfl, o3, b3⟩
 have hn3 : n3 = 5 := o3.1.trans (by simp [b32])
 subst hn3
 have hc3 := o3.cap
 have b03 := btr b02 b3 b02.size
 have hB3 := hB2.below b3 hB2.lt
 have y1 : w3.cell? ⟨w.heap.size, 1, none⟩ = some (.int .i64 k) := hB3.cell 1
 have hgl := hB3.lt
 clear x0 x1 z0 z1
 obtain ⟨g3, cap3, hv3, hg3, hg3l⟩ := o3.2.form (by omega)
 have hA3 : A3 = some ⟨g3, 0, none⟩ := by injection hv3
 subst hA3
 clear hv3
 obtain ⟨q, hq⟩ : ∃ q, 1 + (k + 7) / 8 = q := ⟨_, rfl⟩
 obtain ⟨r, hr8⟩ : ∃ r, (k + 7) / 8 = r := ⟨_, rfl⟩
 have hw8 : IntKind.i64.wrap (((k : Int) + 7).tdiv 8) = (r : Int) := by
  rw [Int.tdiv_eq_ediv_of_nonneg (by omega), IntKind.wrap_i64]
  omega
 have hw9 : IntKind.i64.wrap (1 + (r : Int)) = (q : Int) := by rw [IntKind.wrap_i64]; omega
 have hq5 : q ≤ 5 := by omega
 have hqc : (q : Int) ≤ c3 := by omega
 have hq0 : (0 : Int) ≤ q := by omega
 have hc30 : ¬ c3 = 0 := by omega
 have hw7 : IntKind.i64.wrap ((k : Int) + 7) = (k : Int) + 7 := by simp only [IntKind.wrap_i64]; omega
 have HP := Lib.hid (show ([ub (k : Int)] ++ b32 (a : Int)).take q = pBytes a k by rw [pBytes, hq]; rfl)
 have s3 := o3.bs.take_ (k := q) hq5
 have H := Lib.hid (h.call b03)
 have HLL := Lib.hid (show l.length ≤ 100000 by rw [← HL.out]; exact hn)
 have HTL := Lib.hid (show (([ub (k : Int)] ++ b32 (a : Int)).take q).length ≤ 5 by rw [List.length_take]; omega)
 clear hq hr8 h s2 o3
 obtain ⟨PB, hPB⟩ : ∃ PB, ([ub (k : Int)] ++ b32 (a : Int)).take q = PB := ⟨_, rfl⟩
 rw [hPB] at s3 HP HTL
 clear hPB
 go_wp2_with fail
 go_region_held3 (fun w' => Below w3.heap.size w3 w' ∧ w'.cell? ⟨w.heap.size, 1, none⟩ = some (.int .i64 k))
  (first | (refine keep1d hgl b6 ?_; assumption) | (refine keep1d hgl b5 ?_; assumption) | ((repeat' apply And.intro) <;> first | (with_reducible exact Below.drew (Below.refl _ _)) | go_keep))
  (first
   | (refine step_app rfl (.const (.slice none 0 0)) (.tmp 17) _ (by rfl) 5 Tryz.underlying38 u8info w3.heap.size none 0 0 [] (by rfl) OB.nil_ w3.heap.size A n c l (by rfl) (BS.drew H.out) (by rw [List.length_nil, Nat.zero_add]; exact Nat.le_trans HLL.out (by omega)) (Nat.le_refl _) ?_; intro A5 n5 c5 w5 o5 b5 g5; rw [List.nil_append] at o5)
   | (refine step_app rfl (.tmp 18) (.tmp 25) _ (by rfl) 5 Tryz.underlying38 u8info w3.heap.size A5 n5 c5 l (by rfl) o5 w3.heap.size (some ⟨g3, 0, none⟩) q c3 PB (by rfl) ((BS.drew s3).below b5) (by have := HLL.out; have := HTL.out; omega) b5.size ?_; intro A6 n6 c6 w6 o6 b6 g6))
 all_goals
  try go_wp2_with fail
  rw [HP.out] at o6
  go_ret2
  exact ⟨A6, n6, c6, rfl, o6.low b03.size, btr b03 (And.left (by with_reducible assumption)) b03.size⟩
/-- The document's number behind j bytes. -/
def nJ (a : Nat) : Nat → Nat
 | 0 => a
 | j + 1 => nJ a j % 16777216 * 256
theorem nJ_lt {a : Nat} (ha : a < 4294967296) (j : Nat) : nJ a j < 4294967296 := by
 cases j with
 | zero => exact ha
 | succ j => show nJ a j % 16777216 * 256 < _; omega
theorem b32_succ (a j : Nat) (hj : j < 4) : (b32 (a : Int)).take (j + 1) = (b32 (a : Int)).take j ++ [ub ((nJ a j / 16777216 : Nat) : Int)] := by
 have h4 : j = 0 ∨ j = 1 ∨ j = 2 ∨ j = 3 := by omega
 rcases h4 with rfl | rfl | rfl | rfl
 ·show [ub ((a : Int) / 16777216)] = [ub ((a / 16777216 : Nat) : Int)]
  rw [Int.natCast_ediv]; rfl
 ·show [ub ((a : Int) / 16777216), ub ((a : Int) / 65536 % 256)] = [ub ((a : Int) / 16777216), ub ((a % 16777216 * 256 / 16777216 : Nat) : Int)]
  rw [show ((a % 16777216 * 256 / 16777216 : Nat) : Int) = (a : Int) / 65536 % 256 by omega]
 ·show [ub ((a : Int) / 16777216), ub ((a : Int) / 65536 % 256), ub ((a : Int) / 256 % 256)] = [ub ((a : Int) / 16777216), ub ((a : Int) / 65536 % 256), ub ((a % 16777216 * 256 % 16777216 * 256 / 16777216 : Nat) : Int)]
  rw [show ((a % 16777216 * 256 % 16777216 * 256 / 16777216 : Nat) : Int) = (a : Int) / 256 % 256 by omega]
 ·show [ub ((a : Int) / 16777216), ub ((a : Int) / 65536 % 256), ub ((a : Int) / 256 % 256), ub ((a : Int) % 256)] = [ub ((a : Int) / 16777216), ub ((a : Int) / 65536 % 256), ub ((a : Int) / 256 % 256), ub ((a % 16777216 * 256 % 16777216 * 256 % 16777216 * 256 / 16777216 : Nat) : Int)]
  rw [show ((a % 16777216 * 256 % 16777216 * 256 % 16777216 * 256 / 16777216 : Nat) : Int) = (a : Int) % 256 by omega]
theorem pBytes_eq (a k : Nat) : pBytes a k = ub (k : Int) :: (b32 (a : Int)).take ((k + 7) / 8) := by
 unfold pBytes
 rw [Nat.add_comm, List.take_succ_cons]
set_option maxHeartbeats 1000000 in
set_option maxRecDepth 100000 in
theorem ref02Put_no (A : Option Addr) (n c : Nat) (a : Nat) (ha : a < 4294967296) (m : Int) (w : World) (hr : pRight a m = false) :
  Calls Tryz.prog 137 #[.slice A n c, .agg #[.int .u32 a, .int .i64 m]] w (RetPut w [] 1) := by
 have hB := Blk.new w 146 #[.int .u32 a, .int .i64 m]
 have c0 := hB.cell 0
 have c1 := hB.cell 1
 have b0 := (Below.refl w.heap.size w).alloc (Nat.le_refl _) (.cells #[.int .u32 a, .int .i64 m] 146)
 go_enter Tryz.func137, Tryz.ntmps137
 go_wp2_with fail
 refine (refRight a ha m _).mono ?_
 rw [hr]
 rintro _ w1 ⟨rfl, b1⟩
 have b01 := btr b0 b1 b0.size
 go_wp2_with fail
 go_ret2
 exact ⟨none, 0, 0, rfl, OB.nil_, b01⟩
set_option maxHeartbeats 2000000 in
set_option maxRecDepth 100000 in
theorem ref02Put_yes (A : Option Addr) (n c : Nat) (l : List UInt8) (a : Nat) (ha : a < 4294967296) (k : Nat) (hk : k ≤ 32) (w : World) (h : BS w w.heap.size A n l) (hn : n ≤ 100000) (hr : pRight a (k : Int) = true) :
  Calls Tryz.prog 137 #[.slice A n c, .agg #[.int .u32 a, .int .i64 k]] w (RetPut w (l ++ pBytes a k) 0) := by
 have hB := Blk.new w 146 #[.int .u32 a, .int .i64 k]
 have c0 := hB.cell 0
 have c1 := hB.cell 1
 have b0 := (Below.refl w.heap.size w).alloc (Nat.le_refl _) (.cells #[.int .u32 a, .int .i64 k] 146)
 have hlen := h.len
 have hll : l.length ≤ 100000 := by omega
 have HP := Lib.hid (pBytes_eq a k)
 have HLL := Lib.hid hll
 clear hlen hll
 go_enter Tryz.func137, Tryz.ntmps137
 go_wp2_with fail
 refine (refRight a ha k _).mono ?_
 rw [hr]
 rintro _ w1 ⟨rfl, b1⟩
 have b01 := btr b0 b1 b0.size
 have hB1 := hB.below b1 hB.lt
 have x0 := hB1.cell 0
 have x1 := hB1.cell 1
 have h1 := h.call b01
 clear c0 c1 hB
 have hwk : IntKind.u8.wrap (k : Int) = k := IntWalk.u8_in _ ⟨by omega, by omega⟩
 go_wp2_with (first
  | (at_builtin; refine wpl_app rfl (.tmp 12) (.tmp 13) _ rfl 5 Tryz.underlying38 u8info w1.heap.size none 0 0 [] rfl OB.nil_ w1.heap.size A n c l (by rfl) h1 (by have := HLL.out; have := h1.len; simp; omega) (Nat.le_refl _) ?_; intro A2 n2 c2 w2 o2 b2 g2; rw [List.nil_append] at o2; have hB2 := hB1.below b2 hB1.lt; have y0 := hB2.cell 0; have y1 := hB2.cell 1)
  | (at_builtin; refine appB1 (.tmp 15) (.tmp 19) rfl rfl w1.heap.size b2 b2.size A2 n2 c2 l (k : Int) (by rfl) o2 (by rfl) (by omega) (by omega) (by have := HLL.out; omega) ?_; intro A3 n3 c3 w3 o3 b3 s3; have hB3 := hB1.below b3 hB1.lt; have z0 := hB3.cell 0; have z1 := hB3.cell 1))
 go_loopw [6, 7, 8] (fun o x i wr => ∃ (j : Nat) (A4 : Option Addr) (n4 c4 : Nat), j ≤ (k + 7) / 8 ∧ i = .int .i64 j ∧ x = .int .i64 (nJ a j) ∧ o = .slice A4 n4 c4 ∧ OB wr 5 w1.heap.size A4 n4 c4 (l ++ [ub (k : Int)] ++ (b32 (a : Int)).take j) ∧ Below w1.heap.size w1 wr) (fun _ _ i _ => (k + 7) / 8 - (intOf i).toNat)
 case atStart => exact ⟨0, A3, n3, c3, by omega, rfl, rfl, rfl, by rw [List.take_zero, List.append_nil]; exact o3, b3⟩
 case round =>
  obtain ⟨j, A4, n4, c4, hj, rfl, rfl, rfl, o4, b4⟩ := hrel
  have hB4 := hB1.below b4 hB1.lt
  have u1 := hB4.cell 1
  have hq := nJ_lt ha j
  have HB := Lib.hid (b32_succ a j)
  have HN := Lib.hid (show nJ a (j + 1) = nJ a j % 16777216 * 256 from rfl)
  obtain ⟨q, hqq⟩ : ∃ q, nJ a j = q := ⟨_, rfl⟩
  rw [hqq] at HB HN hq ⊢
  clear hqq
  by_cases hlt : 8 * j < k
  ·have hj4 : j < 4 := by omega
   have HS := Lib.hid (show l ++ [ub (k : Int)] ++ (b32 (a : Int)).take (j + 1) = l ++ [ub (k : Int)] ++ (b32 (a : Int)).take j ++ [ub ((q / 16777216 : Nat) : Int)] by rw [HB.out hj4, List.append_assoc, List.append_assoc, List.append_assoc])
   have hwq : IntKind.u8.wrap ((q : Int) / 16777216) = ((q / 16777216 : Nat) : Int) := (IntWalk.u8_in _ ⟨by omega, by omega⟩).trans (Int.natCast_ediv _ _).symm
   have hd : decide (8 * (j : Int) < (k : Int)) = true := decide_eq_true (by omega)
   go_wp2_with (at_builtin; refine appB1 (.tmp 31) (.tmp 35) rfl rfl w1.heap.size b4 b4.size A4 n4 c4 _ ((q / 16777216 : Nat) : Int) (by rfl) o4 (by rfl) (by omega) (by omega) (by have := HLL.out; simp [b32]; omega) ?_; intro A5 n5 c5 w5 o5 b5 s5)
   go_roundw
   case rel => exact ⟨j + 1, A5, n5, c5, by omega, by go_num, by rw [HN.out]; rfl, rfl, by rw [HS.out]; exact o5, b5⟩
   case measure => simp [intOf]; omega
  ·have hj' : j = (k + 7) / 8 := by omega
   have hd : decide (8 * (j : Int) < (k : Int)) = false := decide_eq_false (by omega)
   have HS := Lib.hid (show l ++ [ub (k : Int)] ++ (b32 (a : Int)).take j = l ++ pBytes a k by rw [HP.out, hj', List.append_assoc]; rfl)
   go_wp2_with fail
   go_ret2
   exact ⟨A4, n4, c4, rfl, by rw [← HS.out]; exact o4.low b01.size, btr b01 b4 b01.size⟩
theorem at_below {B : Nat} {a w w' : World} {g : Nat} (h : Below B a w) (hg : w.grownBy w' (some g)) (hB : B ≤ w.heap.size) (hle : B ≤ g) : Below B a w' :=
 h.grown hg hB (fun k hk => by injection hk; omega)
theorem grown_tr {a b c : World} {row : Option Nat} (h : a.grownBy b row) (k : b.grownBy c row) : a.grownBy c row :=
 ⟨k.os.trans h.os, k.tape.trans h.tape, k.output.trans h.output, Nat.le_trans h.size k.size, fun i hi hne => (k.block i (Nat.lt_of_lt_of_le hi h.size) hne).trans (h.block i hi hne)⟩
theorem tk_yes {l : List UInt8} {k : Nat} (h : k ≤ l.length) : tkOut l false k = l.take k ∧ tkLeft l false k = l.drop k ∧ tkShort l false k = false := by
 have hor : ¬ (false = true ∨ (k : Int) < 0 ∨ (l.length : Int) < k) := by simp; omega
 exact ⟨by rw [tkOut, if_neg hor, Int.toNat_natCast], by rw [tkLeft, if_neg hor, Int.toNat_natCast], by rw [tkShort, decide_eq_false hor]⟩
theorem pBytes_len (a k : Nat) (hk : k ≤ 32) : (pBytes a k).length = 1 + (k + 7) / 8 := by
 unfold pBytes
 rw [List.length_take]
 show min _ 5 = _
 omega
/-- The number of the first bytes. -/
def aJ (a j : Nat) : Nat := a / 2 ^ (32 - 8 * j) * 2 ^ (32 - 8 * j)
theorem aJ_zero {a : Nat} (ha : a < 4294967296) : aJ a 0 = 0 := by
 unfold aJ; rw [Nat.div_eq_of_lt (by simpa using ha), Nat.zero_mul]
theorem aJ_eq (a j : Nat) (hj : j ≤ 4) : aJ a j = normN a ((8 * j : Nat) : Int) := by
 unfold aJ normN; rw [cl_nat (by omega)]
theorem u32_orN (x v : Nat) (hx : x < 4294967296) (hv : v < 4294967296) : bits .or .u32 (x : Int) (v : Int) = ((x ||| v : Nat) : Int) := by
 have hlt : x ||| v < 4294967296 := Nat.or_lt_two_pow (n := 32) hx hv
 first
  | (show IntKind.u32.wrap ((BitVec.ofInt 32 ((x : Nat) : Int) ||| BitVec.ofInt 32 ((v : Nat) : Int)).toNat : Int) = _
     rw [BitVec.toNat_or, BitVec.ofInt_natCast, BitVec.ofInt_natCast, BitVec.toNat_ofNat, BitVec.toNat_ofNat, Nat.mod_eq_of_lt (by omega), Nat.mod_eq_of_lt (by omega), IntKind.wrap_u32]
     omega)
  | (show IntKind.u32.wrap ((BitVec.ofInt 64 ((x : Nat) : Int) ||| BitVec.ofInt 64 ((v : Nat) : Int)).toNat : Int) = _
     rw [BitVec.toNat_or, BitVec.ofInt_natCast, BitVec.ofInt_natCast, BitVec.toNat_ofNat, BitVec.toNat_ofNat, Nat.mod_eq_of_lt (by omega), Nat.mod_eq_of_lt (by omega), IntKind.wrap_u32]
     omega)
theorem lb_b32 (a q j : Nat) (ha : a < 4294967296) (hj : j < q) (hq : q ≤ 4) : lb ((b32 (a : Int)).take q) j = a / 2 ^ (24 - 8 * j) % 256 := by
 unfold lb
 rw [List.getElem?_take_of_lt hj]
 have h4 : j = 0 ∨ j = 1 ∨ j = 2 ∨ j = 3 := by omega
 rcases h4 with rfl | rfl | rfl | rfl
 ·have := ub_toNat (e := (a : Int) / 16777216) (by omega) (by omega)
  show (ub _).toNat = a / 16777216 % 256
  omega
 ·have := ub_toNat (e := (a : Int) / 65536 % 256) (by omega) (by omega)
  show (ub _).toNat = a / 65536 % 256
  omega
 ·have := ub_toNat (e := (a : Int) / 256 % 256) (by omega) (by omega)
  show (ub _).toNat = a / 256 % 256
  omega
 ·have := ub_toNat (e := (a : Int) % 256) (by omega) (by omega)
  show (ub _).toNat = a / 1 % 256
  omega
section
variable {w w' : World} {base size n c g : Nat} {e : TypeId} {A : Option Addr} {xs : List Value}
theorem own_below (h : w.ownsRow base e size (.slice A n c) n xs) (hb : Below w.heap.size w w') : w'.ownsRow base e size (.slice A n c) n xs := by
 refine ⟨h.1, ?_⟩
 rcases h.2 with h2 | ⟨g, cap, cur, hv, hg, hh, r⟩
 ·exact .inl h2
 ·have hlt : g < w.heap.size := by
   rcases Nat.lt_or_ge g w.heap.size with hlt | hge
   ·exact hlt
   ·rw [Array.getElem?_eq_none hge] at hh; cases hh
  exact .inr ⟨g, cap, cur, hv, hg, (hb.block g hlt).trans hh, r⟩
theorem own_at {t : TypeId} {cs : Array Value} (h : w.ownsRow base e size (.slice A n c) n xs) (hb : Blk w g t cs) (hne : e ≠ t) (hg : w.grownBy w' (some g)) : w'.ownsRow base e size (.slice A n c) n xs :=
 h.kept hg (.inr (own_blk_ne h hb hne))
theorem own_cap (h : w.ownsRow base e size (.slice A n c) n xs) : n ≤ c := by
 rcases h.2 with ⟨hv, _⟩ | ⟨g', cap, cur, hv, _, _, hnc, _⟩
 ·injection hv with _ h1 h2; omega
 ·injection hv with _ _ h2; omega
end
theorem wpl_appR {P : Program} {w : World} {ops : Array Oper} {rest : List Oper} {o : Oper} {a : Act} {Q : Exit → Act → World → Prop} (hgd : o.guard = none) (s x : Operand) (t : TypeId)
  (ho : o.op = .call { callee := .builtin .append, args := #[s, x], argTypes := #[t, t] })
  (e : TypeId) (z : Value) (size bytes : Nat) (ht : P.underlying t = some (.slice e)) (hinfo : (P.info? e).map (fun i => (i.zero, i.size, i.bytes)) = some (some z, size, bytes)) (hzs : z.cells.size = size) (hsz : 0 < size)
  (base : Nat) (A : Option Addr) (n c : Nat) (xs : List Value) (hs : a.eval s = .slice A n c) (hown : w.ownsRow base e size (.slice A n c) n xs)
  (B : Nat) (A' : Option Addr) (m c' : Nat) (news : List Value) (hx : a.eval x = .slice A' m c') (hr : Reads w B size A' m news) (h1 : ∀ u ∈ news, u.oneCell' = true)
  (h63 : n + m ≤ maxLen) (hbytes : (n + m) * bytes ≤ 140737488355328) (hbase : base ≤ w.heap.size)
  (h : ∀ (A2 : Option Addr) (c2 : Nat) (w' : World), w'.ownsRow base e size (.slice A2 (n + m) c2) (n + m) (xs ++ news) → Below base w w' → w.grownBy w' (Value.ownBlock (.slice A n c)) → (Value.ownBlock (.slice A2 (n + m) c2) = Value.ownBlock (.slice A n c) ∨ Value.ownBlock (.slice A2 (n + m) c2) = some w.heap.size) → wpList P ops Q rest (a.put o.dst (.slice A2 (n + m) c2)) w') : wpList P ops Q (o :: rest) a w := by
 obtain ⟨i, hi, hz, h1', h2'⟩ : ∃ i, P.info? e = some i ∧ i.zero = some z ∧ i.size = size ∧ i.bytes = bytes := by
  simp only [Option.map_eq_some_iff, Prod.mk.injEq] at hinfo
  exact hinfo
 refine wpList_append_any w hgd s x t ho base e i z size bytes ht hi hz h1' h2' hzs hsz (.slice A n c) n xs hs hown B A' m c' news hx hr h1 h63 hbytes hbase ?_
 intro v' w' hown' hg hat
 have hform : ∃ A2 c2, v' = .slice A2 (n + m) c2 := by
  rcases hown'.2 with ⟨rfl, hnil⟩ | ⟨g, cap, cur, hv, _⟩
  ·exact ⟨none, 0, by rw [hnil]⟩
  ·exact ⟨_, _, hv⟩
 obtain ⟨A2, c2, rfl⟩ := hform
 refine h A2 c2 w' hown' ((Below.refl base w).grown hg hbase (fun k hk => ?_)) hg hat
 exact (hown.lt k hk).1
/-- One struct of two cells in a new block. -/
theorem Reads.two (w : World) (T : Nat) (x y : Value) {g : Nat} (hg : g = w.heap.size) : Reads (w.alloc (.cells #[x, y] T)) (g + 1) 2 (some ⟨g, 0, none⟩) 1 [x, y] := by
 subst hg
 refine ⟨rfl, fun _ => ⟨_, rfl, by simp, fun j u hu => ?_⟩⟩
 match j, hu with
 | 0, hu =>
  simp only [List.getElem?_cons_zero, Option.some.injEq] at hu
  subst hu
  exact (Blk.new w T #[x, y]).cell 0
 | 1, hu =>
  simp only [List.getElem?_cons_succ, List.getElem?_cons_zero, Option.some.injEq] at hu
  subst hu
  exact (Blk.new w T #[x, y]).cell 1
theorem addr_add (b off j : Nat) : (⟨b, off, none⟩ : Addr).add j = ⟨b, off + j, none⟩ := by
 unfold Addr.add
 split
 ·rename_i h; rw [h, Nat.add_zero]
 ·rfl
/-- Each block of the footprint S is as it was, and one of S'. -/
def Kp (w w' : World) (S S' : Nat → Prop) : Prop := ∀ b, S b → S' b ∧ w'.heap[b]? = w.heap[b]?
theorem Kp.cell {w w' : World} {S S' : Nat → Prop} (h : Kp w w' S S') {b off : Nat} (hb : S b) : w'.cell? ⟨b, off, none⟩ = w.cell? ⟨b, off, none⟩ := World.cell?_of_block (h b hb).2
theorem Kp.sub {w : World} {S S' : Nat → Prop} (h : ∀ b, S b → S' b) : Kp w w S S' := fun b hb => ⟨h b hb, rfl⟩
theorem Kp.trans {a b c : World} {S S' S'' : Nat → Prop} (h : Kp a b S S') (h' : Kp b c S' S'') : Kp a c S S'' := fun x hx => ⟨(h' x (h x hx).1).1, (h' x (h x hx).1).2.trans (h x hx).2⟩
/-- The blocks below one. -/
def Lt (B : Nat) : Nat → Prop := fun b => b < B
/-- All blocks that are there. -/
abbrev Lo (w : World) : Nat → Prop := Lt w.heap.size
/-- The blocks that are there, from one on. -/
def Fr (B : Nat) (w : World) : Nat → Prop := fun b => B ≤ b ∧ b < w.heap.size
theorem Kp.lt {w w' : World} {B : Nat} (hb : Below B w w') : Kp w w' (Lt B) (Lt B) := fun b h => ⟨h, hb.block b h⟩
theorem Kp.call {w w' : World} (hb : Below w.heap.size w w') : Kp w w' (Lo w) (Lo w') := fun b h => ⟨Nat.lt_of_lt_of_le h hb.size, hb.block b h⟩
theorem Kp.below {w w' : World} {S : Nat → Prop} {B : Nat} (hb : Below B w w') (hS : ∀ b, S b → b < B) : Kp w w' S S := fun b h => ⟨h, hb.block b (hS b h)⟩
theorem Kp.grown {w w' : World} {S S' : Nat → Prop} {row : Option Nat} (hg : w.grownBy w' row) (hS : ∀ b, S b → b < w.heap.size ∧ some b ≠ row ∧ S' b) : Kp w w' S S' := fun b h => ⟨(hS b h).2.2, hg.block b (hS b h).1 (hS b h).2.1⟩
/-- What a region that draws its order keeps: all that lay below. -/
theorem heldB_refl (W : World) : Below W.heap.size W W.drew ∧ ∀ b o, b < W.heap.size → W.drew.cell? ⟨b, o, none⟩ = W.cell? ⟨b, o, none⟩ := ⟨(Below.refl _ _).drew, fun _ _ _ => rfl⟩
theorem heldB_keep {W w w' : World} (hb : Below w.heap.size w w') (h : Below W.heap.size W w ∧ ∀ b o, b < W.heap.size → w.cell? ⟨b, o, none⟩ = W.cell? ⟨b, o, none⟩) : Below W.heap.size W w' ∧ ∀ b o, b < W.heap.size → w'.cell? ⟨b, o, none⟩ = W.cell? ⟨b, o, none⟩ :=
 ⟨btr h.1 hb h.1.size, fun b o hlt => (hb.cell (p := ⟨b, o, none⟩) (Nat.lt_of_lt_of_le hlt h.1.size)).trans (h.2 b o hlt)⟩
theorem Kp.set {S : Nat → Prop} {w : World} {p : Addr} (hp : ∀ b, S b → b ≠ p.block) (u : Value) : Kp w (w.setCell p u) S S := fun b hb => ⟨hb, Below.heap_setCell w p u b (hp b hb)⟩
/-- A row of cells that reads. -/
def Rw (w : World) (S : Nat → Prop) (size : Nat) (A : Option Addr) (n : Nat) (xs : List Value) : Prop :=
 xs.length = n * size ∧ (0 < n → ∃ b off, A = some ⟨b, off, none⟩ ∧ S b ∧ ∀ j u, xs[j]? = some u → w.cell? ⟨b, off + j, none⟩ = some u)
section
variable {w w' : World} {S S' : Nat → Prop} {size n : Nat} {A : Option Addr} {xs : List Value}
theorem Rw.keep (h : Rw w S size A n xs) (hk : Kp w w' S S') : Rw w' S' size A n xs :=
 ⟨h.1, fun hn => by
  obtain ⟨b, off, e, hb, hc⟩ := h.2 hn
  exact ⟨b, off, e, (hk b hb).1, fun j u hu => (hk.cell hb).trans (hc j u hu)⟩⟩
theorem Rw.none_ : Rw w S size none 0 [] := ⟨by simp, fun h => absurd h (by omega)⟩
theorem Rw.reads {B : Nat} (h : Rw w S size A n xs) (hS : ∀ b, S b → b < B) : Reads w B size A n xs :=
 ⟨h.1, fun hn => by
  obtain ⟨b, off, e, hb, hc⟩ := h.2 hn
  exact ⟨_, e, hS b hb, fun j u hu => by rw [addr_add]; exact hc j u hu⟩⟩
theorem Rw.of_reads {B : Nat} (h : Reads w B size A n xs) (hs : 0 < size) (hS : ∀ b, b < B → S b) : Rw w S size A n xs := by
 refine ⟨h.1, fun hn => ?_⟩
 obtain ⟨ad, rfl, hb, hc⟩ := h.2 hn
 have hl : 0 < xs.length := by rw [h.1]; exact Nat.mul_pos hn hs
 have h0 := hc 0 _ (List.getElem?_eq_getElem hl)
 have hsp : ad.spot = none := by
  have := World.cell?_spot h0
  simpa [Addr.add] using this
 obtain ⟨b, off, spot⟩ := ad
 simp only at hsp
 subst hsp
 exact ⟨b, off, rfl, hS b hb, fun j u hu => by rw [← addr_add]; exact hc j u hu⟩
end
/-- How a value of α stands in cells. -/
abbrev Rep (α : Type) := World → (Nat → Prop) → List Value → α → Prop
structure Rep.Ok {α : Type} (R : Rep α) (size : Nat) : Prop where
 len : ∀ {w S cs a}, R w S cs a → cs.length = size
 one : ∀ {w S cs a}, R w S cs a → ∀ u ∈ cs, u.oneCell' = true
 keep : ∀ {w w' S S' cs a}, R w S cs a → Kp w w' S S' → R w' S' cs a
/-- A list of α that reads as a slice. -/
def DL {α : Type} (R : Rep α) (size : Nat) (w : World) (S : Nat → Prop) (A : Option Addr) (n : Nat) (l : List α) : Prop :=
 ∃ css : List (List Value), css.length = l.length ∧ n = l.length ∧ Rw w S size A n css.flatten ∧ (∀ (i : Nat) (cs : List Value) (a : α), css[i]? = some cs → l[i]? = some a → R w S cs a) ∧ ∀ cs ∈ css, cs.length = size
theorem flat_at {css : List (List Value)} {size : Nat} (h : ∀ cs ∈ css, cs.length = size) {i j : Nat} {cs : List Value} (hi : css[i]? = some cs) (hj : j < size) : css.flatten[i * size + j]? = cs[j]? := by
 induction css generalizing i with
 | nil => simp at hi
 | cons c css ih =>
  have hc := h c (by simp)
  cases i with
  | zero =>
   simp at hi
   subst hi
   rw [List.flatten_cons, Nat.zero_mul, Nat.zero_add, List.getElem?_append_left (by omega)]
  | succ i =>
   rw [List.flatten_cons, List.getElem?_append_right (by rw [hc, Nat.add_mul]; omega), hc]
   rw [show (i + 1) * size + j - size = i * size + j by rw [Nat.add_mul]; omega]
   exact ih (fun cs hcs => h cs (by simp [hcs])) (by simpa using hi)
theorem flat_len {css : List (List Value)} {size : Nat} (h : ∀ cs ∈ css, cs.length = size) : css.flatten.length = css.length * size := by
 induction css with
 | nil => simp
 | cons c css ih =>
  rw [List.flatten_cons, List.length_append, ih (fun cs hcs => h cs (by simp [hcs])), h c (by simp), List.length_cons, Nat.add_mul]
  omega
theorem flat_take {css : List (List Value)} {size : Nat} (h : ∀ cs ∈ css, cs.length = size) (k : Nat) : css.flatten.take (k * size) = (css.take k).flatten := by
 induction css generalizing k with
 | nil => simp
 | cons c css ih =>
  have hc := h c (by simp)
  cases k with
  | zero => simp
  | succ k =>
   rw [List.flatten_cons, List.take_succ_cons, List.flatten_cons, List.take_append, List.take_of_length_le (by rw [hc, Nat.add_mul]; omega), hc]
   rw [show (k + 1) * size - size = k * size by rw [Nat.add_mul]; omega, ih (fun cs hcs => h cs (by simp [hcs]))]
theorem flat_drop {css : List (List Value)} {size : Nat} (h : ∀ cs ∈ css, cs.length = size) (k : Nat) : css.flatten.drop (k * size) = (css.drop k).flatten := by
 induction css generalizing k with
 | nil => simp
 | cons c css ih =>
  have hc := h c (by simp)
  cases k with
  | zero => simp
  | succ k =>
   rw [List.flatten_cons, List.drop_succ_cons, List.drop_append, List.drop_of_length_le (by rw [hc, Nat.add_mul]; omega), hc, List.nil_append]
   rw [show (k + 1) * size - size = k * size by rw [Nat.add_mul]; omega, ih (fun cs hcs => h cs (by simp [hcs]))]
section
variable {α : Type} {R : Rep α} {size : Nat} {w w' : World} {S S' : Nat → Prop} {n c : Nat} {A : Option Addr} {l : List α}
theorem DL.len (h : DL R size w S A n l) : n = l.length := by obtain ⟨_, _, h, _⟩ := h; exact h
theorem DL.none_ : DL R size w S none 0 [] := ⟨[], rfl, rfl, Rw.none_, fun i cs a h => by simp at h, fun cs h => by simp at h⟩
theorem DL.keep (h : DL R size w S A n l) (ok : R.Ok size) (hk : Kp w w' S S') : DL R size w' S' A n l := by
 obtain ⟨css, h1, h2, h3, h4, h5⟩ := h
 exact ⟨css, h1, h2, h3.keep hk, fun i cs a hi ha => ok.keep (h4 i cs a hi ha) hk, h5⟩
theorem DL.below {B : Nat} (h : DL R size w (Lt B) A n l) (ok : R.Ok size) (hb : Below B w w') : DL R size w' (Lt B) A n l := h.keep ok (Kp.lt hb)
theorem DL.call (h : DL R size w (Lo w) A n l) (ok : R.Ok size) (hb : Below w.heap.size w w') : DL R size w' (Lo w') A n l := h.keep ok (Kp.call hb)
/-- Element i, and where it stands. -/
theorem DL.at_ (h : DL R size w S A n l) {i : Nat} {a : α} (hi : l[i]? = some a) : ∃ b off cs, A = some ⟨b, off, none⟩ ∧ S b ∧ cs.length = size ∧ (∀ j u, cs[j]? = some u → w.cell? ⟨b, off + i * size + j, none⟩ = some u) ∧ R w S cs a := by
 obtain ⟨css, h1, h2, h3, h4, h5⟩ := h
 have hil := (List.getElem?_eq_some_iff.1 hi).1
 have hci : css[i]? = some css[i] := List.getElem?_eq_getElem (by omega)
 obtain ⟨b, off, e, hb, hc⟩ := h3.2 (by omega)
 have hl := h5 _ (List.getElem_mem (by omega : i < css.length))
 refine ⟨b, off, css[i], e, hb, hl, fun j u hu => ?_, h4 i _ a hci hi⟩
 have hj : j < size := by rw [← hl]; exact (List.getElem?_eq_some_iff.1 hu).1
 rw [Nat.add_assoc]
 exact hc _ u (by rw [flat_at h5 hci hj]; exact hu)
/-- The first k. -/
theorem DL.take_ (h : DL R size w S A n l) {k : Nat} (hk : k ≤ n) : DL R size w S A k (l.take k) := by
 obtain ⟨css, h1, h2, h3, h4, h5⟩ := h
 refine ⟨css.take k, by simp [h1], by rw [List.length_take]; omega, ⟨?_, fun hn => ?_⟩, fun i cs a hi ha => ?_, fun cs hcs => h5 cs (List.mem_of_mem_take hcs)⟩
 ·rw [← flat_take h5, List.length_take, h3.1]
  exact Nat.min_eq_left (Nat.mul_le_mul_right _ hk)
 ·obtain ⟨b, off, e, hb, hc⟩ := h3.2 (by omega)
  refine ⟨b, off, e, hb, fun j u hu => hc j u ?_⟩
  rw [← flat_take h5, List.getElem?_take] at hu
  split at hu
  ·exact hu
  ·cases hu
 ·have hik : i < k := by
   have := (List.getElem?_eq_some_iff.1 ha).1
   rw [List.length_take] at this
   omega
  rw [List.getElem?_take_of_lt hik] at hi ha
  exact h4 i cs a hi ha
/-- Behind the first k, where the slice does not lose its place. -/
theorem DL.drop_ (h : DL R size w S A n l) {k c : Nat} (hk : k ≤ n) (hc : n ≤ c) : DL R size w S (if c = k then A else A.map (·.add (k * size))) (n - k) (l.drop k) := by
 obtain ⟨css, h1, h2, h3, h4, h5⟩ := h
 refine ⟨css.drop k, by simp [h1], by rw [List.length_drop]; omega, ⟨?_, fun hn => ?_⟩, fun i cs a hi ha => ?_, fun cs hcs => h5 cs (List.mem_of_mem_drop hcs)⟩
 ·rw [← flat_drop h5, List.length_drop, h3.1, Nat.sub_mul]
 ·obtain ⟨b, off, rfl, hb, hcell⟩ := h3.2 (by omega)
  rw [if_neg (by omega)]
  refine ⟨b, off + k * size, by rw [Option.map_some, addr_add], hb, fun j u hu => ?_⟩
  rw [Nat.add_assoc]
  refine hcell _ u ?_
  rw [← flat_drop h5, List.getElem?_drop] at hu
  exact hu
 ·rw [List.getElem?_drop] at hi ha
  exact h4 _ cs a hi ha
theorem DL.reads {B : Nat} (h : DL R size w S A n l) (hS : ∀ b, S b → b < B) : ∃ xs, Reads w B size A n xs := by
 obtain ⟨css, h1, h2, h3, h4, h5⟩ := h
 exact ⟨_, h3.reads hS⟩
end
/-- What lies below B, but for some blocks, is as it was. -/
structure Sm (B : Nat) (av : List Nat) (w w' : World) : Prop where
 os : w'.os = w.os
 tape : w'.tape = w.tape
 output : w'.output = w.output
 size : w.heap.size ≤ w'.heap.size
 block : ∀ b, b < B → b ∉ av → w'.heap[b]? = w.heap[b]?
section
variable {B B' : Nat} {av : List Nat} {a w w' : World}
theorem Sm.refl (B : Nat) (av : List Nat) (w : World) : Sm B av w w := ⟨rfl, rfl, rfl, Nat.le_refl _, fun _ _ _ => rfl⟩
theorem Sm.trans (h : Sm B av a w) (h' : Sm B av w w') : Sm B av a w' := ⟨h'.os.trans h.os, h'.tape.trans h.tape, h'.output.trans h.output, Nat.le_trans h.size h'.size, fun b hb hn => (h'.block b hb hn).trans (h.block b hb hn)⟩
theorem Sm.of_below (h : Below B' w w') (hB : B ≤ B') : Sm B av w w' := ⟨h.os, h.tape, h.output, h.size, fun b hb _ => h.block b (Nat.lt_of_lt_of_le hb hB)⟩
theorem Sm.below (h : Sm B av a w) (hb : Below B' w w') (hB : B ≤ B') : Sm B av a w' := h.trans (Sm.of_below hb hB)
theorem Sm.grown {row : Option Nat} (h : Sm B av a w) (hg : w.grownBy w' row) (hr : ∀ g, row = some g → B ≤ g ∨ g ∈ av) (hB : B ≤ w.heap.size) : Sm B av a w' :=
 h.trans ⟨hg.os, hg.tape, hg.output, hg.size, fun b hb hn => hg.block b (Nat.lt_of_lt_of_le hb hB) (fun e => by
  rcases hr b e.symm with h | h
  ·omega
  ·exact hn h)⟩
theorem Sm.alloc (h : Sm B av a w) (hB : B ≤ w.heap.size) (o : Obj) : Sm B av a (w.alloc o) := h.trans (Sm.of_below ((Below.refl w.heap.size w).alloc (Nat.le_refl _) o) hB)
theorem Sm.setCell (h : Sm B av a w) {p : Addr} (hp : B ≤ p.block ∨ p.block ∈ av) (u : Value) : Sm B av a (w.setCell p u) :=
 h.trans ⟨rfl, rfl, rfl, by simp [World.setCell], fun b hb hn => Below.heap_setCell w p u b (by
  rintro rfl
  rcases hp with hp | hp
  ·omega
  ·exact hn hp)⟩
theorem Sm.to_below (h : Sm B av w w') {B0 : Nat} (hB : B0 ≤ B) (hav : ∀ x ∈ av, B0 ≤ x) : Below B0 w w' := ⟨h.os, h.tape, h.output, h.size, fun b hb => h.block b (Nat.lt_of_lt_of_le hb hB) (fun hm => by have := hav b hm; omega)⟩
theorem Sm.blk {g : Nat} {t : TypeId} {cs : Array Value} (h : Sm B av w w') (hg : Blk w g t cs) (hB : g < B) (hn : g ∉ av) : Blk w' g t cs := (h.block g hB hn).trans hg
theorem Sm.less (h : Sm B av w w') (hB : B' ≤ B) : Sm B' av w w' := ⟨h.os, h.tape, h.output, h.size, fun b hb hn => h.block b (Nat.lt_of_lt_of_le hb hB) hn⟩
/-- The blocks from lo on and below B, but some. -/
def Un (lo B : Nat) (av : List Nat) : Nat → Prop := fun b => lo ≤ b ∧ b < B ∧ b ∉ av
theorem Kp.sm {lo : Nat} (h : Sm B av w w') : Kp w w' (Un lo B av) (Un lo B av) := fun b hb => ⟨hb, h.block b hb.2.1 hb.2.2⟩
end
/-- A list of α as a slice of the call's own; all of it lies below B, and outside the blocks of 'av'. -/
def OL {α : Type} (R : Rep α) (size : Nat) (w : World) (base : Nat) (e : TypeId) (lo B : Nat) (av : List Nat) (A : Option Addr) (n c : Nat) (l : List α) : Prop :=
 ∃ css : List (List Value), css.length = l.length ∧ n = l.length ∧ w.ownsRow base e size (.slice A n c) n css.flatten ∧ (∀ (i : Nat) (cs : List Value) (a : α), css[i]? = some cs → l[i]? = some a → R w (fun b => Un lo B av b ∧ some b ≠ Value.ownBlock (.slice A n c)) cs a) ∧ (∀ cs ∈ css, cs.length = size) ∧ ∀ k, Value.ownBlock (.slice A n c) = some k → Un lo B av k
theorem own_keep {w w' : World} {base size n c : Nat} {e : TypeId} {A : Option Addr} {xs : List Value} (h : w.ownsRow base e size (.slice A n c) n xs) (hk : ∀ k, Value.ownBlock (.slice A n c) = some k → w'.heap[k]? = w.heap[k]?) : w'.ownsRow base e size (.slice A n c) n xs := by
 refine ⟨h.1, ?_⟩
 rcases h.2 with h2 | ⟨g, cap, cur, hv, hg, hh, r⟩
 ·exact .inl h2
 ·exact .inr ⟨g, cap, cur, hv, hg, (hk g (by rw [hv]; rfl)).trans hh, r⟩
section
variable {α : Type} {R : Rep α} {size : Nat} {w w' : World} {base : Nat} {e : TypeId} {lo lo' B B' : Nat} {av av' : List Nat} {n c : Nat} {A : Option Addr} {l : List α}
theorem OL.len (h : OL R size w base e lo B av A n c l) : n = l.length := by obtain ⟨_, _, h, _⟩ := h; exact h
theorem OL.cap (h : OL R size w base e lo B av A n c l) : n ≤ c := by obtain ⟨_, _, _, h, _⟩ := h; exact own_cap h
theorem OL.nil_ : OL R size w base e lo B av none 0 0 [] := ⟨[], rfl, rfl, World.ownsRow_nil _ _ _ _, fun i cs a h => by simp at h, fun cs h => by simp at h, fun k h => by cases h⟩
theorem OL.dl (h : OL R size w base e lo B av A n c l) (ok : R.Ok size) (hs : 0 < size) (hB : B ≤ w.heap.size) : DL R size w (Lo w) A n l := by
 obtain ⟨css, h1, h2, h3, h4, h5, h6⟩ := h
 exact ⟨css, h1, h2, Rw.of_reads (Reads.of_own h3) hs (fun b hb => hb), fun i cs a hi ha => ok.keep (h4 i cs a hi ha) (Kp.sub fun b hb => Nat.lt_of_lt_of_le hb.1.2.1 hB), h5⟩
theorem OL.sm (h : OL R size w base e lo B av A n c l) (ok : R.Ok size) (hs : Sm B av w w') : OL R size w' base e lo B av A n c l := by
 obtain ⟨css, h1, h2, h3, h4, h5, h6⟩ := h
 exact ⟨css, h1, h2, own_keep h3 (fun k hk => hs.block k (h6 k hk).2.1 (h6 k hk).2.2), fun i cs a hi ha => ok.keep (h4 i cs a hi ha) (fun b hb => ⟨hb, hs.block b hb.1.2.1 hb.1.2.2⟩), h5, h6⟩
theorem OL.more (h : OL R size w base e lo B av A n c l) (ok : R.Ok size) (hB : ∀ b, Un lo B av b → Un lo' B' av' b) : OL R size w base e lo' B' av' A n c l := by
 obtain ⟨css, h1, h2, h3, h4, h5, h6⟩ := h
 exact ⟨css, h1, h2, h3, fun i cs a hi ha => ok.keep (h4 i cs a hi ha) (Kp.sub fun b hb => ⟨hB b hb.1, hb.2⟩), h5, fun k hk => hB k (h6 k hk)⟩
theorem OL.low {base' : Nat} (h : OL R size w base e lo B av A n c l) (hb : base' ≤ base) : OL R size w base' e lo B av A n c l := by
 obtain ⟨css, h1, h2, h3, h4, h5⟩ := h
 refine ⟨css, h1, h2, ⟨h3.1, ?_⟩, h4, h5⟩
 rcases h3.2 with h3 | ⟨g, cap, cur, hv, hg, hh, r⟩
 ·exact .inl h3
 ·exact .inr ⟨g, cap, cur, hv, Nat.le_trans hb hg, hh, r⟩
end
/-- One element in a new block. -/
theorem DL.one {α : Type} {R : Rep α} {size : Nat} {w : World} (ok : R.Ok size) {S : Nat → Prop} {T : TypeId} {cs : List Value} {a : α} {g : Nat} (hg : Blk w g T cs.toArray) (hS : S g) (hr : R w S cs a) : DL R size w S (some ⟨g, 0, none⟩) 1 [a] := by
 refine ⟨[cs], rfl, rfl, ⟨by simp [ok.len hr], fun _ => ⟨g, 0, rfl, hS, fun j u hu => ?_⟩⟩, fun i ds b hi hb => ?_, fun ds h => ?_⟩
 ·rw [hg.cell]
  simpa using hu
 ·cases i with
  | zero =>
   simp at hi hb
   subst hi hb
   exact hr
  | succ i => simp at hi
 ·simp at h
  subst h
  exact ok.len hr
/-- Bytes that read, by a footprint. -/
def BF (w : World) (S : Nat → Prop) (A : Option Addr) (n : Nat) (l : List UInt8) : Prop := n = l.length ∧ Rw w S 1 A n (bv l)
theorem BF.keep {w w' : World} {S S' : Nat → Prop} {A : Option Addr} {n : Nat} {l : List UInt8} (h : BF w S A n l) (hk : Kp w w' S S') : BF w' S' A n l := ⟨h.1, h.2.keep hk⟩
theorem BF.bs {w : World} {S : Nat → Prop} {A : Option Addr} {n B : Nat} {l : List UInt8} (h : BF w S A n l) (hS : ∀ b, S b → b < B) : BS w B A n l := ⟨h.1, h.2.reads hS⟩
theorem BF.lt {w : World} {A : Option Addr} {n B : Nat} {l : List UInt8} (h : BF w (Lt B) A n l) : BS w B A n l := h.bs fun _ hb => hb
theorem BF.of {w : World} {S : Nat → Prop} {A : Option Addr} {n B : Nat} {l : List UInt8} (h : BS w B A n l) (hS : ∀ b, b < B → S b) : BF w S A n l := ⟨h.1, Rw.of_reads h.2 (by omega) hS⟩
theorem BF.own {w : World} {T base n c : Nat} {A : Option Addr} {l : List UInt8} (h : OB w T base A n c l) : BF w (Fr base w) A n l := by
 refine ⟨h.1, (bv_length l).trans (by have := h.1; omega), fun hn => ?_⟩
 obtain ⟨g, cap, hv, hg, hlt⟩ := h.2.form hn
 have hA : A = some ⟨g, 0, none⟩ := by injection hv
 subst hA
 exact ⟨g, 0, rfl, ⟨hg, hlt⟩, fun j u hu => by have := h.2.cells (g := g) rfl j u hu; rwa [addr_add] at this⟩
/-- Numbers of a literal, as bytes. -/
theorem BS.vals (w : World) (T : Nat) (xs : List Int) (h : ∀ x ∈ xs, 0 ≤ x ∧ x ≤ 255) {g : Nat} (hg : g = w.heap.size) : BS (w.alloc (.cells (xs.map (Value.int .u8)).toArray T)) (g + 1) (some ⟨g, 0, none⟩) xs.length (xs.map ub) := by
 subst hg
 have e : bv (xs.map ub) = xs.map (Value.int .u8) := by
  rw [bv, List.map_map]
  refine List.map_congr_left fun x hx => ?_
  simp only [Function.comp]
  rw [ub_toNat (h x hx).1 (h x hx).2]
 refine ⟨by simp, by rw [e]; simp, fun _ => ⟨_, rfl, by simp, fun j u hu => ?_⟩⟩
 rw [e] at hu
 rw [addr_add, Nat.zero_add, (Blk.new w T (xs.map (Value.int .u8)).toArray).cell]
 simpa using hu
theorem box1c (w : World) (c1 : Array Value) (t1 : TypeId) : ∃ W, w.alloc (.cells c1 t1) = W ∧ Blk W w.heap.size t1 c1 ∧ Below w.heap.size w W := ⟨_, rfl, Blk.new w t1 c1, (Below.refl _ _).alloc (Nat.le_refl _) _⟩
theorem boxes2 (w : World) (c1 c2 : Array Value) (t1 t2 : TypeId) : ∃ W, (w.alloc (.cells c1 t1)).alloc (.cells c2 t2) = W ∧ Blk W w.heap.size t1 c1 ∧ Blk W (w.heap.size + 1) t2 c2 ∧ Below w.heap.size w W := by
 have hz : (w.alloc (.cells c1 t1)).heap.size = w.heap.size + 1 := by simp
 have h2 := Blk.new (w.alloc (.cells c1 t1)) t2 c2
 rw [hz] at h2
 exact ⟨_, rfl, (Blk.new w t1 c1).alloc _, h2, ((Below.refl _ _).alloc (Nat.le_refl _) _).alloc (by omega) _⟩
/-- Numbers of kind k in cells. -/
def rNum (k : IntKind) : Rep Int := fun _ _ cs x => cs = [.int k x] ∧ (Lit.int k x).wf = true
theorem NS.form {k : IntKind} {w : World} {B n : Nat} {A : Option Addr} {l : List Int} (h : NS k w B A n l) {j : Nat} (hj : j < n) : ∃ b off, A = some ⟨b, off, none⟩ ∧ b < B ∧ w.cell? ⟨b, off + j, none⟩ = some (.int k (l[j]?.getD 0)) := by
 obtain ⟨hn, hr, _⟩ := h
 obtain ⟨ad, u, rfl, hb, hu, hc⟩ := hr.at_ hj
 obtain ⟨ad', u0, e, _, hu0, hc0⟩ := hr.at_ (k := 0) (by omega)
 injection e with e
 subst e
 have hs : ad.spot = none := by
  have := World.cell?_spot hc0
  simpa [Addr.add] using this
 obtain ⟨b, off, spot⟩ := ad
 simp only at hs
 subst hs
 refine ⟨b, off, rfl, hb, ?_⟩
 have hj' : j < l.length := by omega
 have e2 : u = .int k (l[j]?.getD 0) := by
  rw [List.getElem?_map, List.getElem?_eq_getElem hj'] at hu
  rw [List.getElem?_eq_getElem hj']
  simpa using hu.symm
 rw [← e2, ← hc]
 congr 1
 unfold Addr.add
 split <;> simp_all
theorem NS.below {k : IntKind} {w w' : World} {B n : Nat} {A : Option Addr} {l : List Int} (h : NS k w B A n l) (hb : Below B w w') : NS k w' B A n l := ⟨h.1, Reads.below h.2.1 hb, h.2.2⟩
theorem NS.more {k : IntKind} {w : World} {B B' n : Nat} {A : Option Addr} {l : List Int} (h : NS k w B A n l) (hB : B ≤ B') : NS k w B' A n l := ⟨h.1, Reads.more h.2.1 hB, h.2.2⟩
theorem NS.wf {k : IntKind} {w : World} {B n : Nat} {A : Option Addr} {l : List Int} (h : NS k w B A n l) (j : Nat) : (Lit.int k (l[j]?.getD 0)).wf = true := by
 rcases Nat.lt_or_ge j l.length with hj | hj
 ·rw [List.getElem?_eq_getElem hj]
  exact h.2.2 _ (List.getElem_mem hj)
 ·rw [List.getElem?_eq_none hj]
  cases k <;> decide
theorem take_succ_eq {α : Type} {l l' : List α} {j : Nat} {d : α} (h : l.take j = l'.take j) (hj : j < l.length) (hj' : j < l'.length) (he : l[j]?.getD d = l'[j]?.getD d) : l.take (j + 1) = l'.take (j + 1) := by
 rw [List.getElem?_eq_getElem hj, List.getElem?_eq_getElem hj'] at he
 simp only [Option.getD_some] at he
 rw [List.take_succ_eq_append_getElem hj, List.take_succ_eq_append_getElem hj', h, he]
set_option linter.unusedSimpArgs false
def hasN (l : List Int) (c : Int) : Bool := decide (c ∈ l)
theorem hasN_at {l : List Int} {c : Int} {j : Nat} (hj : j < l.length) (h : l[j]?.getD 0 = c) : hasN l c = true := by
 unfold hasN
 rw [List.getElem?_eq_getElem hj] at h
 exact decide_eq_true (h ▸ List.getElem_mem hj)
theorem hasN_no {l : List Int} {c : Int} (h : ∀ i, i < l.length → l[i]?.getD 0 ≠ c) : hasN l c = false := by
 unfold hasN
 refine decide_eq_false fun hm => ?_
 obtain ⟨i, hi, e⟩ := List.getElem_of_mem hm
 refine h i hi ?_
 rw [List.getElem?_eq_getElem hi]
 exact e
theorem step_no {l : List Int} {c : Int} {j : Nat} (h : ∀ i, i < j → l[i]?.getD 0 ≠ c) (hj : l[j]?.getD 0 ≠ c) : ∀ i, i < j + 1 → l[i]?.getD 0 ≠ c := by
 intro i hi
 rcases Nat.lt_or_ge i j with h1 | h1
 ·exact h i h1
 ·rw [show i = j by omega]; exact hj
theorem NS.call {k : IntKind} {w w' : World} {n : Nat} {A : Option Addr} {l : List Int} (h : NS k w w.heap.size A n l) (hb : Below w.heap.size w w') : NS k w' w'.heap.size A n l := (h.below hb).more hb.size
theorem u32info : (Tryz.prog.info? 22).map (fun i => (i.zero, i.size, i.bytes)) = some (some (.int .u32 0), 1, 4) := by kernel_rfl
def un (l : List Int) : List Value := l.map (Value.int .u32)
theorem un_length (l : List Int) : (un l).length = l.length := by simp [un]
theorem un_append (l l' : List Int) : un (l ++ l') = un l ++ un l' := by simp [un]
theorem un_one (l : List Int) : ∀ u ∈ un l, u.oneCell' = true := by
 intro u hu
 obtain ⟨x, _, rfl⟩ := List.mem_map.1 hu
 rfl
/-- Numbers of the call's own. -/
def OU (w : World) (base : Nat) (A : Option Addr) (n c : Nat) (l : List Int) : Prop := n = l.length ∧ w.ownsRow base 22 1 (.slice A n c) n (un l) ∧ ∀ x ∈ l, (Lit.int .u32 x).wf = true
section
variable {w w' : World} {base n c : Nat} {A : Option Addr} {l : List Int}
theorem OU.nil_ : OU w base none 0 0 [] := ⟨rfl, World.ownsRow_nil _ _ _ _, fun x h => by cases h⟩
theorem OU.empty (w : World) {base : Nat} (hb : base ≤ w.heap.size) : OU (w.alloc (.cells #[] 22)) base (some ⟨w.heap.size, 0, none⟩) 0 0 [] :=
 ⟨rfl, ⟨rfl, .inr ⟨w.heap.size, 0, #[], rfl, hb, Blk.new w 22 #[], Nat.le_refl _, by unfold maxLen; omega, rfl, rfl⟩⟩, fun x h => by cases h⟩
theorem OU.alloc (h : OU w base A n c l) (o : Obj) : OU (w.alloc o) base A n c l := ⟨h.1, h.2.1.alloc o, h.2.2⟩
theorem OU.ns (h : OU w base A n c l) : NS .u32 w w.heap.size A n l := ⟨h.1, Reads.of_own h.2.1, h.2.2⟩
theorem OU.call (h : OU w base A n c l) (hb : Below w.heap.size w w') : OU w' base A n c l := ⟨h.1, own_below h.2.1 hb, h.2.2⟩
theorem OU.cap (h : OU w base A n c l) : n ≤ c := own_cap h.2.1
end
theorem wpl_appU {w : World} {ops : Array Oper} {rest : List Oper} {o : Oper} {a : Act} {Q : Exit → Act → World → Prop} (hgd : o.guard = none) (s x : Operand)
  (ho : o.op = .call { callee := .builtin .append, args := #[s, x], argTypes := #[72, 72] })
  (base : Nat) (A : Option Addr) (n c : Nat) (l : List Int) (hs : a.eval s = .slice A n c) (hown : OU w base A n c l)
  (B : Nat) (A' : Option Addr) (m c' : Nat) (l' : List Int) (hx : a.eval x = .slice A' m c') (hr : NS .u32 w B A' m l')
  (hlen : l.length + l'.length ≤ 35184372088832) (hbase : base ≤ w.heap.size)
  (h : ∀ (A2 : Option Addr) (n2 c2 : Nat) (w' : World), OU w' base A2 n2 c2 (l ++ l') → Below base w w' → w.grownBy w' (Value.ownBlock (.slice A n c)) → wpList Tryz.prog ops Q rest (a.put o.dst (.slice A2 n2 c2)) w') : wpList Tryz.prog ops Q (o :: rest) a w := by
 have e1 := hown.1
 have e2 : m = l'.length := hr.1
 refine wpl_appR hgd s x 72 ho 22 (.int .u32 0) 1 4 Tryz.underlying72 u32info rfl (by omega) base A n c (un l) hs hown.2.1 B A' m c' (un l') hx hr.2.1 (un_one l') (by unfold maxLen; omega) (by omega) hbase ?_
 intro A2 c2 w' o' b' g' _
 exact h A2 (n + m) c2 w' ⟨by rw [List.length_append]; omega, by rw [un_append]; exact o', fun x hx => by
  rcases List.mem_append.1 hx with hx | hx
  ·exact hown.2.2 x hx
  ·exact hr.2.2 x hx⟩ b' g'
/-- One number in a new block. -/
theorem NS.one (w : World) {x : Int} (hx : (Lit.int .u32 x).wf = true) {g : Nat} (hg : g = w.heap.size) : NS .u32 (w.alloc (.cells #[.int .u32 x] 22)) (g + 1) (some ⟨g, 0, none⟩) 1 [x] := by
 subst hg
 refine ⟨rfl, ⟨rfl, fun _ => ⟨_, rfl, by simp, fun j u hu => ?_⟩⟩, fun y hy => by simp at hy; subst hy; exact hx⟩
 match j, hu with
 | 0, hu =>
  simp only [List.map_cons, List.map_nil, List.getElem?_cons_zero, Option.some.injEq] at hu
  subst hu
  exact (Blk.new w 22 #[.int .u32 x]).cell 0
/-- Fresh numbers, or those that were there, are handed back. -/
def RetU (w : World) (l : List Int) (e : Ending) (w' : World) : Prop := ∃ (A : Option Addr) (n c : Nat), e = .returned (.slice A n c) ∧ NS .u32 w' w'.heap.size A n l ∧ Below w.heap.size w w'
def RetOU (w : World) (l : List Int) (e : Ending) (w' : World) : Prop := ∃ (A : Option Addr) (n c : Nat), e = .returned (.slice A n c) ∧ OU w' w.heap.size A n c l ∧ Below w.heap.size w w'
theorem nilU_eq (c : Nat) (W : World) : (binOp .eql 72 (.slice none 0 c) (.slice none 0 0)).run Tryz.prog W = .ok (.bool true) W := by kernel_rfl
theorem nilU_ne (A : Addr) (n c : Nat) (W : World) : (binOp .eql 72 (.slice (some A) n c) (.slice none 0 0)).run Tryz.prog W = .ok (.bool false) W := by kernel_rfl
theorem NS.nil_ {k : IntKind} {w : World} {B n : Nat} {l : List Int} (h : NS k w B none n l) : n = 0 ∧ l = [] := by
 have h0 : n = 0 := by
  rcases Nat.eq_zero_or_pos n with h0 | h0
  ·exact h0
  ·obtain ⟨_, _, e, _⟩ := h.form h0
   cases e
 exact ⟨h0, List.eq_nil_of_length_eq_zero (by rw [← h.1]; exact h0)⟩
set_option maxHeartbeats 1000000 in
set_option maxRecDepth 100000 in
theorem cloneU (A : Option Addr) (n c : Nat) (l : List Int) (w : World) (h : NS .u32 w w.heap.size A n l) (hn : n ≤ 35184372088832) :
  Calls Tryz.prog 252 #[.slice A n c] w (RetOU w l) := by
 rcases A with _ | A
 ·obtain ⟨rfl, rfl⟩ := h.nil_
  have e := nilU_eq c
  go_enter Tryz.func252, Tryz.ntmps252
  go_wp2_with fail
  go_ret
  exact ⟨none, 0, 0, rfl, OU.nil_, Below.refl _ _⟩
 ·have HLN := Lib.hid h.1
  have e := nilU_ne A n c
  go_enter Tryz.func252, Tryz.ntmps252
  go_wp2_with (at_builtin; refine wpl_appU rfl (.tmp 5) (.tmp 6) rfl w.heap.size _ 0 0 [] (by rfl) (OU.empty w (Nat.le_refl _)) w.heap.size (some A) n c l (by rfl) (h.below ((Below.refl _ _).alloc (Nat.le_refl _) _)) (by rw [← HLN.out]; simp; omega) (by simp) ?_; intro A2 n2 c2 w2 o2 b2 _)
  all_goals go_ret
  all_goals exact ⟨A2, n2, c2, rfl, o2, ((Below.refl _ _).alloc (Nat.le_refl _) _).trans b2⟩
set_option linter.unusedVariables false
/-- A part of a path: its kind, its numbers. -/
abbrev Seg := Int × List Int
/-- Numbers of four bytes that read, by a footprint. -/
def NF (w : World) (S : Nat → Prop) (A : Option Addr) (n : Nat) (l : List Int) : Prop := n = l.length ∧ Rw w S 1 A n (un l) ∧ ∀ x ∈ l, (Lit.int .u32 x).wf = true
section
variable {w w' : World} {S S' : Nat → Prop} {A : Option Addr} {n B : Nat} {l : List Int}
theorem NF.keep (h : NF w S A n l) (hk : Kp w w' S S') : NF w' S' A n l := ⟨h.1, h.2.1.keep hk, h.2.2⟩
theorem NF.ns (h : NF w S A n l) (hS : ∀ b, S b → b < B) : NS .u32 w B A n l := ⟨h.1, h.2.1.reads hS, h.2.2⟩
theorem NF.lt (h : NF w (Lt B) A n l) : NS .u32 w B A n l := h.ns fun _ hb => hb
theorem NF.of (h : NS .u32 w B A n l) (hS : ∀ b, b < B → S b) : NF w S A n l := ⟨h.1, Rw.of_reads h.2.1 (by omega) hS, h.2.2⟩
theorem NF.none_ : NF w S none 0 [] := ⟨rfl, Rw.none_, fun x h => by cases h⟩
/-- Number j, and where it stands. -/
theorem NF.at_ (h : NF w S A n l) {j : Nat} {x : Int} (hj : l[j]? = some x) : ∃ b off, A = some ⟨b, off, none⟩ ∧ S b ∧ w.cell? ⟨b, off + j, none⟩ = some (.int .u32 x) := by
 have hl := (List.getElem?_eq_some_iff.1 hj).1
 obtain ⟨b, off, e, hb, hc⟩ := h.2.1.2 (by have := h.1; omega)
 exact ⟨b, off, e, hb, hc j _ (by unfold un; rw [List.getElem?_map, hj]; rfl)⟩
theorem NF.wf_ (h : NF w S A n l) {j : Nat} {x : Int} (hj : l[j]? = some x) : 0 ≤ x ∧ x ≤ 4294967295 := by
 have := h.2.2 x (List.mem_of_getElem? hj)
 simpa [Lit.wf, IntKind.min, IntKind.max, IntKind.signed, IntKind.bits] using this
end
/-- A part of a path in cells. -/
def rSeg : Rep Seg := fun w S cs x => ∃ (A : Option Addr) (n c : Nat), cs = [.int .i64 x.1, .slice A n c] ∧ NF w S A n x.2 ∧ n ≤ c
theorem rSeg_ok : rSeg.Ok 2 where
 len := by rintro w S cs a ⟨A, n, c, rfl, _⟩; rfl
 one := by
  rintro w S cs a ⟨A, n, c, rfl, _⟩ u hu
  simp at hu
  rcases hu with rfl | rfl <;> rfl
 keep := by
  rintro w w' S S' cs a ⟨A, n, c, rfl, h, hc⟩ hk
  exact ⟨A, n, c, rfl, h.keep hk, hc⟩
theorem DL.segAt {w : World} {S : Nat → Prop} {A : Option Addr} {n : Nat} {l : List Seg} (h : DL rSeg 2 w S A n l) {j : Nat} {x : Seg} (hj : l[j]? = some x) :
  ∃ b off A' n' c', A = some ⟨b, off, none⟩ ∧ S b ∧ w.cell? ⟨b, off + j * 2, none⟩ = some (.int .i64 x.1) ∧ w.cell? ⟨b, off + j * 2 + 1, none⟩ = some (.slice A' n' c') ∧ NF w S A' n' x.2 ∧ n' ≤ c' := by
 obtain ⟨b, off, cs, e, hb, _, hc, A', n', c', rfl, h1, h2⟩ := h.at_ hj
 exact ⟨b, off, A', n', c', e, hb, by simpa using hc 0 _ rfl, by simpa using hc 1 _ rfl, h1, h2⟩
theorem getS {l : List Seg} {j n : Nat} (hn : n = l.length) (hj : j < n) : ∃ x, l[j]? = some x := ⟨_, List.getElem?_eq_getElem (by omega)⟩
/-- How many numbers a path has. -/
def sumN : List Seg → Nat
 | [] => 0
 | x :: l => x.2.length + sumN l
theorem sumN_app (a b : List Seg) : sumN (a ++ b) = sumN a + sumN b := by
 induction a with
 | nil => simp [sumN]
 | cons x a ih => rw [List.cons_append, sumN, sumN, ih]; omega
theorem take_snoc {α : Type} {l : List α} {j : Nat} {x : α} (h : l[j]? = some x) : l.take (j + 1) = l.take j ++ [x] := by
 obtain ⟨g1, g2⟩ := List.getElem?_eq_some_iff.1 h
 rw [List.take_succ_eq_append_getElem g1, g2]
theorem sumN_take {l : List Seg} {j : Nat} {x : Seg} (h : l[j]? = some x) : sumN (l.take (j + 1)) = sumN (l.take j) + x.2.length := by
 rw [take_snoc h, sumN_app]; simp [sumN]
theorem sumN_le (l : List Seg) (j : Nat) : sumN (l.take j) ≤ sumN l := by
 have := sumN_app (l.take j) (l.drop j)
 rw [List.take_append_drop] at this
 omega
theorem sumN_at {l : List Seg} {j : Nat} {x : Seg} (h : l[j]? = some x) : x.2.length ≤ sumN l := by
 have h1 := sumN_take h
 have h2 := sumN_le l (j + 1)
 omega
/-- The same, but at most three hundred of each part. -/
def sumM : List Seg → Nat
 | [] => 0
 | x :: l => min x.2.length 300 + sumM l
theorem sumM_app (a b : List Seg) : sumM (a ++ b) = sumM a + sumM b := by
 induction a with
 | nil => simp [sumM]
 | cons x a ih => rw [List.cons_append, sumM, sumM, ih]; omega
theorem sumM_take {l : List Seg} {j : Nat} {x : Seg} (h : l[j]? = some x) : sumM (l.take (j + 1)) = sumM (l.take j) + min x.2.length 300 := by
 rw [take_snoc h, sumM_app]; simp [sumM]
theorem sumM_le (l : List Seg) (j : Nat) : sumM (l.take j) ≤ sumM l := by
 have := sumM_app (l.take j) (l.drop j)
 rw [List.take_append_drop] at this
 omega
theorem sumM_lt {l : List Seg} (h : sumM l < 300) : sumN l = sumM l := by
 induction l with
 | nil => rfl
 | cons x l ih =>
  rw [sumM] at h
  rw [sumN, sumM, ih (by omega)]
  omega
/-- A path that is short enough has at most as many numbers as its longest part, or three hundred. -/
theorem sumM_few {l : List Seg} {R : Nat} (hR : 300 ≤ R) (h : sumM l ≤ 300) (hx : ∀ x ∈ l, x.2.length ≤ R) : sumN l ≤ R := by
 induction l with
 | nil => simp [sumN]
 | cons x l ih =>
  rw [sumM] at h
  rw [sumN]
  have h1 := hx x (by simp)
  by_cases h2 : x.2.length = 0
  ·have := ih (by omega) (fun y hy => hx y (by simp [hy]))
   omega
  ·have h3 := sumM_lt (l := l) (by omega)
   by_cases h4 : 300 ≤ x.2.length
   ·omega
   ·omega
def fewA (l : List Seg) : Bool := decide (l.length ≤ 12 ∧ sumM l ≤ 300)
/-- What a slice of numbers of four bytes holds at most. -/
abbrev big32 : Nat := 35184372087808
theorem fewA_of {l : List Seg} (h : fewA l = true) (hx : ∀ x ∈ l, x.2.length ≤ big32) : l.length ≤ 12 ∧ sumN l ≤ big32 := by
 have h1 : l.length ≤ 12 ∧ sumM l ≤ 300 := by simpa [fewA] using h
 exact ⟨h1.1, sumM_few (by unfold big32; omega) h1.2 hx⟩
set_option maxHeartbeats 1000000 in
set_option maxRecDepth 100000 in
theorem law03Few (A : Option Addr) (n c : Nat) (l : List Seg) (w : World) (hd : DL rSeg 2 w (Lo w) A n l) :
  Calls Tryz.prog 131 #[.slice A n c] w fun en w' => en = .returned (.bool (fewA l)) ∧ Below w.heap.size w w' := by
 have HN := Lib.hid hd.len
 by_cases hl : 12 < n
 ·have e1 : decide (12 < (n : Int)) = true := decide_eq_true (by omega)
  have HF := Lib.hid (show fewA l = false from decide_eq_false (by have := HN.out; omega))
  go_enter Tryz.func131, Tryz.ntmps131
  go_wp2_with fail
  go_ret
  exact ⟨ret_b HF.out.symm, Below.refl _ _⟩
 have e1 : decide (12 < (n : Int)) = false := decide_eq_false (by omega)
 go_enter Tryz.func131, Tryz.ntmps131
 go_wp2_with fail
 go_loop [3, 4] (fun s i => ∃ j t : Nat, j ≤ n ∧ i = .int .i64 j ∧ s = .int .i64 t ∧ t ≤ 300 ∧ Hid (t = sumM (l.take j))) (fun _ i => n - (intOf i).toNat)
 case atStart => exact ⟨0, 0, by omega, rfl, rfl, by omega, Lib.hid (by simp [sumM])⟩
 case round =>
  obtain ⟨j, t, hj, rfl, rfl, ht, HT⟩ := hrel
  by_cases hlt : j < n
  ·obtain ⟨x, hx⟩ := getS HN.out hlt
   have e2 : decide ((j : Int) < n) = true := decide_eq_true (by omega)
   obtain ⟨b, off, A', n', c', rfl, hb, k0, k1, hnf, hnc'⟩ := hd.segAt hx
   have HX := Lib.hid hx
   have HL := Lib.hid hnf.1
   have HST := Lib.hid (sumM_take hx)
   have HSL := Lib.hid (sumM_le l (j + 1))
   clear hx hnf k0
   by_cases hc : 300 < n'
   ·have q1 : (300 : Int) < n' := by omega
    have wt : IntKind.i64.wrap ((t : Int) + 300) = (t : Int) + 300 := IntWalk.i64_in _ ⟨by omega, by omega⟩
    by_cases hbig : 300 < (t : Int) + 300
    ·have e3 : decide (300 < (t : Int) + 300) = true := decide_eq_true (by omega)
     have HF := Lib.hid (show fewA l = false from decide_eq_false (by have := HL.out; have := HT.out; have := HST.out; have := HSL.out; omega))
     clear hc hbig
     go_wp2_with fail
     go_ret
     exact ⟨ret_b HF.out.symm, Below.refl _ _⟩
    ·have e3 : decide (300 < (t : Int) + 300) = false := decide_eq_false (by omega)
     have HS := Lib.hid (show ((t : Int) + 300).toNat = sumM (l.take (j + 1)) by have := HL.out; have := HT.out; have := HST.out; omega)
     have hbig2 := Lib.hid hbig
     clear hc hbig
     go_wp2_with fail
     go_round
     case rel => exact ⟨j + 1, ((t : Int) + 300).toNat, by omega, by go_num, by rw [Int.toNat_of_nonneg (by omega)], by have := hbig2.out; omega, HS⟩
     case measure => simp [intOf]; omega
   ·have q1 : ¬ (300 : Int) < n' := by omega
    have wt : IntKind.i64.wrap ((t : Int) + n') = (t : Int) + n' := IntWalk.i64_in _ ⟨by omega, by omega⟩
    by_cases hbig : 300 < (t : Int) + n'
    ·have e3 : decide (300 < (t : Int) + n') = true := decide_eq_true (by omega)
     have HF := Lib.hid (show fewA l = false from decide_eq_false (by have := HL.out; have := HT.out; have := HST.out; have := HSL.out; omega))
     clear hc hbig
     go_wp2_with fail
     go_ret
     exact ⟨ret_b HF.out.symm, Below.refl _ _⟩
    ·have e3 : decide (300 < (t : Int) + n') = false := decide_eq_false (by omega)
     have HS := Lib.hid (show ((t : Int) + n').toNat = sumM (l.take (j + 1)) by have := HL.out; have := HT.out; have := HST.out; omega)
     have hbig2 := Lib.hid hbig
     clear hc hbig
     go_wp2_with fail
     go_round
     case rel => exact ⟨j + 1, ((t : Int) + n').toNat, by omega, by go_num, by rw [Int.toNat_of_nonneg (by omega)], by have := hbig2.out; omega, HS⟩
     case measure => simp [intOf]; omega
  ·have e2 : decide ((j : Int) < n) = false := decide_eq_false (by omega)
   have HF := Lib.hid (show fewA l = true from decide_eq_true (by have h1 := HN.out; have h2 := HT.out; rw [List.take_of_length_le (by omega)] at h2; omega))
   go_wp2_with fail
   go_ret
   exact ⟨ret_b HF.out.symm, Below.refl _ _⟩
def okSeg (x : Seg) : Bool := decide ((x.1 = 1 ∨ x.1 = 2) ∧ x.2.length ≠ 0 ∧ x.2.length ≤ 64)
def rightA (l : List Seg) : Bool := l.all okSeg && decide (sumN l ≤ 64 ∧ l.length ≤ 8)
theorem rightA_bad {l : List Seg} {j : Nat} {x : Seg} (h : l[j]? = some x) (hx : ¬ ((x.1 = 1 ∨ x.1 = 2) ∧ x.2.length ≠ 0 ∧ x.2.length ≤ 64)) : rightA l = false := by
 unfold rightA
 rw [List.all_eq_false.2 ⟨x, List.mem_of_getElem? h, by simp only [okSeg, decide_eq_false hx]; simp⟩, Bool.false_and]
theorem rightA_sum {l : List Seg} (h : 64 < sumN l) : rightA l = false := by
 unfold rightA
 rw [decide_eq_false (by omega), Bool.and_false]
theorem rightA_long {l : List Seg} (h : 8 < l.length) : rightA l = false := by
 unfold rightA
 rw [decide_eq_false (by omega), Bool.and_false]
theorem rightA_yes {l : List Seg} (h : l.all okSeg = true) (h1 : sumN l ≤ 64) (h2 : l.length ≤ 8) : rightA l = true := by
 unfold rightA
 rw [h, decide_eq_true (And.intro h1 h2)]; rfl
theorem rightA_of {l : List Seg} (h : rightA l = true) : l.all okSeg = true ∧ sumN l ≤ 64 ∧ l.length ≤ 8 := by
 unfold rightA at h
 simpa using h
theorem okSeg_take {l : List Seg} {j : Nat} {x : Seg} (h : (l.take j).all okSeg = true) (hx : l[j]? = some x) (hk : (x.1 = 1 ∨ x.1 = 2) ∧ x.2.length ≠ 0 ∧ x.2.length ≤ 64) : (l.take (j + 1)).all okSeg = true := by
 rw [take_snoc hx, List.all_append, h, Bool.true_and]
 simp only [List.all_cons, List.all_nil, okSeg, decide_eq_true hk, Bool.and_self]
def countA : List Seg → Nat
 | [] => 0
 | x :: l => (if x.1 = 1 then 1 else x.2.length) + countA l
theorem countA_app (a b : List Seg) : countA (a ++ b) = countA a + countA b := by
 induction a with
 | nil => simp [countA]
 | cons x a ih => rw [List.cons_append, countA, countA, ih]; omega
theorem countA_take {l : List Seg} {j : Nat} {x : Seg} (h : l[j]? = some x) : countA (l.take (j + 1)) = countA (l.take j) + (if x.1 = 1 then 1 else x.2.length) := by
 rw [take_snoc h, countA_app]; simp [countA]
theorem countA_bd (l : List Seg) : countA l ≤ l.length + sumN l := by
 induction l with
 | nil => simp [countA]
 | cons x l ih =>
  rw [countA, sumN, List.length_cons]
  split <;> omega
theorem countA_le (l : List Seg) (j : Nat) : countA (l.take j) ≤ countA l := by
 have := countA_app (l.take j) (l.drop j)
 rw [List.take_append_drop] at this
 omega
/-- The first number of a path that begins with a sequence. -/
def firstA : List Seg → Int × Bool
 | (2, x :: _) :: _ => (x, true)
 | _ => (0, false)
def RetI (w : World) (v : Int) (e : Ending) (w' : World) : Prop := e = .returned (.int .i64 v) ∧ Below w.heap.size w w'

set_option maxHeartbeats 2000000 in
set_option maxRecDepth 100000 in
theorem aspCount (A : Option Addr) (n c : Nat) (l : List Seg) (w : World) (hd : DL rSeg 2 w (Lo w) A n l) (hn : n ≤ 100000) (hs : Hid (sumN l ≤ big32)) :
  Calls Tryz.prog 234 #[.slice A n c] w (RetI w (countA l)) := by
 have HN := Lib.hid hd.len
 have HBD := Lib.hid (show countA l ≤ 100000 + big32 by have := countA_bd l; have := hs.out; have := HN.out; omega)
 go_enter Tryz.func234, Tryz.ntmps234
 go_wp2_with fail
 go_loopw [3, 8] (fun s i wr => ∃ j t : Nat, j ≤ n ∧ i = .int .i64 j ∧ s = .int .i64 t ∧ Hid (t = countA (l.take j)) ∧ Below w.heap.size w wr) (fun _ i _ => n - (intOf i).toNat)
 case atStart => exact ⟨0, 0, by omega, rfl, rfl, Lib.hid (by simp [countA]), Below.refl _ _⟩
 case round =>
  obtain ⟨j, t, hj, rfl, rfl, HT, hb⟩ := hrel
  by_cases hlt : j < n
  ·obtain ⟨x, hx⟩ := getS HN.out hlt
   have e2 : decide ((j : Int) < n) = true := decide_eq_true (by omega)
   have hlti : (j : Int) < n := by omega
   obtain ⟨b, off, A', n', c', rfl, hbl, k0, k1, hnf, hnc'⟩ := (hd.keep rSeg_ok (Kp.call hb)).segAt hx
   have HL := Lib.hid hnf.1
   have HCT := Lib.hid (countA_take hx)
   have HCL := Lib.hid (countA_le l (j + 1))
   have wj : IntKind.i64.wrap ((j : Int) + 1) = (j : Int) + 1 := IntWalk.i64_in _ ⟨by omega, by omega⟩
   clear hx hnf
   have b1 := hb.alloc hb.size (.cells #[.int .i64 x.1, .slice A' n' c'] 229)
   have hX := Blk.new wr 229 #[.int .i64 x.1, .slice A' n' c']
   have x0 := hX.cell 0
   have x1 := hX.cell 1
   by_cases hk : x.1 = 1
   ·have t1 : (x.1 == 1) = true := by simpa using hk
    have HS := Lib.hid (show t + 1 = countA (l.take (j + 1)) by have := HT.out; have := HCT.out; rw [if_pos hk] at this; omega)
    have wt : IntKind.i64.wrap ((t : Int) + 1) = (t : Int) + 1 := IntWalk.i64_in _ ⟨by omega, by have := HS.out; have := HCL.out; have := HBD.out; unfold big32 at this; omega⟩
    clear hk
    go_wp2_with fail
    go_roundw
    case rel => exact ⟨j + 1, t + 1, by omega, by go_num, by go_num, HS, b1⟩
    case measure => simp [intOf]; omega
   ·have t1 : (x.1 == 1) = false := by simpa using hk
    have HS := Lib.hid (show t + n' = countA (l.take (j + 1)) by have := HT.out; have := HCT.out; have := HL.out; rw [if_neg hk] at *; omega)
    have wt : IntKind.i64.wrap ((t : Int) + n') = (t : Int) + n' := IntWalk.i64_in _ ⟨by omega, by have := HS.out; have := HCL.out; have := HBD.out; unfold big32 at this; omega⟩
    clear hk
    go_wp2_with fail
    go_roundw
    case rel => exact ⟨j + 1, t + n', by omega, by go_num, by go_num, HS, b1⟩
    case measure => simp [intOf]; omega
  ·have e2 : decide ((j : Int) < n) = false := decide_eq_false (by omega)
   have HF := Lib.hid (show (t : Int) = countA l by have h1 := HN.out; have h2 := HT.out; rw [List.take_of_length_le (by omega)] at h2; omega)
   go_wp2_with fail
   go_ret
   exact ⟨by rw [HF.out] <;> rfl, hb⟩
set_option maxHeartbeats 4000000 in
set_option maxRecDepth 100000 in
theorem aspRight (A : Option Addr) (n c : Nat) (l : List Seg) (w : World) (hd : DL rSeg 2 w (Lo w) A n l) (hn : n ≤ 100000) :
  Calls Tryz.prog 224 #[.slice A n c] w fun e w' => e = .returned (.bool (rightA l)) ∧ Below w.heap.size w w' := by
 have HN := Lib.hid hd.len
 go_enter Tryz.func224, Tryz.ntmps224
 go_wp2_with fail
 go_loopw [3, 8] (fun s i wr => ∃ j t : Nat, j ≤ n ∧ i = .int .i64 j ∧ s = .int .i64 t ∧ t ≤ 64 ∧ Hid (t = sumN (l.take j)) ∧ Hid ((l.take j).all okSeg = true) ∧ Below w.heap.size w wr) (fun _ i _ => n - (intOf i).toNat)
 case atStart => exact ⟨0, 0, by omega, rfl, rfl, by omega, Lib.hid (by simp [sumN]), Lib.hid (by simp), Below.refl _ _⟩
 case round =>
  obtain ⟨j, t, hj, rfl, rfl, ht, HT, HO, hb⟩ := hrel
  by_cases hlt : j < n
  ·obtain ⟨x, hx⟩ := getS HN.out hlt
   have HX := Lib.hid hx
   have e2 : decide ((j : Int) < n) = true := decide_eq_true (by omega)
   have hlti : (j : Int) < n := by omega
   obtain ⟨b, off, A', n', c', rfl, hbl, k0, k1, hnf, hnc'⟩ := (hd.keep rSeg_ok (Kp.call hb)).segAt hx
   have HL := Lib.hid hnf.1
   have HST := Lib.hid (sumN_take hx)
   have HSL := Lib.hid (sumN_le l (j + 1))
   have wj : IntKind.i64.wrap ((j : Int) + 1) = (j : Int) + 1 := IntWalk.i64_in _ ⟨by omega, by omega⟩
   clear hx hnf
   have b1 := hb.alloc hb.size (.cells #[.int .i64 x.1, .slice A' n' c'] 229)
   have hX := Blk.new wr 229 #[.int .i64 x.1, .slice A' n' c']
   have x0 := hX.cell 0
   have x1 := hX.cell 1
   obtain ⟨k, hk⟩ : ∃ k, x.1 = k := ⟨_, rfl⟩
   have HK := Lib.hid hk
   rw [hk] at k0
   rw [hk] at b1 hX x0 x1
   try simp only [hk]
   clear hk
   by_cases hk0 : k = 1 ∨ k = 2
   case neg =>
    have t1 : (k != 1) = true := by simp; omega
    have t2 : (k != 2) = true := by simp; omega
    have HF := Lib.hid (rightA_bad HX.out (by rw [HK.out]; omega))
    go_wp2_with fail
    go_ret
    exact ⟨ret_b HF.out.symm, b1⟩
   have HK0 := Lib.hid hk0
   have hkk : (k != 1) = false ∨ ((k != 1) = true ∧ (k != 2) = false) := by
    rcases hk0 with rfl | rfl
    ·left; rfl
    ·right; exact ⟨rfl, rfl⟩
   clear hk0
   by_cases hn0 : n' = 0
   ·have t3 : ((n' : Int) == 0) = true := by simp; omega
    have HF := Lib.hid (rightA_bad HX.out (by have := HL.out; omega))
    clear hn0
    rcases hkk with t1 | ⟨t1, t2⟩
    all_goals
     go_wp2_with fail
     go_ret
     exact ⟨ret_b HF.out.symm, b1⟩
   have t3 : ((n' : Int) == 0) = false := by simp; omega
   by_cases hn6 : 64 < n'
   ·have t4 : decide (64 < (n' : Int)) = true := decide_eq_true (by omega)
    have HF := Lib.hid (rightA_bad HX.out (by have := HL.out; omega))
    clear hn0 hn6
    rcases hkk with t1 | ⟨t1, t2⟩
    all_goals
     go_wp2_with fail
     go_ret
     exact ⟨ret_b HF.out.symm, b1⟩
   have t4 : decide (64 < (n' : Int)) = false := decide_eq_false (by omega)
   have HOK := Lib.hid (okSeg_take HO.out HX.out (by have := HL.out; rw [HK.out]; exact ⟨HK0.out, by omega, by omega⟩))
   have HS := Lib.hid (show t + n' = sumN (l.take (j + 1)) by have := HT.out; have := HST.out; have := HL.out; omega)
   have wt : IntKind.i64.wrap ((t : Int) + n') = (t : Int) + n' := IntWalk.i64_in _ ⟨by omega, by omega⟩
   by_cases hbig : 64 < t + n'
   ·have t5 : decide (64 < (t : Int) + n') = true := decide_eq_true (by omega)
    have HF := Lib.hid (rightA_sum (l := l) (by have := HS.out; have := HSL.out; omega))
    clear hn0 hn6 hbig
    rcases hkk with t1 | ⟨t1, t2⟩
    all_goals
     go_wp2_with fail
     go_ret
     exact ⟨ret_b HF.out.symm, b1⟩
   have t5 : decide (64 < (t : Int) + n') = false := decide_eq_false (by omega)
   rcases hkk with t1 | ⟨t1, t2⟩
   all_goals
    go_wp2_with fail
    go_roundw
    case rel => exact ⟨j + 1, t + n', by omega, by go_num, by go_num, by omega, HS, HOK, b1⟩
    case measure => simp [intOf]; omega
  ·have e2 : decide ((j : Int) < n) = false := decide_eq_false (by omega)
   have HA := Lib.hid (show j = n by omega)
   by_cases h8 : n ≤ 8
   ·have t6 : decide ((n : Int) ≤ 8) = true := decide_eq_true (by omega)
    have HF := Lib.hid (show rightA l = true from by
     have h1 := HN.out; have h2 := HT.out; have h3 := HO.out; have h4 := HA.out
     rw [List.take_of_length_le (by omega)] at h2 h3
     exact rightA_yes h3 (by omega) (by omega))
    clear h8
    go_wp2_with fail
    go_ret
    exact ⟨ret_b HF.out.symm, hb⟩
   ·have t6 : decide ((n : Int) ≤ 8) = false := decide_eq_false (by omega)
    have HF := Lib.hid (rightA_long (l := l) (by have := HN.out; omega))
    clear h8
    go_wp2_with fail
    go_ret
    exact ⟨ret_b HF.out.symm, hb⟩
set_option maxHeartbeats 4000000 in
set_option maxRecDepth 100000 in
theorem refRight03 (A : Option Addr) (n c : Nat) (l : List Seg) (w : World) (hd : DL rSeg 2 w (Lo w) A n l) (hn : n ≤ 100000) :
  Calls Tryz.prog 98 #[.slice A n c] w fun e w' => e = .returned (.bool (rightA l)) ∧ Below w.heap.size w w' := by
 have HN := Lib.hid hd.len
 by_cases h8 : 8 < n
 ·have e1 : decide (8 < (n : Int)) = true := decide_eq_true (by omega)
  have HF := Lib.hid (rightA_long (l := l) (by have := HN.out; omega))
  go_enter Tryz.func98, Tryz.ntmps98
  go_wp2_with fail
  go_ret
  exact ⟨ret_b HF.out.symm, Below.refl _ _⟩
 have e1 : decide (8 < (n : Int)) = false := decide_eq_false (by omega)
 go_enter Tryz.func98, Tryz.ntmps98
 go_wp2_with fail
 go_loopw [3, 4] (fun s i wr => ∃ j t : Nat, j ≤ n ∧ i = .int .i64 j ∧ s = .int .i64 t ∧ t ≤ 64 * j ∧ Hid (t = sumN (l.take j)) ∧ Hid ((l.take j).all okSeg = true) ∧ Below w.heap.size w wr) (fun _ i _ => n - (intOf i).toNat)
 case atStart => exact ⟨0, 0, by omega, rfl, rfl, by omega, Lib.hid (by simp [sumN]), Lib.hid (by simp), Below.refl _ _⟩
 case round =>
  obtain ⟨j, t, hj, rfl, rfl, ht, HT, HO, hb⟩ := hrel
  by_cases hlt : j < n
  ·obtain ⟨x, hx⟩ := getS HN.out hlt
   have HX := Lib.hid hx
   have e2 : decide ((j : Int) < n) = true := decide_eq_true (by omega)
   have hlti : (j : Int) < n := by omega
   obtain ⟨b, off, A', n', c', rfl, hbl, k0, k1, hnf, hnc'⟩ := (hd.keep rSeg_ok (Kp.call hb)).segAt hx
   have HL := Lib.hid hnf.1
   have HST := Lib.hid (sumN_take hx)
   have HSL := Lib.hid (sumN_le l (j + 1))
   have wj : IntKind.i64.wrap ((j : Int) + 1) = (j : Int) + 1 := IntWalk.i64_in _ ⟨by omega, by omega⟩
   clear hx hnf
   obtain ⟨k, hk⟩ : ∃ k, x.1 = k := ⟨_, rfl⟩
   have HK := Lib.hid hk
   rw [hk] at k0
   try simp only [hk]
   clear hk
   by_cases hk0 : k = 1 ∨ k = 2
   case neg =>
    have t1 : (k != 1) = true := by simp; omega
    have t2 : (k != 2) = true := by simp; omega
    have HF := Lib.hid (rightA_bad HX.out (by rw [HK.out]; omega))
    go_wp2_with fail
    go_ret
    exact ⟨ret_b HF.out.symm, hb⟩
   have HK0 := Lib.hid hk0
   have hkk : (k != 1) = false ∨ ((k != 1) = true ∧ (k != 2) = false) := by
    rcases hk0 with rfl | rfl
    ·left; rfl
    ·right; exact ⟨rfl, rfl⟩
   clear hk0
   by_cases hn0 : n' = 0
   ·have t3 : ((n' : Int) == 0) = true := by simp; omega
    have HF := Lib.hid (rightA_bad HX.out (by have := HL.out; omega))
    clear hn0
    rcases hkk with t1 | ⟨t1, t2⟩
    all_goals
     go_wp2_with fail
     go_ret
     exact ⟨ret_b HF.out.symm, hb⟩
   have t3 : ((n' : Int) == 0) = false := by simp; omega
   by_cases hn6 : 64 < n'
   ·have t4 : decide (64 < (n' : Int)) = true := decide_eq_true (by omega)
    have HF := Lib.hid (rightA_bad HX.out (by have := HL.out; omega))
    clear hn0 hn6
    rcases hkk with t1 | ⟨t1, t2⟩
    all_goals
     go_wp2_with fail
     go_ret
     exact ⟨ret_b HF.out.symm, hb⟩
   have t4 : decide (64 < (n' : Int)) = false := decide_eq_false (by omega)
   have HOK := Lib.hid (okSeg_take HO.out HX.out (by have := HL.out; rw [HK.out]; exact ⟨HK0.out, by omega, by omega⟩))
   have HS := Lib.hid (show t + n' = sumN (l.take (j + 1)) by have := HT.out; have := HST.out; have := HL.out; omega)
   have wt : IntKind.i64.wrap ((t : Int) + n') = (t : Int) + n' := IntWalk.i64_in _ ⟨by omega, by omega⟩
   rcases hkk with t1 | ⟨t1, t2⟩
   all_goals
    go_wp2_with fail
    go_roundw
    case rel => exact ⟨j + 1, t + n', by omega, by go_num, by go_num, by omega, HS, HOK, hb⟩
    case measure => simp [intOf]; omega
  ·have e2 : decide ((j : Int) < n) = false := decide_eq_false (by omega)
   have HA := Lib.hid (show j = n by omega)
   by_cases h64 : t ≤ 64
   ·have t6 : decide ((t : Int) ≤ 64) = true := decide_eq_true (by omega)
    have HF := Lib.hid (show rightA l = true from by
     have h1 := HN.out; have h2 := HT.out; have h3 := HO.out; have h4 := HA.out
     rw [List.take_of_length_le (by omega)] at h2 h3
     exact rightA_yes h3 (by omega) (by omega))
    clear h64
    go_wp2_with fail
    go_ret
    exact ⟨ret_b HF.out.symm, hb⟩
   ·have t6 : decide ((t : Int) ≤ 64) = false := decide_eq_false (by omega)
    have HF := Lib.hid (rightA_sum (l := l) (by have h1 := HN.out; have h2 := HT.out; have h4 := HA.out; rw [List.take_of_length_le (by omega)] at h2; omega))
    clear h64
    go_wp2_with fail
    go_ret
    exact ⟨ret_b HF.out.symm, hb⟩
set_option maxHeartbeats 2000000 in
set_option maxRecDepth 100000 in
theorem aspFirst (A : Option Addr) (n c : Nat) (l : List Seg) (w : World) (hd : DL rSeg 2 w (Lo w) A n l) :
  Calls Tryz.prog 95 #[.slice A n c] w fun e w' => e = .returned (.tuple #[.int .u32 (firstA l).1, .bool (firstA l).2]) ∧ Below w.heap.size w w' := by
 have hn := hd.len
 rcases l with _ | ⟨⟨k, zs⟩, l⟩
 ·obtain rfl : n = 0 := hn
  go_enter Tryz.func95, Tryz.ntmps95
  go_wp2_with fail
  go_ret2
  exact ⟨rfl, Below.refl _ _⟩
 have hn1 : 0 < n := by rw [hn]; simp
 have hni : (0 : Int) < n := by omega
 clear hn
 have t0 : ((n : Int) == 0) = false := by simp; omega
 have t00 : decide ((0 : Int) < n) = true := decide_eq_true hni
 obtain ⟨b, off, A', n', c', rfl, hbl, k0, k1, hnf, hnc'⟩ := hd.segAt (j := 0) (x := (k, zs)) rfl
 rw [Nat.zero_mul, Nat.add_zero] at k0 k1
 simp only at k0 k1 hnf
 by_cases hk : k = 2
 case neg =>
  have t1 : (k != 2) = true := by simpa using hk
  have t2 : (k == 2) = false := by simpa using hk
  have HF := Lib.hid (show firstA ((k, zs) :: l) = (0, false) by
   unfold firstA
   split
   ·rename_i h; injection h with h _; injection h with h _; exact absurd h hk
   ·rfl)
  clear hk
  go_enter Tryz.func95, Tryz.ntmps95
  go_wp2_with fail
  go_ret2
  exact ⟨by rw [HF.out] <;> rfl, Below.refl _ _⟩
 subst hk
 rcases zs with _ | ⟨y, zs⟩
 ·obtain rfl : n' = 0 := hnf.1
  go_enter Tryz.func95, Tryz.ntmps95
  go_wp2_with fail
  go_ret2
  exact ⟨rfl, Below.refl _ _⟩
 have hn2 : 0 < n' := by rw [hnf.1]; simp
 have hni2 : (0 : Int) < n' := by omega
 have t3 : ((n' : Int) == 0) = false := by simp; omega
 have t4 : decide ((0 : Int) < n') = true := decide_eq_true hni2
 obtain ⟨b2, off2, rfl, hb2, y0⟩ := hnf.at_ (j := 0) (x := y) rfl
 rw [Nat.add_zero] at y0
 go_enter Tryz.func95, Tryz.ntmps95
 go_wp2_with fail
 go_ret2
 exact ⟨rfl, Below.refl _ _⟩
def flatA (l : List Seg) : List Int := l.flatMap (·.2)
theorem flatA_len (l : List Seg) : (flatA l).length = sumN l := by
 induction l with
 | nil => rfl
 | cons x l ih => rw [flatA, List.flatMap_cons, List.length_append, ← flatA, ih, sumN]
theorem flatA_take {l : List Seg} {j : Nat} {x : Seg} (h : l[j]? = some x) : flatA (l.take (j + 1)) = flatA (l.take j) ++ x.2 := by
 rw [take_snoc h]; simp [flatA]
set_option maxHeartbeats 2000000 in
set_option maxRecDepth 100000 in
theorem flatSeg (k : Int) (A : Option Addr) (n c : Nat) (w : World) :
  Calls Tryz.prog 247 #[.agg #[.int .i64 k, .slice A n c]] w fun e w' => e = .returned (.slice A n c) ∧ Below w.heap.size w w' := by
 have b1 := (Below.refl w.heap.size w).alloc (Nat.le_refl _) (.cells #[.int .i64 k, .slice A n c] 229)
 have hX := Blk.new w 229 #[.int .i64 k, .slice A n c]
 have x1 := hX.cell 1
 go_enter Tryz.func247, Tryz.ntmps247
 go_wp2_with fail
 go_ret
 exact ⟨rfl, b1⟩
theorem big_fit {x y : Nat} (h : x + y ≤ big32) : x + y ≤ 35184372088832 := by unfold big32 at h; omega
set_option maxHeartbeats 2000000 in
set_option maxRecDepth 100000 in
theorem gatheredU (A : Option Addr) (n c : Nat) (l : List Seg) (w : World) (hd : DL rSeg 2 w (Lo w) A n l) (hn : n ≤ 100000) (hs : Hid (sumN l ≤ big32)) :
  Calls Tryz.prog 246 #[.slice A n c, .func (.func 247) #[] #[]] w (RetOU w (flatA l)) := by
 have HN := Lib.hid hd.len
 go_enter Tryz.func246, Tryz.ntmps246
 go_wp2_with fail
 go_loopw [5, 10] (fun s i wr => ∃ (j : Nat) (A1 : Option Addr) (n1 c1 : Nat), j ≤ n ∧ i = .int .i64 j ∧ s = .slice A1 n1 c1 ∧ OU wr w.heap.size A1 n1 c1 (flatA (l.take j)) ∧ Below w.heap.size w wr) (fun _ i _ => n - (intOf i).toNat)
 case atStart => exact ⟨0, none, 0, 0, by omega, rfl, rfl, OU.nil_, Below.refl _ _⟩
 case round =>
  obtain ⟨j, A1, n1, c1, hj, rfl, rfl, ho, hb⟩ := hrel
  by_cases hlt : j < n
  ·obtain ⟨x, hx⟩ := getS HN.out hlt
   have e2 : decide ((j : Int) < n) = true := decide_eq_true (by omega)
   have hlti : (j : Int) < n := by omega
   obtain ⟨b, off, A', n', c', rfl, hbl, k0, k1, hnf, hnc'⟩ := (hd.keep rSeg_ok (Kp.call hb)).segAt hx
   have HFT := Lib.hid (flatA_take hx)
   have HLE := Lib.hid (show (flatA (l.take j)).length + x.2.length ≤ big32 by
    have h1 := sumN_take hx
    have h2 := sumN_le l (j + 1)
    have h3 := hs.out
    rw [flatA_len]
    omega)
   have wj : IntKind.i64.wrap ((j : Int) + 1) = (j : Int) + 1 := IntWalk.i64_in _ ⟨by omega, by omega⟩
   have b1 := hb.alloc hb.size (.cells #[.int .i64 x.1, .slice A' n' c'] 229)
   have hX := Blk.new wr 229 #[.int .i64 x.1, .slice A' n' c']
   have x0 := hX.cell 0
   have x1 := hX.cell 1
   have hnf1 := hnf.lt.below ((Below.refl wr.heap.size wr).alloc (Nat.le_refl _) (.cells #[.int .i64 x.1, .slice A' n' c'] 229))
   have ho1 := ho.alloc (.cells #[.int .i64 x.1, .slice A' n' c'] 229)
   clear hx hnf
   go_wp2_with fail
   refine (flatSeg x.1 A' n' c' _).mono ?_
   rintro _ w2 ⟨rfl, b2⟩
   have ho2 := ho1.call b2
   have hnf2 := (hnf1.more (by simp)).call b2
   have b02 := btr b1 b2 b1.size
   go_wp2_with (at_builtin; refine wpl_appU rfl (.tmp 14) (.tmp 17) rfl w.heap.size A1 n1 c1 (flatA (l.take j)) (by rfl) ho2 _ A' n' c' x.2 (by rfl) hnf2 (big_fit HLE.out) b02.size ?_; intro A3 n3 c3 w3 o3 b3 _)
   go_roundw
   case rel => exact ⟨j + 1, A3, n3, c3, by omega, by go_num, rfl, by rw [HFT.out]; exact o3, b02.trans b3⟩
   case measure => simp [intOf]; omega
  ·have e2 : decide ((j : Int) < n) = false := decide_eq_false (by omega)
   have HF := Lib.hid (show flatA (l.take j) = flatA l by rw [List.take_of_length_le (by have := HN.out; omega)])
   go_wp2_with fail
   go_ret
   exact ⟨A1, n1, c1, rfl, by rw [← HF.out]; exact ho, hb⟩
set_option maxHeartbeats 2000000 in
set_option maxRecDepth 100000 in
theorem aspFlat (A : Option Addr) (n c : Nat) (l : List Seg) (w : World) (hd : DL rSeg 2 w (Lo w) A n l) (hn : n ≤ 100000) (hs : Hid (sumN l ≤ big32)) :
  Calls Tryz.prog 228 #[.slice A n c] w (RetOU w (flatA l)) := by
 go_enter Tryz.func228, Tryz.ntmps228
 go_wp2_with fail
 refine (gatheredU A n c l _ hd hn hs).mono ?_
 rintro _ w1 ⟨A1, n1, c1, rfl, o1, b1⟩
 go_wp2_with fail
 go_ret
 exact ⟨A1, n1, c1, rfl, o1, b1⟩
set_option maxHeartbeats 4000000 in
set_option maxRecDepth 100000 in
theorem refFlat03 (A : Option Addr) (n c : Nat) (l : List Seg) (w : World) (hd : DL rSeg 2 w (Lo w) A n l) (hn : n ≤ 100000) (hs : Hid (sumN l ≤ big32)) :
  Calls Tryz.prog 141 #[.slice A n c] w (RetOU w (flatA l)) := by
 have HN := Lib.hid hd.len
 go_enter Tryz.func141, Tryz.ntmps141
 go_wp2_with fail
 go_loopw [3, 4] (fun s i wr => ∃ (j : Nat) (A1 : Option Addr) (n1 c1 : Nat), j ≤ n ∧ i = .int .i64 j ∧ s = .slice A1 n1 c1 ∧ OU wr w.heap.size A1 n1 c1 (flatA (l.take j)) ∧ Below w.heap.size w wr) (fun _ i _ => n - (intOf i).toNat)
 case atStart => exact ⟨0, none, 0, 0, by omega, rfl, rfl, OU.nil_, Below.refl _ _⟩
 case round =>
  obtain ⟨j, A1, n1, c1, hj, rfl, rfl, ho, hb⟩ := hrel
  by_cases hlt : j < n
  ·obtain ⟨x, hx⟩ := getS HN.out hlt
   have HX := Lib.hid hx
   have e2 : decide ((j : Int) < n) = true := decide_eq_true (by omega)
   have hlti : (j : Int) < n := by omega
   have HFT := Lib.hid (flatA_take hx)
   have HLE := Lib.hid (show (flatA (l.take j)).length + x.2.length ≤ big32 by
    have h1 := sumN_take hx
    have h2 := sumN_le l (j + 1)
    have h3 := hs.out
    rw [flatA_len]
    omega)
   have wj : IntKind.i64.wrap ((j : Int) + 1) = (j : Int) + 1 := IntWalk.i64_in _ ⟨by omega, by omega⟩
   clear hx
   go_wp2_with fail
   go_loopw [3, 5] (fun s k wk => ∃ (i : Nat) (A2 : Option Addr) (n2 c2 : Nat), i ≤ x.2.length ∧ k = .int .i64 i ∧ s = .slice A2 n2 c2 ∧ OU wk w.heap.size A2 n2 c2 (flatA (l.take j) ++ x.2.take i) ∧ Below w.heap.size w wk) (fun _ k _ => x.2.length - (intOf k).toNat)
   case atStart => exact ⟨0, A1, n1, c1, by omega, rfl, rfl, by rw [List.take_zero, List.append_nil]; exact ho, hb⟩
   case round =>
    obtain ⟨i, A2, n2, c2, hi, rfl, rfl, ho2, hb2⟩ := hrel
    obtain ⟨b, off, A', n', c', rfl, hbl, k0, k1, hnf, hnc'⟩ := (hd.keep rSeg_ok (Kp.call hb2)).segAt HX.out
    have HL := Lib.hid hnf.1
    by_cases hik : i < n'
    ·have e3 : decide ((i : Int) < n') = true := decide_eq_true (by omega)
     have hiki : (i : Int) < n' := by omega
     obtain ⟨y, hy⟩ : ∃ y, x.2[i]? = some y := ⟨_, List.getElem?_eq_getElem (by have := HL.out; omega)⟩
     obtain ⟨b2, off2, rfl, hbl2, y0⟩ := hnf.at_ hy
     have HY := Lib.hid (take_snoc hy)
     have hyw : (Lit.int .u32 y).wf = true := hnf.2.2 y (List.mem_of_getElem? hy)
     have HLI := Lib.hid (show (flatA (l.take j) ++ x.2.take i).length + [y].length ≤ 35184372088832 by
      have h1 := HLE.out
      have h2 := HL.out
      unfold big32 at h1
      rw [List.length_append, List.length_take, List.length_singleton]
      omega)
     have wi : IntKind.i64.wrap ((i : Int) + 1) = (i : Int) + 1 := IntWalk.i64_in _ ⟨by omega, by have h1 := HLE.out; have h2 := HL.out; unfold big32 at h1; omega⟩
     have ho3 := ho2.alloc (.cells #[.int .u32 y] 22)
     have b3 := hb2.alloc hb2.size (.cells #[.int .u32 y] 22)
     have HSZ := Lib.hid b3.size
     clear hy hnf
     go_wp2_with (at_builtin; refine wpl_appU rfl (.tmp 22) (.tmp 31) rfl w.heap.size A2 n2 c2 _ (by rfl) ho3 (wr.heap.size + 1) (some ⟨wr.heap.size, 0, none⟩) 1 1 [y] (by rfl) (NS.one wr hyw rfl) HLI.out HSZ.out ?_; intro A4 n4 c4 w4 o4 b4 _)
     go_roundw
     case rel => exact ⟨i + 1, A4, n4, c4, by have := HL.out; omega, by go_num, rfl, by rw [HY.out, ← List.append_assoc]; exact o4, b3.trans b4⟩
     case measure => have := HL.out; simp [intOf]; omega
    ·have e3 : decide ((i : Int) < n') = false := decide_eq_false (by omega)
     have HF := Lib.hid (show flatA (l.take j) ++ x.2.take i = flatA (l.take (j + 1)) by rw [HFT.out, List.take_of_length_le (l := x.2) (by have := HL.out; omega)])
     clear hnf
     go_wp2_with fail
     go_roundw
     case rel => exact ⟨j + 1, A2, n2, c2, by omega, by go_num, rfl, by rw [← HF.out]; exact ho2, hb2⟩
     case measure => simp [intOf]; omega
  ·have e2 : decide ((j : Int) < n) = false := decide_eq_false (by omega)
   have HF := Lib.hid (show flatA (l.take j) = flatA l by rw [List.take_of_length_le (by have := HN.out; omega)])
   go_wp2_with fail
   go_ret
   exact ⟨A1, n1, c1, rfl, by rw [← HF.out]; exact ho, hb⟩
/-- A number's bytes. -/
def asB (wide : Bool) (y : Int) : List UInt8 := if wide = true then b32 y else if 65535 < y then b16 23456 else b16 y
def segB (wide : Bool) (x : Seg) : List UInt8 := [ub (IntKind.u8.wrap x.1), ub (IntKind.u8.wrap (x.2.length : Int))] ++ x.2.flatMap (asB wide)
def putA (wide : Bool) (l : List Seg) : List UInt8 := l.flatMap (segB wide)
theorem asB_len (wide : Bool) (y : Int) : (asB wide y).length ≤ 4 := by
 unfold asB b32 b16
 repeat' split
 all_goals simp
theorem asB_flat (wide : Bool) (zs : List Int) : (zs.flatMap (asB wide)).length ≤ 4 * zs.length := by
 induction zs with
 | nil => simp
 | cons y zs ih => rw [List.flatMap_cons, List.length_append, List.length_cons]; have := asB_len wide y; omega
theorem putA_len (wide : Bool) (l : List Seg) : (putA wide l).length ≤ 2 * l.length + 4 * sumN l := by
 induction l with
 | nil => simp [putA]
 | cons x l ih =>
  have e : putA wide (x :: l) = segB wide x ++ putA wide l := by simp [putA]
  have := asB_flat wide x.2
  rw [e, List.length_append, List.length_cons, sumN]
  unfold segB
  simp only [List.length_append, List.length_cons, List.length_nil]
  omega
theorem putA_take {wide : Bool} {l : List Seg} {j : Nat} {x : Seg} (h : l[j]? = some x) : putA wide (l.take (j + 1)) = putA wide (l.take j) ++ [ub (IntKind.u8.wrap x.1), ub (IntKind.u8.wrap (x.2.length : Int))] ++ x.2.flatMap (asB wide) := by
 rw [take_snoc h]; simp [putA, segB]
theorem asB_take {wide : Bool} {zs : List Int} {q : Nat} {y : Int} (h : zs[q]? = some y) : (zs.take (q + 1)).flatMap (asB wide) = (zs.take q).flatMap (asB wide) ++ asB wide y := by
 rw [take_snoc h]; simp
theorem u8_bd (x : Int) : 0 ≤ IntKind.u8.wrap x ∧ IntKind.u8.wrap x ≤ 255 := by rw [IntKind.wrap_u8]; omega

set_option maxHeartbeats 8000000 in
set_option maxRecDepth 100000 in
theorem aspPut (A : Option Addr) (n c : Nat) (l : List Seg) (wide : Bool) (w : World) (hd : DL rSeg 2 w (Lo w) A n l) (hn : n ≤ 12) (hs : Hid (sumN l ≤ big32)) :
  Calls Tryz.prog 194 #[.slice A n c, .bool wide] w (RetB w 5 (putA wide l)) := by
 have HN := Lib.hid hd.len
 go_enter Tryz.func194, Tryz.ntmps194
 go_wp2_with fail
 go_loopw [5, 12] (fun s i wr => ∃ (j : Nat) (A1 : Option Addr) (n1 c1 : Nat), j ≤ n ∧ i = .int .i64 j ∧ s = .slice A1 n1 c1 ∧ OB wr 5 w.heap.size A1 n1 c1 (putA wide (l.take j)) ∧ Below w.heap.size w wr) (fun _ i _ => n - (intOf i).toNat)
 case atStart => exact ⟨0, none, 0, 0, by omega, rfl, rfl, OB.nil_, Below.refl _ _⟩
 case round =>
  obtain ⟨j, A1, n1, c1, hj, rfl, rfl, ho, hb⟩ := hrel
  by_cases hlt : j < n
  case neg =>
   have e2 : decide ((j : Int) < n) = false := decide_eq_false (by omega)
   have HF := Lib.hid (show putA wide (l.take j) = putA wide l by rw [List.take_of_length_le (by have := HN.out; omega)])
   go_wp2_with fail
   go_ret
   exact ⟨A1, n1, c1, rfl, by rw [← HF.out]; exact ho, hb⟩
  have e2 : decide ((j : Int) < n) = true := decide_eq_true (by omega)
  have hlti : (j : Int) < n := by omega
  obtain ⟨x, hx⟩ := getS HN.out hlt
  have HPT := Lib.hid (putA_take (wide := wide) hx)
  have HPL := Lib.hid (show (putA wide (l.take j)).length + 4 * x.2.length + 2 ≤ 140737488351300 by
   have h1 := putA_len wide (l.take j)
   have h2 := sumN_take hx
   have h3 := sumN_le l (j + 1)
   have h4 := hs.out
   unfold big32 at h4
   rw [List.length_take] at h1
   omega)
  obtain ⟨b, off, A', n', c', rfl, hbl, k0w, k1w, hnf, hnc'⟩ := hd.segAt hx
  have hbl : b < w.heap.size := hbl
  have k0 := (hb.cell (p := ⟨b, off + j * 2, none⟩) hbl).trans k0w
  have k1 := (hb.cell (p := ⟨b, off + j * 2 + 1, none⟩) hbl).trans k1w
  have HNX := Lib.hid hnf.1
  have wj : IntKind.i64.wrap ((j : Int) + 1) = (j : Int) + 1 := IntWalk.i64_in _ ⟨by omega, by omega⟩
  obtain ⟨k, hk⟩ : ∃ k, x.1 = k := ⟨_, rfl⟩
  have HK := Lib.hid hk
  rw [hk] at k0
  obtain ⟨zs, hzs⟩ : ∃ zs, x.2 = zs := ⟨_, rfl⟩
  have HZ := Lib.hid hzs
  rw [hzs] at hnf HNX HPL HPT
  rw [hk] at HPT
  have u1 := u8_bd k
  have u2 := u8_bd (n' : Int)
  obtain ⟨K, hK⟩ : ∃ K, IntKind.u8.wrap k = K := ⟨_, rfl⟩
  obtain ⟨M, hM⟩ : ∃ M, IntKind.u8.wrap (n' : Int) = M := ⟨_, rfl⟩
  rw [hK] at u1
  rw [hM] at u2
  rw [hK, ← HNX.out, hM] at HPT
  obtain ⟨u10, u11⟩ := u1
  obtain ⟨u20, u21⟩ := u2
  clear hk hzs hx k0w
  have bx := hb.alloc hb.size (.cells #[.int .i64 k, .slice A' n' c'] 229)
  have hX := Blk.new wr 229 #[.int .i64 k, .slice A' n' c']
  obtain ⟨gx, hgx⟩ : ∃ gx, wr.heap.size = gx := ⟨_, rfl⟩
  have HGX := Lib.hid hgx
  rw [hgx] at hX
  clear hgx
  obtain ⟨W1, hW1⟩ : ∃ W, wr.alloc (.cells #[.int .i64 k, .slice A' n' c'] 229) = W := ⟨_, rfl⟩
  have HW1 := Lib.hid hW1
  have ho1 := ho.alloc (.cells #[.int .i64 k, .slice A' n' c'] 229)
  rw [hW1] at bx hX ho1
  clear hW1
  have x0 := hX.cell 0
  have x1 := hX.cell 1
  have hzx := bx.size
  go_upto_region 5 with fail
  try rw [HW1.out, HGX.out]
  try rw [HGX.out]
  have bv := BS.vals W1 5 [K, M] (by intro y hy; simp at hy; omega) rfl
  have ba := bx.alloc bx.size (.cells #[.int .u8 K, .int .u8 M] 5)
  have hX2 := hX.below ((Below.refl W1.heap.size W1).alloc (Nat.le_refl _) (.cells #[.int .u8 K, .int .u8 M] 5)) hX.lt
  go_upto_region 6 with (at_builtin; refine wpl_app rfl (.tmp 16) (.tmp 24) _ rfl 5 Tryz.underlying38 u8info w.heap.size A1 n1 c1 _ (by rfl) (ho1.alloc _) (W1.heap.size + 1) (some ⟨W1.heap.size, 0, none⟩) 2 2 [ub K, ub M] (by rfl) bv (by have := HPL.out; simp; omega) (by simp; omega) ?_; intro A3 n3 c3 w3 o3 b3 g3)
  have hX3 := hX2.grown g3 (by intro e; first | exact own_blk_ne (ho1.alloc (.cells #[.int .u8 K, .int .u8 M] 5)).2 hX2 (by decide) e | exact own_blk_ne (ho1.alloc (.cells #[.int .u8 K, .int .u8 M] 5)).2 hX2 (by decide) e.symm)
  have b03 := ba.trans b3
  clear x0 x1 k0 k1
  have y1 := hX3.cell 1
  obtain ⟨D, hD⟩ : ∃ D, putA wide (l.take j) ++ [ub K, ub M] = D := ⟨_, rfl⟩
  rw [hD] at o3 HPT
  have HDL := Lib.hid (show D.length + 4 * zs.length ≤ 140737488351300 by rw [← hD, List.length_append]; have := HPL.out; simp; omega)
  clear hD
  go_wp2_with fail
  go_loopw [5, 29] (fun s i wi => ∃ (q : Nat) (A2 : Option Addr) (n2 c2 : Nat), q ≤ n' ∧ i = .int .i64 q ∧ s = .slice A2 n2 c2 ∧ OB wi 5 w.heap.size A2 n2 c2 (D ++ (zs.take q).flatMap (asB wide)) ∧ Below w.heap.size w wi) (fun _ i _ => n' - (intOf i).toNat)
  case atStart => exact ⟨0, A3, n3, c3, by omega, rfl, rfl, by rw [List.take_zero, List.flatMap_nil, List.append_nil]; exact o3, b03⟩
  case round =>
   obtain ⟨q, A2, n2, c2, hq, rfl, rfl, ho2, hb2⟩ := hrel
   by_cases hql : q < n'
   case neg =>
    have e3 : decide ((q : Int) < n') = false := decide_eq_false (by omega)
    have HG := Lib.hid (show D ++ (zs.take q).flatMap (asB wide) = putA wide (l.take (j + 1)) by rw [HPT.out, List.take_of_length_le (l := zs) (by have := HNX.out; omega)])
    go_wp2_with fail
    go_roundw
    case rel => exact ⟨j + 1, A2, n2, c2, by omega, by go_num, rfl, by rw [← HG.out]; exact ho2, hb2⟩
    case measure => simp [intOf]; omega
   have e3 : decide ((q : Int) < n') = true := decide_eq_true (by omega)
   have hqi : (q : Int) < n' := by omega
   obtain ⟨y, hy⟩ : ∃ y, zs[q]? = some y := ⟨_, List.getElem?_eq_getElem (by have := HNX.out; omega)⟩
   obtain ⟨b4, off4, rfl, hbl4, z0⟩ := (hnf.keep (Kp.call hb2)).at_ hy
   have HY := Lib.hid (asB_take (wide := wide) hy)
   obtain ⟨hy0, hy1⟩ := hnf.wf_ hy
   have HLN := Lib.hid (show (D ++ (zs.take q).flatMap (asB wide)).length ≤ 140737488351300 by
    have h1 := HDL.out
    have h2 := asB_flat wide (zs.take q)
    have h3 := HNX.out
    rw [List.length_take] at h2
    rw [List.length_append]
    omega)
   have wy : IntKind.i64.wrap y = y := IntWalk.i64_in _ ⟨by omega, by omega⟩
   have wq : IntKind.i64.wrap ((q : Int) + 1) = (q : Int) + 1 := IntWalk.i64_in _ ⟨by omega, by have h1 := HDL.out; have h2 := HNX.out; omega⟩
   clear hy
   cases wide
   ·by_cases hbig : 65535 < y
    ·have t1 : decide (65535 < y) = true := decide_eq_true hbig
     have HBG := Lib.hid hbig
     clear hbig hy0 hy1
     go_wp2_with fail
     refine (octetPut16 A2 n2 c2 _ 23456 _ ho2.bs (by have := HLN.out; omega)).mono ?_
     rintro _ w4 ⟨A5, n5, c5, rfl, o5, b5⟩
     have b05 := btr hb2 b5 hb2.size
     go_wp2_with fail
     go_roundw
     case rel => exact ⟨q + 1, A5, n5, c5, by omega, by go_num, rfl, by rw [HY.out, ← List.append_assoc, show asB false y = b16 23456 from by unfold asB; rw [if_neg (by simp), if_pos HBG.out]]; exact o5.low hb2.size, b05⟩
     case measure => simp [intOf]; omega
    ·have t1 : decide (65535 < y) = false := decide_eq_false hbig
     have HBG := Lib.hid hbig
     clear hbig hy0 hy1
     go_wp2_with fail
     refine (octetPut16 A2 n2 c2 _ y _ ho2.bs (by have := HLN.out; omega)).mono ?_
     rintro _ w4 ⟨A5, n5, c5, rfl, o5, b5⟩
     have b05 := btr hb2 b5 hb2.size
     go_wp2_with fail
     go_roundw
     case rel => exact ⟨q + 1, A5, n5, c5, by omega, by go_num, rfl, by rw [HY.out, ← List.append_assoc, show asB false y = b16 y from by unfold asB; have h := HBG.out; rw [if_neg (by simp), if_neg (by omega)]]; exact o5.low hb2.size, b05⟩
     case measure => simp [intOf]; omega
   ·have HY0 := Lib.hid (And.intro hy0 hy1)
    clear hy0 hy1
    go_wp2_with fail
    refine (octetPut32 A2 n2 c2 _ y _ ho2.bs (by have := HLN.out; omega) HY0.out.1 (by have := HY0.out.2; omega)).mono ?_
    rintro _ w4 ⟨A5, n5, c5, rfl, o5, b5⟩
    have b05 := btr hb2 b5 hb2.size
    go_wp2_with fail
    go_roundw
    case rel => exact ⟨q + 1, A5, n5, c5, by omega, by go_num, rfl, by rw [HY.out, ← List.append_assoc, show asB true y = b32 y from by unfold asB; rw [if_pos rfl]]; exact o5.low hb2.size, b05⟩
    case measure => simp [intOf]; omega
set_option maxHeartbeats 8000000 in
set_option maxRecDepth 100000 in
theorem refPut03 (A : Option Addr) (n c : Nat) (l : List Seg) (wide : Bool) (w : World) (hd : DL rSeg 2 w (Lo w) A n l) (hn : n ≤ 12) (hs : Hid (sumN l ≤ big32)) :
  Calls Tryz.prog 139 #[.slice A n c, .bool wide] w (RetB w 5 (putA wide l)) := by
 have HN := Lib.hid hd.len
 go_enter Tryz.func139, Tryz.ntmps139
 go_wp2_with fail
 go_loopw [5, 6] (fun s i wr => ∃ (j : Nat) (A1 : Option Addr) (n1 c1 : Nat), j ≤ n ∧ i = .int .i64 j ∧ s = .slice A1 n1 c1 ∧ OB wr 5 w.heap.size A1 n1 c1 (putA wide (l.take j)) ∧ Below w.heap.size w wr) (fun _ i _ => n - (intOf i).toNat)
 case atStart => exact ⟨0, none, 0, 0, by omega, rfl, rfl, OB.nil_, Below.refl _ _⟩
 case round =>
  obtain ⟨j, A1, n1, c1, hj, rfl, rfl, ho, hb⟩ := hrel
  by_cases hlt : j < n
  case neg =>
   have e2 : decide ((j : Int) < n) = false := decide_eq_false (by omega)
   have HF := Lib.hid (show putA wide (l.take j) = putA wide l by rw [List.take_of_length_le (by have := HN.out; omega)])
   go_wp2_with fail
   go_ret
   exact ⟨A1, n1, c1, rfl, by rw [← HF.out]; exact ho, hb⟩
  have e2 : decide ((j : Int) < n) = true := decide_eq_true (by omega)
  have hlti : (j : Int) < n := by omega
  obtain ⟨x, hx⟩ := getS HN.out hlt
  have HPT := Lib.hid (putA_take (wide := wide) hx)
  have HPL := Lib.hid (show (putA wide (l.take j)).length + 4 * x.2.length + 2 ≤ 140737488351300 by
   have h1 := putA_len wide (l.take j)
   have h2 := sumN_take hx
   have h3 := sumN_le l (j + 1)
   have h4 := hs.out
   unfold big32 at h4
   rw [List.length_take] at h1
   omega)
  obtain ⟨b, off, A', n', c', rfl, hbl, k0w, k1w, hnf, hnc'⟩ := hd.segAt hx
  have hbl : b < w.heap.size := hbl
  have k0 := (hb.cell (p := ⟨b, off + j * 2, none⟩) hbl).trans k0w
  have k1 := (hb.cell (p := ⟨b, off + j * 2 + 1, none⟩) hbl).trans k1w
  have HNX := Lib.hid hnf.1
  have wj : IntKind.i64.wrap ((j : Int) + 1) = (j : Int) + 1 := IntWalk.i64_in _ ⟨by omega, by omega⟩
  obtain ⟨k, hk⟩ : ∃ k, x.1 = k := ⟨_, rfl⟩
  have HK := Lib.hid hk
  rw [hk] at k0
  obtain ⟨zs, hzs⟩ : ∃ zs, x.2 = zs := ⟨_, rfl⟩
  have HZ := Lib.hid hzs
  rw [hzs] at hnf HNX HPL HPT
  rw [hk] at HPT
  have u1 := u8_bd k
  have u2 := u8_bd (n' : Int)
  obtain ⟨K, hK⟩ : ∃ K, IntKind.u8.wrap k = K := ⟨_, rfl⟩
  obtain ⟨M, hM⟩ : ∃ M, IntKind.u8.wrap (n' : Int) = M := ⟨_, rfl⟩
  rw [hK] at u1
  rw [hM] at u2
  rw [hK, ← HNX.out, hM] at HPT
  obtain ⟨u10, u11⟩ := u1
  obtain ⟨u20, u21⟩ := u2
  clear hk hzs hx k0w
  have bv := BS.vals wr 5 [K] (by intro y hy; simp at hy; omega) rfl
  have ba := hb.alloc hb.size (.cells #[.int .u8 K] 5)
  have hzb := hb.size
  go_upto_region 6 with (at_builtin; refine wpl_app rfl (.tmp 15) (.tmp 22) _ rfl 5 Tryz.underlying38 u8info w.heap.size A1 n1 c1 _ (by rfl) (ho.alloc _) (wr.heap.size + 1) (some ⟨wr.heap.size, 0, none⟩) 1 1 [ub K] (by rfl) bv (by have := HPL.out; simp; omega) (by simp; omega) ?_; intro A2 n2 c2 w2 o2 b2 g2)
  have b02 := ba.trans b2
  have hz2 := b02.size
  clear k0 k1
  have k1b := (b02.cell (p := ⟨b, off + j * 2 + 1, none⟩) hbl).trans k1w
  have bv2 := BS.vals w2 5 [M] (by intro y hy; simp at hy; omega) rfl
  have ba2 := b02.alloc b02.size (.cells #[.int .u8 M] 5)
  go_upto_region 7 with (at_builtin; refine wpl_app rfl (.tmp 24) (.tmp 32) _ rfl 5 Tryz.underlying38 u8info w.heap.size A2 n2 c2 _ (by rfl) (o2.alloc _) (w2.heap.size + 1) (some ⟨w2.heap.size, 0, none⟩) 1 1 [ub M] (by rfl) bv2 (by have := HPL.out; simp; omega) (by simp; omega) ?_; intro A3 n3 c3 w3 o3 b3 g3)
  have b03 := ba2.trans b3
  rw [List.append_assoc] at o3
  obtain ⟨D, hD⟩ : ∃ D, putA wide (l.take j) ++ ([ub K] ++ [ub M]) = D := ⟨_, rfl⟩
  have hD2 : putA wide (l.take j) ++ [ub K, ub M] = D := hD
  rw [hD] at o3
  rw [hD2] at HPT
  have HDL := Lib.hid (show D.length + 4 * zs.length ≤ 140737488351300 by rw [← hD, List.length_append]; have := HPL.out; simp; omega)
  clear hD hD2 k1b
  go_wp2_with fail
  go_loopw [5, 7] (fun s i wi => ∃ (q : Nat) (A2 : Option Addr) (n2 c2 : Nat), q ≤ n' ∧ i = .int .i64 q ∧ s = .slice A2 n2 c2 ∧ OB wi 5 w.heap.size A2 n2 c2 (D ++ (zs.take q).flatMap (asB wide)) ∧ Below w.heap.size w wi) (fun _ i _ => n' - (intOf i).toNat)
  case atStart => exact ⟨0, A3, n3, c3, by omega, rfl, rfl, by rw [List.take_zero, List.flatMap_nil, List.append_nil]; exact o3, b03⟩
  case round =>
   obtain ⟨q, A2, n2, c2, hq, rfl, rfl, ho2, hb2⟩ := hrel
   have k1 := (hb2.cell (p := ⟨b, off + j * 2 + 1, none⟩) hbl).trans k1w
   by_cases hql : q < n'
   case neg =>
    have e3 : decide ((q : Int) < n') = false := decide_eq_false (by omega)
    have HG := Lib.hid (show D ++ (zs.take q).flatMap (asB wide) = putA wide (l.take (j + 1)) by rw [HPT.out, List.take_of_length_le (l := zs) (by have := HNX.out; omega)])
    go_wp2_with fail
    go_roundw
    case rel => exact ⟨j + 1, A2, n2, c2, by omega, by go_num, rfl, by rw [← HG.out]; exact ho2, hb2⟩
    case measure => simp [intOf]; omega
   have e3 : decide ((q : Int) < n') = true := decide_eq_true (by omega)
   have hqi : (q : Int) < n' := by omega
   obtain ⟨y, hy⟩ : ∃ y, zs[q]? = some y := ⟨_, List.getElem?_eq_getElem (by have := HNX.out; omega)⟩
   obtain ⟨b4, off4, rfl, hbl4, z0⟩ := (hnf.keep (Kp.call hb2)).at_ hy
   have HY := Lib.hid (asB_take (wide := wide) hy)
   obtain ⟨hy0, hy1⟩ := hnf.wf_ hy
   have HLN := Lib.hid (show (D ++ (zs.take q).flatMap (asB wide)).length ≤ 140737488351300 by
    have h1 := HDL.out
    have h2 := asB_flat wide (zs.take q)
    have h3 := HNX.out
    rw [List.length_take] at h2
    rw [List.length_append]
    omega)
   have wy : IntKind.i64.wrap y = y := IntWalk.i64_in _ ⟨by omega, by omega⟩
   have wq : IntKind.i64.wrap ((q : Int) + 1) = (q : Int) + 1 := IntWalk.i64_in _ ⟨by omega, by have h1 := HDL.out; have h2 := HNX.out; omega⟩
   clear hy
   cases wide
   ·by_cases hbig : 65535 < y
    ·have t1 : decide (65535 < y) = true := decide_eq_true hbig
     have HBG := Lib.hid hbig
     clear hbig hy0 hy1
     go_wp2_with fail
     refine (ref01Put16 A2 n2 c2 _ 23456 _ ho2.bs (by have := HLN.out; omega)).mono ?_
     rintro _ w4 ⟨A5, n5, c5, rfl, o5, b5⟩
     have b05 := btr hb2 b5 hb2.size
     go_wp2_with fail
     go_roundw
     case rel => exact ⟨q + 1, A5, n5, c5, by omega, by go_num, rfl, by rw [HY.out, ← List.append_assoc, show asB false y = b16 23456 from by unfold asB; rw [if_neg (by simp), if_pos HBG.out]]; exact o5.low hb2.size, b05⟩
     case measure => simp [intOf]; omega
    ·have t1 : decide (65535 < y) = false := decide_eq_false hbig
     have HBG := Lib.hid hbig
     clear hbig hy0 hy1
     go_wp2_with fail
     refine (ref01Put16 A2 n2 c2 _ y _ ho2.bs (by have := HLN.out; omega)).mono ?_
     rintro _ w4 ⟨A5, n5, c5, rfl, o5, b5⟩
     have b05 := btr hb2 b5 hb2.size
     go_wp2_with fail
     go_roundw
     case rel => exact ⟨q + 1, A5, n5, c5, by omega, by go_num, rfl, by rw [HY.out, ← List.append_assoc, show asB false y = b16 y from by unfold asB; have h := HBG.out; rw [if_neg (by simp), if_neg (by omega)]]; exact o5.low hb2.size, b05⟩
     case measure => simp [intOf]; omega
   ·have HY0 := Lib.hid (And.intro hy0 hy1)
    clear hy0 hy1
    go_wp2_with fail
    refine (ref01Put32 A2 n2 c2 _ y _ ho2.bs (by have := HLN.out; omega) HY0.out.1 (by have := HY0.out.2; omega)).mono ?_
    rintro _ w4 ⟨A5, n5, c5, rfl, o5, b5⟩
    have b05 := btr hb2 b5 hb2.size
    go_wp2_with fail
    go_roundw
    case rel => exact ⟨q + 1, A5, n5, c5, by omega, by go_num, rfl, by rw [HY.out, ← List.append_assoc, show asB true y = b32 y from by unfold asB; rw [if_pos rfl]]; exact o5.low hb2.size, b05⟩
    case measure => simp [intOf]; omega
/-- A row of the call's own stays where a row of another type is written. -/
theorem own_own {w w' : World} {base base' : Nat} {e e' : TypeId} {s s' n n' : Nat} {v v' : Value} {xs xs' : List Value} (h : w.ownsRow base e s v n xs) (h' : w.ownsRow base' e' s' v' n' xs') (hne : e ≠ e') (hg : w.grownBy w' v'.ownBlock) : w'.ownsRow base e s v n xs := by
 refine h.kept hg ?_
 rcases h.2 with ⟨h2, _⟩ | ⟨g, cap, cur, hv, hb, hh, r⟩
 ·left; rw [h2]; rfl
 ·right
  intro e1
  rcases h'.2 with ⟨h3, _⟩ | ⟨g2, _, _, hv2, _, hh2, _⟩
  ·rw [hv, h3] at e1; cases e1
  ·rw [hv, hv2] at e1
   injection e1 with e1
   have e1 : g = g2 := e1
   subst e1
   rw [hh] at hh2
   injection hh2 with hh2
   injection hh2 with _ h4 _
   exact hne h4
theorem own_low {w : World} {base base' : Nat} {e : TypeId} {size n : Nat} {v : Value} {xs : List Value} (h : w.ownsRow base e size v n xs) (hb : base' ≤ base) : w.ownsRow base' e size v n xs := by
 refine ⟨h.1, ?_⟩
 rcases h.2 with h2 | ⟨g, cap, cur, hv, hg, r⟩
 ·exact .inl h2
 ·exact .inr ⟨g, cap, cur, hv, Nat.le_trans hb hg, r⟩
/-- append onto numbers of the call's own, in a region that draws its order. -/
theorem step_appU {w : World} {ops : Array Oper} {o : Oper} {a : Act} {K : Act → World → Prop} {Q : Exit → Act → World → Prop} {E : Prop} (hgd : o.guard = none) (s x : Operand)
  (ho : o.op = .call { callee := .builtin .append, args := #[s, x], argTypes := #[72, 72] })
  (base : Nat) (A : Option Addr) (n c : Nat) (l : List Int) (hs : a.eval s = .slice A n c) (hown : OU w base A n c l)
  (B : Nat) (A' : Option Addr) (m c' : Nat) (l' : List Int) (hx : a.eval x = .slice A' m c') (hr : NS .u32 w B A' m l')
  (hlen : l.length + l'.length ≤ 35184372088832) (hbase : base ≤ w.heap.size)
  (h : ∀ (A2 : Option Addr) (n2 c2 : Nat) (w' : World), OU w' base A2 n2 c2 (l ++ l') → Below base w w' → w.grownBy w' (Value.ownBlock (.slice A n c)) → (Value.ownBlock (.slice A2 n2 c2) = Value.ownBlock (.slice A n c) ∨ Value.ownBlock (.slice A2 n2 c2) = some w.heap.size) → K (a.put o.dst (.slice A2 n2 c2)) w') :
  if Region.wanted o (yielded ops a.tmps) = true then Oper.wp Tryz.prog o a w K Q else E := by
 have e1 := hown.1
 have e2 : m = l'.length := hr.1
 obtain ⟨i, hi, hz, h1', h2'⟩ : ∃ i, Tryz.prog.info? 22 = some i ∧ i.zero = some (.int .u32 0) ∧ i.size = 1 ∧ i.bytes = 4 := by
  have := u32info
  simp only [Option.map_eq_some_iff, Prod.mk.injEq] at this
  exact this
 refine step_append_any _ hgd s x 72 ho base 22 i (.int .u32 0) 1 4 Tryz.underlying72 hi hz h1' h2' rfl (by omega) (.slice A n c) n (un l) hs hown.2.1 B A' m c' (un l') hx hr.2.1 (un_one l') (by unfold maxLen; omega) (by omega) hbase ?_
 intro v' w' o' g' hat
 obtain ⟨A2, c2, rfl⟩ : ∃ A2 c2, v' = .slice A2 (n + m) c2 := by
  rcases o'.2 with ⟨rfl, hnil⟩ | ⟨g, cap, cur, hv, _⟩
  ·exact ⟨none, 0, by rw [hnil]⟩
  ·exact ⟨_, _, hv⟩
 exact h A2 (n + m) c2 w' ⟨by rw [List.length_append]; omega, by rw [un_append]; exact o', fun x hx => by
  rcases List.mem_append.1 hx with hx | hx
  ·exact hown.2.2 x hx
  ·exact hr.2.2 x hx⟩ ((Below.refl base w).grown g' hbase (fun k hk => (hown.2.1.lt k hk).1)) g' hat
/-- Where a part's numbers lie. -/
abbrev Hd := Option Addr × Nat × Nat
def Hd.v (p : Hd) : Value := .slice p.1 p.2.1 p.2.2
def segC (y : Seg × Hd) : List Value := [.int .i64 y.1.1, y.2.v]
def segsC (L : List (Seg × Hd)) : List Value := L.flatMap segC
theorem segsC_len (L : List (Seg × Hd)) : (segsC L).length = L.length * 2 := by
 induction L with
 | nil => rfl
 | cons a L ih => rw [segsC, List.flatMap_cons, List.length_append, ← segsC, ih]; simp [segC]; omega
theorem segsC_app (L M : List (Seg × Hd)) : segsC (L ++ M) = segsC L ++ segsC M := by simp [segsC]
theorem own_alloc2 {w : World} {base : Nat} {e : TypeId} {size n : Nat} {v : Value} {xs : List Value} (h : w.ownsRow base e size v n xs) (x : Obj) : (w.alloc x).ownsRow base e size v n xs := h.alloc x
theorem segsC_one (y : Seg × Hd) : segsC [y] = segC y := by simp [segsC]
theorem segsC_at {L : List (Seg × Hd)} {j : Nat} {y : Seg × Hd} (h : L[j]? = some y) (i : Nat) (hi : i < 2) : (segsC L)[j * 2 + i]? = (segC y)[i]? := by
 induction L generalizing j with
 | nil => simp at h
 | cons a L ih =>
  have e : segsC (a :: L) = segC a ++ segsC L := by simp [segsC]
  have hl : (segC a).length = 2 := rfl
  rw [e]
  cases j with
  | zero =>
   simp at h
   subst h
   rw [List.getElem?_append_left (by omega)]
   congr 1
   omega
  | succ j =>
   rw [List.getElem?_append_right (by omega), hl, show (j + 1) * 2 + i - 2 = j * 2 + i by omega]
   exact ih (by simpa using h)
def Apt (y z : Seg × Hd) : Prop := ∀ b, y.2.v.ownBlock = some b → z.2.v.ownBlock ≠ some b
/-- A path of the call's own. -/
def OP (w : World) (base : Nat) (A : Option Addr) (n c : Nat) (L : List (Seg × Hd)) : Prop :=
 n = L.length ∧ w.ownsRow base 229 2 (.slice A n c) n (segsC L) ∧ (∀ y ∈ L, OU w base y.2.1 y.2.2.1 y.2.2.2 y.1.2) ∧ L.Pairwise Apt
theorem seg_info : (Tryz.prog.info? 229).map (fun i => (i.zero, i.size, i.bytes)) = some (some (.agg #[.int .i64 0, .slice none 0 0]), 2, 32) := by kernel_rfl
section
variable {w w' : World} {base n c : Nat} {A : Option Addr} {L : List (Seg × Hd)}
theorem OP.nil_ : OP w base none 0 0 [] := ⟨rfl, World.ownsRow_nil _ _ _ _, fun x h => (by cases h), List.Pairwise.nil⟩
theorem OP.call (h : OP w base A n c L) (hb : Below w.heap.size w w') : OP w' base A n c L := ⟨h.1, own_below h.2.1 hb, fun y hy => (h.2.2.1 y hy).call hb, h.2.2.2⟩
theorem OU.low {base' : Nat} {l : List Int} (h : OU w base A n c l) (hb : base' ≤ base) : OU w base' A n c l := ⟨h.1, own_low h.2.1 hb, h.2.2⟩
theorem OP.low {base' : Nat} (h : OP w base A n c L) (hb : base' ≤ base) : OP w base' A n c L := ⟨h.1, own_low h.2.1 hb, fun y hy => (h.2.2.1 y hy).low hb, h.2.2.2⟩
theorem OP.cap (h : OP w base A n c L) : n ≤ c := own_cap h.2.1
theorem OP.dl (h : OP w base A n c L) : DL rSeg 2 w (Lo w) A n (L.map (·.1)) := by
 refine ⟨L.map segC, by simp, by rw [List.length_map]; exact h.1, ?_, fun i cs a hi ha => ?_, fun cs hcs => ?_⟩
 ·have e : (L.map segC).flatten = segsC L := by simp [segsC, List.flatMap]
  rw [e]
  exact Rw.of_reads (Reads.of_own h.2.1) (by omega) (fun b hb => hb)
 ·rw [List.getElem?_map] at hi ha
  obtain ⟨y, hy, rfl⟩ := Option.map_eq_some_iff.1 hi
  rw [hy] at ha
  simp only [Option.map_some, Option.some.injEq] at ha
  subst ha
  have ho := h.2.2.1 y (List.mem_of_getElem? hy)
  exact ⟨y.2.1, y.2.2.1, y.2.2.2, rfl, NF.of ho.ns (fun b hb => hb), ho.cap⟩
 ·obtain ⟨y, _, rfl⟩ := List.mem_map.1 hcs
  rfl
/-- Part j, and where it stands. -/
theorem OP.at_ (h : OP w base A n c L) {j : Nat} {y : Seg × Hd} (hj : L[j]? = some y) : ∃ g, A = some ⟨g, 0, none⟩ ∧ base ≤ g ∧ g < w.heap.size ∧ w.cell? ⟨g, j * 2, none⟩ = some (.int .i64 y.1.1) ∧ w.cell? ⟨g, j * 2 + 1, none⟩ = some y.2.v ∧ (∀ i, w.frozen? ⟨g, i, none⟩ = false) := by
 have hl := (List.getElem?_eq_some_iff.1 hj).1
 obtain ⟨g, cap, hv, hb, hlt⟩ := h.2.1.form (by have := h.1; omega)
 injection hv with h1 h2 h3
 subst h1
 have ho := h.2.1
 refine ⟨g, rfl, hb, hlt, ?_, ?_, fun i => ho.frozenAt i⟩
 ·rw [ho.cellAt (j * 2) (by have := h.1; omega)]
  have := segsC_at hj 0 (by omega)
  rw [Nat.add_zero] at this
  rw [this]; rfl
 ·rw [ho.cellAt (j * 2 + 1) (by have := h.1; omega), segsC_at hj 1 (by omega)]; rfl
/-- One part more, its numbers apart from all others. -/
theorem OP.push (h : OP w base A n c L) {A' : Option Addr} {c' : Nat} {y : Seg × Hd} (hy : OU w base y.2.1 y.2.2.1 y.2.2.2 y.1.2) (ha : ∀ z ∈ L, Apt z y) (ho : w'.ownsRow base 229 2 (.slice A' (n + 1) c') (n + 1) (segsC L ++ segC y)) (hg : w.grownBy w' (Value.ownBlock (.slice A n c))) : OP w' base A' (n + 1) c' (L ++ [y]) := by
 refine ⟨by rw [List.length_append, h.1]; rfl, by rw [segsC_app, segsC_one]; exact ho, fun z hz => ?_, List.pairwise_append.2 ⟨h.2.2.2, List.pairwise_singleton _ _, fun z hz u hu => by simp at hu; subst hu; exact ha z hz⟩⟩
 have key : OU w base z.2.1 z.2.2.1 z.2.2.2 z.1.2 := by
  rcases List.mem_append.1 hz with hz | hz
  ·exact h.2.2.1 z hz
  ·simp at hz; subst hz; exact hy
 exact ⟨key.1, own_own key.2.1 h.2.1 (by decide) hg, key.2.2⟩
/-- What is fresh lies apart. -/
theorem OP.apt (h : OP w base A n c L) {y : Seg × Hd} {base' : Nat} {l : List Int} (hy : OU w' base' y.2.1 y.2.2.1 y.2.2.2 l) (hb : w.heap.size ≤ base') : ∀ z ∈ L, Apt z y := by
 intro z hz b hzb hyb
 have h1 := ((h.2.2.1 z hz).2.1.lt b hzb).2
 have h2 := (hy.2.1.lt b hyb).1
 omega
end
theorem NF.un {w : World} {S : Nat → Prop} {A : Option Addr} {n : Nat} {l : List Int} (h : NF w S A n l) : n = l.length := h.1
/-- A path that is handed back. -/
def RetP (w : World) (l : List Seg) (e : Ending) (w' : World) : Prop := ∃ (A : Option Addr) (n c : Nat) (L : List (Seg × Hd)), e = .returned (.slice A n c) ∧ OP w' w.heap.size A n c L ∧ L.map (·.1) = l ∧ Below w.heap.size w w'
/-- What kinds look like. -/
def lookTbl : List (Nat × Nat × Nat) := [(0, 0, 0), (64, 1, 1), (64, 0, 65536), (64, 4, 4), (128, 4, 4), (64, 4, 4), (64, 0, 0), (192, 6, 8), (192, 0, 65536), (0, 0, 0), (0, 0, 0), (0, 0, 0), (0, 0, 0), (0, 0, 0), (0, 0, 0), (0, 0, 0), (0, 0, 0), (192, 0, 65536), (192, 0, 65536)]
def lookAt (k : Nat) : Nat × Nat × Nat := (lookTbl[k]?).getD (0, 0, 0)
/-- The table's cells. -/
def LookTab (w : World) : Prop := ∀ k : Nat, k < 19 → w.cell? ⟨1, k * 3, none⟩ = some (.int .i64 ((lookAt k).1 : Int)) ∧ w.cell? ⟨1, k * 3 + 1, none⟩ = some (.int .i64 ((lookAt k).2.1 : Int)) ∧ w.cell? ⟨1, k * 3 + 2, none⟩ = some (.int .i64 ((lookAt k).2.2 : Int))
theorem LookTab.call {w w' : World} (h : LookTab w) (hb : Below w.heap.size w w') : LookTab w' := fun k hk => by
 have h1 := h k hk
 exact ⟨(hb.cell (lt_of_cell h1.1)).trans h1.1, (hb.cell (lt_of_cell h1.2.1)).trans h1.2.1, (hb.cell (lt_of_cell h1.2.2)).trans h1.2.2⟩
/-- Flags of a kind that is known. -/
def flagsA (k : Int) : Int := if k = 1 ∨ k = 2 ∨ k = 3 ∨ k = 5 ∨ k = 6 then 64 else if k = 4 then 128 else if k = 7 ∨ k = 8 ∨ k = 17 ∨ k = 18 then 192 else 0
def knownA (k : Int) : Bool := decide (flagsA k ≠ 0)
theorem flags_look : ∀ k : Fin 19, flagsA (k.val : Int) = ((lookAt k.val).1 : Int) := by decide
theorem flags_out {k : Int} (h : k < 0 ∨ 18 < k) : flagsA k = 0 := by
 unfold flagsA
 rw [if_neg (by omega), if_neg (by omega), if_neg (by omega)]
theorem known_look {k : Nat} (h : k < 19) : knownA (k : Int) = ((lookAt k).1 != 0) := by
 unfold knownA
 rw [flags_look ⟨k, h⟩]
 by_cases h0 : (lookAt k).1 = 0
 ·rw [h0]; rfl
 ·have h1 : (((lookAt k).1 : Nat) : Int) ≠ 0 := by omega
  rw [decide_eq_true h1]
  simp [h0]
set_option maxHeartbeats 1000000 in
set_option maxRecDepth 100000 in
theorem attKnown (k : Int) (w : World) (hk : (Lit.int .i64 k).wf = true) (ht : LookTab w) :
  Calls Tryz.prog 149 #[.int .i64 k] w fun en w' => en = .returned (.bool (knownA k)) ∧ w = w' := by
 by_cases h0 : 0 ≤ k
 case neg =>
  have d1 : decide (0 ≤ k) = false := decide_eq_false h0
  have HF := Lib.hid (show knownA k = false by unfold knownA; rw [flags_out (by omega)]; rfl)
  go_enter Tryz.func149, Tryz.ntmps149
  go_wp2_with fail
  go_ret
  exact ⟨ret_b HF.out.symm, rfl⟩
 by_cases h19 : k < 19
 case neg =>
  have d1 : decide (0 ≤ k) = true := decide_eq_true h0
  have d2 : decide (k < 19) = false := decide_eq_false h19
  have HF := Lib.hid (show knownA k = false by unfold knownA; rw [flags_out (by omega)]; rfl)
  go_enter Tryz.func149, Tryz.ntmps149
  go_wp2_with fail
  go_ret
  exact ⟨ret_b HF.out.symm, rfl⟩
 obtain ⟨N, rfl⟩ := Int.eq_ofNat_of_zero_le h0
 have hN : N < 19 := by omega
 have d2 : decide ((N : Int) < 19) = true := decide_eq_true h19
 have d2' : decide (N < 19) = true := decide_eq_true hN
 have c0 := (ht N hN).1
 have HF := Lib.hid (known_look hN)
 obtain ⟨f, hf⟩ : ∃ f, (lookAt N).1 = f := ⟨_, rfl⟩
 rw [hf] at c0 HF
 clear hf
 cases hz : (f != 0)
 ·have t1 : ((f : Int) != 0) = false := by
   have : f = 0 := by simpa using hz
   subst this; rfl
  have HF2 := Lib.hid (show knownA (N : Int) = false by rw [HF.out, hz])
  go_enter Tryz.func149, Tryz.ntmps149
  go_wp2_with fail
  go_ret
  exact ⟨ret_b HF2.out.symm, rfl⟩
 ·have t1 : ((f : Int) != 0) = true := by
   have : f ≠ 0 := by simpa using hz
   simp; omega
  have HF2 := Lib.hid (show knownA (N : Int) = true by rw [HF.out, hz])
  go_enter Tryz.func149, Tryz.ntmps149
  go_wp2_with fail
  go_ret
  exact ⟨ret_b HF2.out.symm, rfl⟩
set_option maxHeartbeats 1000000 in
set_option maxRecDepth 100000 in
theorem refFlags04 (k : Int) (w : World) :
  Calls Tryz.prog 97 #[.int .i64 k] w fun en w' => en = .returned (.int .i64 (flagsA k)) ∧ w = w' := by
 by_cases h : k = 1 ∨ k = 2 ∨ k = 3 ∨ k = 5 ∨ k = 6 ∨ k = 4 ∨ k = 7 ∨ k = 8 ∨ k = 17 ∨ k = 18
 ·rcases h with rfl | rfl | rfl | rfl | rfl | rfl | rfl | rfl | rfl | rfl
  all_goals
   go_enter Tryz.func97, Tryz.ntmps97
   go_wp2_with fail
   go_ret
   exact ⟨rfl, rfl⟩
 ·have HF := Lib.hid (show flagsA k = 0 by unfold flagsA; rw [if_neg (by omega), if_neg (by omega), if_neg (by omega)])
  have e1 : (k == 1) = false := by simp; omega
  have e2 : (k == 2) = false := by simp; omega
  have e3 : (k == 3) = false := by simp; omega
  have e4 : (k == 4) = false := by simp; omega
  have e5 : (k == 5) = false := by simp; omega
  have e6 : (k == 6) = false := by simp; omega
  have e7 : (k == 7) = false := by simp; omega
  have e8 : (k == 8) = false := by simp; omega
  have e17 : (k == 17) = false := by simp; omega
  have e18 : (k == 18) = false := by simp; omega
  clear h
  go_enter Tryz.func97, Tryz.ntmps97
  go_wp2_with fail
  go_ret
  exact ⟨by rw [HF.out]; rfl, rfl⟩
/-- Whether a number may be a next one. -/
def nextA (a : Int) : Bool := decide (a / 16777216 ≠ 0 ∧ a / 16777216 ≠ 127 ∧ a / 16777216 < 224)
set_option maxHeartbeats 1000000 in
set_option maxRecDepth 100000 in
theorem refNext04 (a : Int) (w : World) (h0 : 0 ≤ a) (h1 : a < 4294967296) :
  Calls Tryz.prog 39 #[.int .u32 a] w fun en w' => en = .returned (.bool (nextA a)) ∧ w = w' := by
 obtain ⟨f, hf⟩ : ∃ f, a / 16777216 = f := ⟨_, rfl⟩
 have hq : a.tdiv 16777216 = f := by rw [Int.tdiv_eq_ediv_of_nonneg h0]; exact hf
 have hfb : 0 ≤ f ∧ f < 256 := by omega
 have HF := Lib.hid (show nextA a = decide (f ≠ 0 ∧ f ≠ 127 ∧ f < 224) by unfold nextA; rw [hf])
 have w1 : IntKind.i64.wrap a = a := IntWalk.i64_in _ ⟨by omega, by omega⟩
 have w2 : IntKind.i64.wrap f = f := IntWalk.i64_in _ ⟨by omega, by omega⟩
 clear hf
 by_cases c0 : f = 0
 ·have HG := Lib.hid (show nextA a = false by rw [HF.out]; exact decide_eq_false (by omega))
  have t0 : (f != 0) = false := by simp; omega
  clear c0
  go_enter Tryz.func39, Tryz.ntmps39
  go_wp2_with fail
  go_ret
  exact ⟨ret_b HG.out.symm, rfl⟩
 have t0 : (f != 0) = true := by simp; omega
 by_cases c1 : f = 127
 ·have HG := Lib.hid (show nextA a = false by rw [HF.out]; exact decide_eq_false (by omega))
  have t1 : (f != 127) = false := by simp; omega
  clear c0 c1
  go_enter Tryz.func39, Tryz.ntmps39
  go_wp2_with fail
  go_ret
  exact ⟨ret_b HG.out.symm, rfl⟩
 have t1 : (f != 127) = true := by simp; omega
 by_cases c2 : f < 224
 ·have HG := Lib.hid (show nextA a = true by rw [HF.out]; exact decide_eq_true (by omega))
  have t2 : decide (f < 224) = true := decide_eq_true c2
  clear c0 c1
  go_enter Tryz.func39, Tryz.ntmps39
  go_wp2_with fail
  go_ret
  exact ⟨ret_b HG.out.symm, rfl⟩
 ·have HG := Lib.hid (show nextA a = false by rw [HF.out]; exact decide_eq_false (by omega))
  have t2 : decide (f < 224) = false := decide_eq_false c2
  clear c0 c1
  go_enter Tryz.func39, Tryz.ntmps39
  go_wp2_with fail
  go_ret
  exact ⟨ret_b HG.out.symm, rfl⟩
set_option maxHeartbeats 1000000 in
set_option maxRecDepth 100000 in
theorem attNext (a : Int) (w : World) (h0 : 0 ≤ a) (h1 : a < 4294967296) :
  Calls Tryz.prog 204 #[.int .u32 a] w fun en w' => en = .returned (.bool (nextA a)) ∧ w = w' := by
 obtain ⟨f, hf⟩ : ∃ f, a / 16777216 = f := ⟨_, rfl⟩
 have hfb : 0 ≤ f ∧ f < 256 := by omega
 have HF := Lib.hid (show nextA a = decide (f ≠ 0 ∧ f ≠ 127 ∧ f < 224) by unfold nextA; rw [hf])
 by_cases c0 : f = 0
 ·have HG := Lib.hid (show nextA a = false by rw [HF.out]; exact decide_eq_false (by omega))
  have t0 : (f != 0) = false := by simp; omega
  clear c0
  go_enter Tryz.func204, Tryz.ntmps204
  go_wp2_with fail
  go_ret
  exact ⟨ret_b HG.out.symm, rfl⟩
 have t0 : (f != 0) = true := by simp; omega
 by_cases c1 : f = 127
 ·have HG := Lib.hid (show nextA a = false by rw [HF.out]; exact decide_eq_false (by omega))
  have t1 : (f != 127) = false := by simp; omega
  clear c0 c1
  go_enter Tryz.func204, Tryz.ntmps204
  go_wp2_with fail
  go_ret
  exact ⟨ret_b HG.out.symm, rfl⟩
 have t1 : (f != 127) = true := by simp; omega
 by_cases c2 : f < 224
 ·have HG := Lib.hid (show nextA a = true by rw [HF.out]; exact decide_eq_true (by omega))
  have t2 : decide (f < 224) = true := decide_eq_true c2
  clear c0 c1
  go_enter Tryz.func204, Tryz.ntmps204
  go_wp2_with fail
  go_ret
  exact ⟨ret_b HG.out.symm, rfl⟩
 ·have HG := Lib.hid (show nextA a = false by rw [HF.out]; exact decide_eq_false (by omega))
  have t2 : decide (f < 224) = false := decide_eq_false c2
  clear c0 c1
  go_enter Tryz.func204, Tryz.ntmps204
  go_wp2_with fail
  go_ret
  exact ⟨ret_b HG.out.symm, rfl⟩
def numA (k : Int) : Bool := decide (-1 ≤ k ∧ k ≤ 4294967295)
set_option maxHeartbeats 1000000 in
theorem attNumber (k : Int) (w : World) :
  Calls Tryz.prog 225 #[.int .i64 k] w fun en w' => en = .returned (.bool (numA k)) ∧ w = w' := by
 by_cases h0 : -1 ≤ k
 ·by_cases h1 : k ≤ 4294967295
  ·have d1 : decide (-1 ≤ k) = true := decide_eq_true h0
   have d2 : decide (k ≤ 4294967295) = true := decide_eq_true h1
   have HF := Lib.hid (show numA k = true from decide_eq_true ⟨h0, h1⟩)
   go_enter Tryz.func225, Tryz.ntmps225
   go_wp2_with fail
   go_ret
   exact ⟨ret_b HF.out.symm, rfl⟩
  ·have d1 : decide (-1 ≤ k) = true := decide_eq_true h0
   have d2 : decide (k ≤ 4294967295) = false := decide_eq_false h1
   have HF := Lib.hid (show numA k = false from decide_eq_false (by omega))
   go_enter Tryz.func225, Tryz.ntmps225
   go_wp2_with fail
   go_ret
   exact ⟨ret_b HF.out.symm, rfl⟩
 ·have d1 : decide (-1 ≤ k) = false := decide_eq_false h0
  have HF := Lib.hid (show numA k = false from decide_eq_false (by omega))
  go_enter Tryz.func225, Tryz.ntmps225
  go_wp2_with fail
  go_ret
  exact ⟨ret_b HF.out.symm, rfl⟩
/-- An attribute that is not known. -/
abbrev RawV := Int × Int × List UInt8
def rRaw : Rep RawV := fun w S cs x => ∃ (A : Option Addr) (n c : Nat), cs = [.int .i64 x.1, .int .i64 x.2.1, .slice A n c] ∧ BF w S A n x.2.2 ∧ n ≤ c ∧ (Lit.int .i64 x.1).wf = true ∧ (Lit.int .i64 x.2.1).wf = true
theorem rRaw_ok : rRaw.Ok 3 where
 len := by rintro w S cs a ⟨A, n, c, rfl, _⟩; rfl
 one := by
  rintro w S cs a ⟨A, n, c, rfl, _⟩ u hu
  simp at hu
  rcases hu with rfl | rfl | rfl <;> rfl
 keep := by
  rintro w w' S S' cs a ⟨A, n, c, rfl, h, hc⟩ hk
  exact ⟨A, n, c, rfl, h.keep hk, hc⟩
theorem DL.rawAt {w : World} {S : Nat → Prop} {A : Option Addr} {n : Nat} {l : List RawV} (h : DL rRaw 3 w S A n l) {j : Nat} {x : RawV} (hj : l[j]? = some x) :
  ∃ b off A' n' c', A = some ⟨b, off, none⟩ ∧ S b ∧ w.cell? ⟨b, off + j * 3, none⟩ = some (.int .i64 x.1) ∧ w.cell? ⟨b, off + j * 3 + 1, none⟩ = some (.int .i64 x.2.1) ∧ w.cell? ⟨b, off + j * 3 + 2, none⟩ = some (.slice A' n' c') ∧ BF w S A' n' x.2.2 ∧ n' ≤ c' ∧ (Lit.int .i64 x.1).wf = true ∧ (Lit.int .i64 x.2.1).wf = true := by
 obtain ⟨b, off, cs, e, hb, _, hc, A', n', c', rfl, h1, h2, h3⟩ := h.at_ hj
 exact ⟨b, off, A', n', c', e, hb, by simpa using hc 0 _ rfl, by simpa using hc 1 _ rfl, by simpa using hc 2 _ rfl, h1, h2, h3⟩
/-- What is said of a route. -/
structure At where
 origin : Int
 path : List Seg
 next : Int
 med : Int
 pref : Int
 atomic : Bool
 hasAggr : Bool
 aggrAS : Int
 aggrAddr : Int
 comms : List Int
 raws : List RawV
/-- Its cells; the three slices stand where they stand. -/
def atC (a : At) (P C R : Hd) : Array Value := #[.int .i64 a.origin, .slice P.1 P.2.1 P.2.2, .int .u32 a.next, .int .i64 a.med, .int .i64 a.pref, .bool a.atomic, .bool a.hasAggr, .int .u32 a.aggrAS, .int .u32 a.aggrAddr, .slice C.1 C.2.1 C.2.2, .slice R.1 R.2.1 R.2.2]
theorem getL {α : Type} {l : List α} {j n : Nat} (hn : n = l.length) (hj : j < n) : ∃ x, l[j]? = some x := ⟨_, List.getElem?_eq_getElem (by omega)⟩
/-- What may not be at a place: the one ahead, and the one there. -/
def badRaw (prev : Option RawV) (x : RawV) : Bool := decide (x.2.1 < 0 ∨ 255 < x.2.1 ∨ knownA x.2.1 = true ∨ x.1 ≠ 224 ∨ 64 < x.2.2.length) || (match prev with
 | none => false
 | some p => decide (x.2.1 ≤ p.2.1))
def prevAt (l : List RawV) (j : Nat) : Option RawV := if j = 0 then none else l[j - 1]?
def rawsA (l : List RawV) : Bool := (List.range l.length).all fun j => !badRaw (prevAt l j) (l[j]?.getD (0, 0, []))
theorem rawsA_bad {l : List RawV} {j : Nat} {x : RawV} (hx : l[j]? = some x) (h : badRaw (prevAt l j) x = true) : rawsA l = false := by
 unfold rawsA
 refine List.all_eq_false.2 ⟨j, List.mem_range.2 (List.getElem?_eq_some_iff.1 hx).1, ?_⟩
 rw [hx, Option.getD_some, h]; simp
theorem rawsA_ok {l : List RawV} (h : ∀ j x, l[j]? = some x → badRaw (prevAt l j) x = false) : rawsA l = true := by
 unfold rawsA
 refine List.all_eq_true.2 fun j hj => ?_
 have hl := List.mem_range.1 hj
 rw [List.getElem?_eq_getElem hl, Option.getD_some, h j _ (List.getElem?_eq_getElem hl)]
 rfl
theorem rawsA_at {l : List RawV} (h : rawsA l = true) {j : Nat} {x : RawV} (hx : l[j]? = some x) : badRaw (prevAt l j) x = false := by
 unfold rawsA at h
 have := List.all_eq_true.1 h j (List.mem_range.2 (List.getElem?_eq_some_iff.1 hx).1)
 rw [hx, Option.getD_some] at this
 simpa using this
theorem bad_of {prev : Option RawV} {x : RawV} (h : x.2.1 < 0 ∨ 255 < x.2.1 ∨ knownA x.2.1 = true ∨ x.1 ≠ 224 ∨ 64 < x.2.2.length) : badRaw prev x = true := by
 unfold badRaw
 rw [decide_eq_true h, Bool.true_or]
theorem bad_prev {q x : RawV} (h : x.2.1 ≤ q.2.1) : badRaw (some q) x = true := by
 unfold badRaw
 simp only
 rw [decide_eq_true h, Bool.or_true]
theorem good_first {x : RawV} (h : ¬ (x.2.1 < 0 ∨ 255 < x.2.1 ∨ knownA x.2.1 = true ∨ x.1 ≠ 224 ∨ 64 < x.2.2.length)) : badRaw none x = false := by
 unfold badRaw
 rw [decide_eq_false h]; rfl
theorem good_next {q x : RawV} (h : ¬ (x.2.1 < 0 ∨ 255 < x.2.1 ∨ knownA x.2.1 = true ∨ x.1 ≠ 224 ∨ 64 < x.2.2.length)) (h2 : ¬ x.2.1 ≤ q.2.1) : badRaw (some q) x = false := by
 unfold badRaw
 simp only
 rw [decide_eq_false h, decide_eq_false h2]; rfl
theorem prevAt_succ {l : List RawV} {j : Nat} (h : 0 < j) : prevAt l j = l[j - 1]? := by unfold prevAt; rw [if_neg (by omega)]
theorem fine_step {l : List RawV} {j : Nat} {x : RawV} (h : ∀ i y, i < j → l[i]? = some y → badRaw (prevAt l i) y = false) (hx : l[j]? = some x) (hb : badRaw (prevAt l j) x = false) : ∀ i y, i < j + 1 → l[i]? = some y → badRaw (prevAt l i) y = false := by
 intro i y hi hy
 rcases Nat.lt_or_ge i j with h1 | h1
 ·exact h i y h1 hy
 ·have : i = j := by omega
  subst this
  rw [hx] at hy
  injection hy with hy
  subst hy
  exact hb
def rightAt (a : At) : Bool := decide (0 ≤ a.origin ∧ a.origin ≤ 2) && rightA a.path && numA a.med && numA a.pref && (a.hasAggr || decide (a.aggrAS = 0 ∧ a.aggrAddr = 0)) && decide (a.comms.length ≤ 32) && rawsA a.raws && decide (a.raws.length ≤ 8)
set_option maxHeartbeats 4000000 in
set_option maxRecDepth 100000 in
theorem attRaws (A : Option Addr) (n c : Nat) (l : List RawV) (w : World) (hd : DL rRaw 3 w (Lo w) A n l) (hn : n ≤ 100000) (ht : LookTab w) :
  Calls Tryz.prog 226 #[.slice A n c] w fun en w' => en = .returned (.bool (rawsA l && decide (l.length ≤ 8))) ∧ Below w.heap.size w w' := by
 have HN := Lib.hid hd.len
 have HBAD := Lib.hid (show rawsA l = false → (rawsA l && decide (l.length ≤ 8)) = false from fun h => by rw [h]; rfl)
 go_enter Tryz.func226, Tryz.ntmps226
 go_wp2_with fail
 go_loopw [7] (fun i wr => ∃ j : Nat, j ≤ n ∧ i = .int .i64 j ∧ Hid (∀ i y, i < j → l[i]? = some y → badRaw (prevAt l i) y = false) ∧ Below w.heap.size w wr) (fun i _ => n - (intOf i).toNat)
 case atStart => exact ⟨0, by omega, rfl, Lib.hid (fun i y h => by omega), Below.refl _ _⟩
 case round =>
  obtain ⟨j, hj, rfl, HA, hb⟩ := hrel
  by_cases hlt : j < n
  case neg =>
   have e2 : decide ((j : Int) < n) = false := decide_eq_false (by omega)
   have HF := Lib.hid (show rawsA l = true from rawsA_ok fun i x hx => HA.out i x (by have := (List.getElem?_eq_some_iff.1 hx).1; have := HN.out; omega) hx)
   by_cases h8 : n ≤ 8
   ·have e3 : decide ((n : Int) ≤ 8) = true := decide_eq_true (by omega)
    have e3' : decide (n ≤ 8) = true := decide_eq_true h8
    have HG := Lib.hid (show (rawsA l && decide (l.length ≤ 8)) = true by rw [HF.out, ← HN.out, e3']; rfl)
    clear h8
    go_wp2_with fail
    go_ret
    exact ⟨ret_b HG.out.symm, hb⟩
   ·have e3 : decide ((n : Int) ≤ 8) = false := decide_eq_false (by omega)
    have e3' : decide (n ≤ 8) = false := decide_eq_false h8
    have HG := Lib.hid (show (rawsA l && decide (l.length ≤ 8)) = false by rw [HF.out, ← HN.out, e3']; rfl)
    clear h8
    go_wp2_with fail
    go_ret
    exact ⟨ret_b HG.out.symm, hb⟩
  have e2 : decide ((j : Int) < n) = true := decide_eq_true (by omega)
  have hlti : (j : Int) < n := by omega
  obtain ⟨x, hx⟩ := getL HN.out hlt
  have HX := Lib.hid hx
  obtain ⟨b, off, A', n', c', hA0, hbl, k0w, k1w, k2w, hbf, hnc', wf0, wf1⟩ := hd.rawAt hx
  subst hA0
  have hbl : b < w.heap.size := hbl
  have HNX := Lib.hid hbf.1
  obtain ⟨fl, ty, dat⟩ := x
  simp only at k0w k1w HNX wf0 wf1
  have k0 := (hb.cell (p := ⟨b, off + j * 3, none⟩) hbl).trans k0w
  have k1 := (hb.cell (p := ⟨b, off + j * 3 + 1, none⟩) hbl).trans k1w
  have k2 := (hb.cell (p := ⟨b, off + j * 3 + 2, none⟩) hbl).trans k2w
  have wj : IntKind.i64.wrap ((j : Int) + 1) = (j : Int) + 1 := IntWalk.i64_in _ ⟨by omega, by omega⟩
  have hj0 : (0 : Int) ≤ (j : Int) := by omega
  go_upto_region 4 with fail
  obtain ⟨w1, hw1, hB1, b1⟩ := box1c wr #[.int .i64 fl, .int .i64 ty, .slice A' n' c'] 168
  rw [hw1]
  clear hw1
  have b01 := btr hb b1 hb.size
  have x0 := hB1.cell 0
  have x1 := hB1.cell 1
  have x2 := hB1.cell 2
  clear hx hbf hnc' k0 k1 k2 k0w k1w k2w
  obtain ⟨kb, hkb⟩ : ∃ kb, knownA ty = kb := ⟨_, rfl⟩
  have HKN := Lib.hid (show ∀ w', LookTab w' → Calls Tryz.prog 149 #[.int .i64 ty] w' fun en w'' => en = .returned (.bool kb) ∧ w' = w'' from fun w' h => by rw [← hkb]; exact attKnown ty w' wf1 h)
  have HKB := Lib.hid hkb
  have htw := ht.call b01
  have htH := Lib.hid htw
  clear hkb wf0 wf1 htw
  by_cases c1 : ty < 0
  ·have t1 : decide (ty < 0) = true := decide_eq_true c1
   have HG := Lib.hid (HBAD.out (rawsA_bad HX.out (bad_of (.inl c1))))
   clear c1
   go_quiet (fail)
   go_wp2_with fail
   go_ret
   exact ⟨ret_b HG.out.symm, below_drewN b01 _⟩
  have t1 : decide (ty < 0) = false := decide_eq_false c1
  by_cases c2 : 255 < ty
  ·have t2 : decide (255 < ty) = true := decide_eq_true c2
   have HG := Lib.hid (HBAD.out (rawsA_bad HX.out (bad_of (.inr (.inl c2)))))
   clear c1 c2
   go_quiet (fail)
   go_wp2_with fail
   go_ret
   exact ⟨ret_b HG.out.symm, below_drewN b01 _⟩
  have t2 : decide (255 < ty) = false := decide_eq_false c2
  cases kb
  case true =>
   have HG := Lib.hid (HBAD.out (rawsA_bad HX.out (bad_of (.inr (.inr (.inl HKB.out))))))
   clear c1 c2
   go_quiet ((go_at_call 149; exact quiet_left (HKN.out _ htH.out)))
   go_wp2_with fail
   go_ret
   exact ⟨ret_b HG.out.symm, below_drewN b01 _⟩
  by_cases c4 : fl = 224
  case neg =>
   have t4 : (fl != 224) = true := by simp; omega
   have HG := Lib.hid (HBAD.out (rawsA_bad HX.out (bad_of (.inr (.inr (.inr (.inl c4)))))))
   clear c1 c2 c4
   go_quiet ((go_at_call 149; exact quiet_left (HKN.out _ htH.out)))
   go_wp2_with fail
   go_ret
   exact ⟨ret_b HG.out.symm, below_drewN b01 _⟩
  have t4 : (fl != 224) = false := by simp; omega
  by_cases c5 : 64 < n'
  ·have t5 : decide ((64 : Int) < (n' : Int)) = true := decide_eq_true (by omega)
   have t5' : decide (64 < n') = true := decide_eq_true c5
   have HG := Lib.hid (HBAD.out (rawsA_bad HX.out (bad_of (.inr (.inr (.inr (.inr (by have := HNX.out; simp only at this ⊢; omega))))))))
   clear c1 c2 c4 c5
   go_quiet ((go_at_call 149; exact quiet_left (HKN.out _ htH.out)))
   go_wp2_with fail
   go_ret
   exact ⟨ret_b HG.out.symm, below_drewN b01 _⟩
  have t5 : decide ((64 : Int) < (n' : Int)) = false := decide_eq_false (by omega)
  have t5' : decide (64 < n') = false := decide_eq_false c5
  have HNB := Lib.hid (show ¬ (ty < 0 ∨ 255 < ty ∨ knownA ty = true ∨ fl ≠ 224 ∨ 64 < dat.length) by
   have h1 := HNX.out
   have h2 := HKB.out
   rintro (h | h | h | h | h)
   ·exact c1 h
   ·exact c2 h
   ·rw [h2] at h; cases h
   ·exact h c4
   ·omega)
  by_cases c6 : j = 0
  ·have t6 : decide ((0 : Int) < (j : Int)) = false := decide_eq_false (by omega)
   have t6' : decide (0 < j) = false := decide_eq_false (by omega)
   have HS := Lib.hid (fine_step HA.out HX.out (by rw [show prevAt l j = none by unfold prevAt; rw [if_pos c6]]; exact good_first HNB.out))
   clear c1 c2 c4 c5 c6
   go_quiet ((go_at_call 149; exact quiet_left (HKN.out _ htH.out)))
   go_wp2_with fail
   go_roundw
   case rel => exact ⟨j + 1, by omega, by go_num, HS, below_drewN b01 _⟩
   case measure => simp [intOf]; omega
  have t6 : decide ((0 : Int) < (j : Int)) = true := decide_eq_true (by omega)
  have t6' : decide (0 < j) = true := decide_eq_true (by omega)
  obtain ⟨y, hy⟩ := getL (j := j - 1) HN.out (by omega)
  have HY := Lib.hid hy
  obtain ⟨b', off', A4, n4, c4', hAe, hbl', _, q1w, _, _, _, _, _⟩ := hd.rawAt hy
  injection hAe with hAe
  injection hAe with hA1 hA2 hA3
  subst hA1 hA2
  clear hA3
  obtain ⟨pt, hpt⟩ : ∃ pt, y.2.1 = pt := ⟨_, rfl⟩
  have HPT := Lib.hid hpt
  rw [hpt] at q1w
  have q1 := (b01.cell (p := ⟨b, off + (j - 1) * 3 + 1, none⟩) hbl).trans q1w
  have wp : IntKind.i64.wrap ((j : Int) - 1) = ((j - 1 : Nat) : Int) := by rw [show ((j - 1 : Nat) : Int) = (j : Int) - 1 by omega]; exact IntWalk.i64_in _ ⟨by omega, by omega⟩
  have hjm : ((j - 1 : Nat) : Int) < (n : Int) := by omega
  have hjm0 : (0 : Int) ≤ ((j - 1 : Nat) : Int) := by omega
  have HJ := Lib.hid (show 0 < j by omega)
  clear hy hpt q1w
  by_cases c7 : ty ≤ pt
  ·have t7 : decide (ty ≤ pt) = true := decide_eq_true c7
   have HG := Lib.hid (HBAD.out (rawsA_bad HX.out (by rw [prevAt_succ HJ.out, HY.out]; exact bad_prev (by rw [HPT.out]; exact c7))))
   clear c1 c2 c4 c5 c6 c7
   go_quiet ((go_at_call 149; exact quiet_left (HKN.out _ htH.out)))
   go_wp2_with fail
   go_ret
   exact ⟨ret_b HG.out.symm, below_drewN b01 _⟩
  ·have t7 : decide (ty ≤ pt) = false := decide_eq_false c7
   have HS := Lib.hid (fine_step HA.out HX.out (by rw [prevAt_succ HJ.out, HY.out]; exact good_next HNB.out (by rw [HPT.out]; exact c7)))
   clear c1 c2 c4 c5 c6 c7
   go_quiet ((go_at_call 149; exact quiet_left (HKN.out _ htH.out)))
   go_wp2_with fail
   go_roundw
   case rel => exact ⟨j + 1, by omega, by go_num, HS, below_drewN b01 _⟩
   case measure => simp [intOf]; omega
theorem rightAt_no {a : At} (h : ¬ (0 ≤ a.origin ∧ a.origin ≤ 2) ∨ rightA a.path = false ∨ numA a.med = false ∨ numA a.pref = false ∨ (a.hasAggr = false ∧ ¬ (a.aggrAS = 0 ∧ a.aggrAddr = 0)) ∨ 32 < a.comms.length ∨ rawsA a.raws = false ∨ 8 < a.raws.length) : rightAt a = false := by
 unfold rightAt
 rcases h with h | h | h | h | ⟨h, h'⟩ | h | h | h
 ·rw [decide_eq_false h]; simp
 ·rw [h]; simp
 ·rw [h]; simp
 ·rw [h]; simp
 ·rw [h, decide_eq_false h']; simp
 ·rw [decide_eq_false (by omega : ¬ a.comms.length ≤ 32)]; simp
 ·rw [h]; simp
 ·rw [decide_eq_false (by omega : ¬ a.raws.length ≤ 8)]; simp
theorem rightAt_yes {a : At} (h1 : 0 ≤ a.origin ∧ a.origin ≤ 2) (h2 : rightA a.path = true) (h3 : numA a.med = true) (h4 : numA a.pref = true) (h5 : a.hasAggr = true ∨ (a.aggrAS = 0 ∧ a.aggrAddr = 0)) (h6 : a.comms.length ≤ 32) (h7 : rawsA a.raws = true) (h8 : a.raws.length ≤ 8) : rightAt a = true := by
 unfold rightAt
 rw [decide_eq_true h1, h2, h3, h4, decide_eq_true h6, h7, decide_eq_true h8]
 rcases h5 with h5 | h5
 ·rw [h5]; rfl
 ·rw [decide_eq_true h5]; simp
theorem numA_no {k : Int} (h : k < -1 ∨ 4294967295 < k) : numA k = false := decide_eq_false (by omega)
theorem numA_yes {k : Int} (h : ¬ k < -1) (h' : ¬ 4294967295 < k) : numA k = true := decide_eq_true (by omega)
set_option maxHeartbeats 8000000 in
set_option maxRecDepth 100000 in
theorem refRight04 (o : Int) (A : Option Addr) (n c : Nat) (path : List Seg) (nx md pf : Int) (at_ ha : Bool) (gs ga : Int) (A1 : Option Addr) (n1 c1 : Nat) (comms : List Int) (A2 : Option Addr) (n2 c2 : Nat) (raws : List RawV) (w : World) (hp : DL rSeg 2 w (Lo w) A n path) (hc : n1 = comms.length) (hd : DL rRaw 3 w (Lo w) A2 n2 raws) (hn : n ≤ 100000) (hn2 : n2 ≤ 100000) :
  Calls Tryz.prog 42 #[.agg #[.int .i64 o, .slice A n c, .int .u32 nx, .int .i64 md, .int .i64 pf, .bool at_, .bool ha, .int .u32 gs, .int .u32 ga, .slice A1 n1 c1, .slice A2 n2 c2]] w fun en w' => en = .returned (.bool (rightAt (⟨o, path, nx, md, pf, at_, ha, gs, ga, comms, raws⟩ : At))) ∧ Below w.heap.size w w' := by
 have HN := Lib.hid hd.len
 have HC := Lib.hid hc
 clear hc
 have HBAD := Lib.hid (show rawsA raws = false → rightAt (⟨o, path, nx, md, pf, at_, ha, gs, ga, comms, raws⟩ : At) = false from fun h => rightAt_no (.inr (.inr (.inr (.inr (.inr (.inr (.inl h))))))))
 obtain ⟨pr, hpr⟩ : ∃ pr, rightA path = pr := ⟨_, rfl⟩
 have HR := Lib.hid (show ∀ w', DL rSeg 2 w' (Lo w') A n path → Calls Tryz.prog 98 #[.slice A n c] w' fun en w'' => en = .returned (.bool pr) ∧ Below w'.heap.size w' w'' from fun w' h => by rw [← hpr]; exact refRight03 A n c path w' h hn)
 have HPR := Lib.hid hpr
 obtain ⟨W, hW, hX, bW⟩ := box1c w #[.int .i64 o, .slice A n c, .int .u32 nx, .int .i64 md, .int .i64 pf, .bool at_, .bool ha, .int .u32 gs, .int .u32 ga, .slice A1 n1 c1, .slice A2 n2 c2] 75
 have hdW := hd.keep rRaw_ok (Kp.call bW)
 have hpW := hp.keep rSeg_ok (Kp.call bW)
 go_enter Tryz.func42, Tryz.ntmps42
 go_upto_region 1 with fail
 try rw [hW]
 clear hW hpr
 have hXl := hX.lt
 obtain ⟨q, hq⟩ : ∃ q, w.heap.size = q := ⟨_, rfl⟩
 have HQ := Lib.hid hq
 rw [hq] at hX hXl
 try rw [hq]
 clear hq
 go_wp2_with fail
 go_loopw [3] (fun i wr => ∃ j : Nat, j ≤ n2 ∧ i = .int .i64 j ∧ Hid (∀ i y, i < j → raws[i]? = some y → badRaw (prevAt raws i) y = false) ∧ Below W.heap.size W wr) (fun i _ => n2 - (intOf i).toNat)
 case atStart => exact ⟨0, by omega, rfl, Lib.hid (fun i y h => by omega), Below.refl _ _⟩
 case round =>
  obtain ⟨j, hj, rfl, HA, hb⟩ := hrel
  have hXr := hX.below hb hXl
  have y10 : wr.cell? ⟨q, 10, none⟩ = some (.slice A2 n2 c2) := hXr.cell 10
  have HBW := Lib.hid (show Below w.heap.size w wr from btr bW hb bW.size)
  by_cases hlt : j < n2
  case neg =>
   have e2 : decide ((j : Int) < n2) = false := decide_eq_false (by omega)
   have HF := Lib.hid (show rawsA raws = true from rawsA_ok fun i x hx => HA.out i x (by have := (List.getElem?_eq_some_iff.1 hx).1; have := HN.out; omega) hx)
   have y0 : wr.cell? ⟨q, 0, none⟩ = some (.int .i64 o) := hXr.cell 0
   have y1 : wr.cell? ⟨q, 1, none⟩ = some (.slice A n c) := hXr.cell 1
   have hpr := hpW.keep rSeg_ok (Kp.call hb)
   have HPW := Lib.hid hpr
   clear hpr
   by_cases c0 : o < 0
   ·have t_c0 : decide (o < 0) = true := decide_eq_true c0
    have HG := Lib.hid (rightAt_no (a := (⟨o, path, nx, md, pf, at_, ha, gs, ga, comms, raws⟩ : At)) (.inl (fun h => by have := h.1; simp only at this; omega)))
    clear c0
    go_wp2_with fail
    go_ret
    exact ⟨ret_b HG.out.symm, HBW.out⟩
   have t_c0 : decide (o < 0) = false := decide_eq_false c0
   by_cases c1 : 2 < o
   ·have t_c1 : decide (2 < o) = true := decide_eq_true c1
    have HG := Lib.hid (rightAt_no (a := (⟨o, path, nx, md, pf, at_, ha, gs, ga, comms, raws⟩ : At)) (.inl (fun h => by have := h.2; simp only at this; omega)))
    clear c0 c1
    go_wp2_with fail
    go_ret
    exact ⟨ret_b HG.out.symm, HBW.out⟩
   have t_c1 : decide (2 < o) = false := decide_eq_false c1
   have HO := Lib.hid (show 0 ≤ o ∧ o ≤ 2 by omega)
   go_wp2_with fail
   refine (HR.out _ HPW.out).mono ?_
   rintro _ w5 ⟨rfl, b5⟩
   have HB5 := Lib.hid (btr HBW.out b5 HBW.out.size)
   have hX5 := hXr.below b5 hXr.lt
   clear y0 y1 y10 c0 c1
   have y10 : w5.cell? ⟨q, 10, none⟩ = some (.slice A2 n2 c2) := hX5.cell 10
   have y9 : w5.cell? ⟨q, 9, none⟩ = some (.slice A1 n1 c1) := hX5.cell 9
   have y3 : w5.cell? ⟨q, 3, none⟩ = some (.int .i64 md) := hX5.cell 3
   have y4 : w5.cell? ⟨q, 4, none⟩ = some (.int .i64 pf) := hX5.cell 4
   have y6 : w5.cell? ⟨q, 6, none⟩ = some (.bool ha) := hX5.cell 6
   have y7 : w5.cell? ⟨q, 7, none⟩ = some (.int .u32 gs) := hX5.cell 7
   have y8 : w5.cell? ⟨q, 8, none⟩ = some (.int .u32 ga) := hX5.cell 8
   cases pr
   ·have HG := Lib.hid (rightAt_no (a := (⟨o, path, nx, md, pf, at_, ha, gs, ga, comms, raws⟩ : At)) (.inr (.inl HPR.out)))
    go_wp2_with fail
    go_ret
    exact ⟨ret_b HG.out.symm, HB5.out⟩
   by_cases c3 : 32 < n1
   ·have t_c3 : decide (32 < n1) = true := decide_eq_true c3
    have u_c3 : decide ((32 : Int) < (n1 : Int)) = true := decide_eq_true (by omega)
    have HG := Lib.hid (rightAt_no (a := (⟨o, path, nx, md, pf, at_, ha, gs, ga, comms, raws⟩ : At)) (.inr (.inr (.inr (.inr (.inr (.inl (by have := HC.out; simp only; omega))))))))
    clear c3
    go_wp2_with fail
    go_ret
    exact ⟨ret_b HG.out.symm, HB5.out⟩
   have t_c3 : decide (32 < n1) = false := decide_eq_false c3
   have u_c3 : decide ((32 : Int) < (n1 : Int)) = false := decide_eq_false (by omega)
   by_cases c4 : 8 < n2
   ·have t_c4 : decide (8 < n2) = true := decide_eq_true c4
    have u_c4 : decide ((8 : Int) < (n2 : Int)) = true := decide_eq_true (by omega)
    have HG := Lib.hid (rightAt_no (a := (⟨o, path, nx, md, pf, at_, ha, gs, ga, comms, raws⟩ : At)) (.inr (.inr (.inr (.inr (.inr (.inr (.inr (by have := HN.out; simp only; omega)))))))))
    clear c3 c4
    go_wp2_with fail
    go_ret
    exact ⟨ret_b HG.out.symm, HB5.out⟩
   have t_c4 : decide (8 < n2) = false := decide_eq_false c4
   have u_c4 : decide ((8 : Int) < (n2 : Int)) = false := decide_eq_false (by omega)
   have HL := Lib.hid (show comms.length ≤ 32 ∧ raws.length ≤ 8 by have h1 := HC.out; have h2 := HN.out; omega)
   clear c3 c4
   by_cases c5 : md < -1
   ·have t_c5 : decide (md < -1) = true := decide_eq_true c5
    have HG := Lib.hid (rightAt_no (a := (⟨o, path, nx, md, pf, at_, ha, gs, ga, comms, raws⟩ : At)) (.inr (.inr (.inl (numA_no (.inl c5))))))
    clear c5
    go_wp2_with fail
    go_ret
    exact ⟨ret_b HG.out.symm, HB5.out⟩
   have t_c5 : decide (md < -1) = false := decide_eq_false c5
   by_cases c6 : 4294967295 < md
   ·have t_c6 : decide (4294967295 < md) = true := decide_eq_true c6
    have HG := Lib.hid (rightAt_no (a := (⟨o, path, nx, md, pf, at_, ha, gs, ga, comms, raws⟩ : At)) (.inr (.inr (.inl (numA_no (.inr c6))))))
    clear c5 c6
    go_wp2_with fail
    go_ret
    exact ⟨ret_b HG.out.symm, HB5.out⟩
   have t_c6 : decide (4294967295 < md) = false := decide_eq_false c6
   have HMD := Lib.hid (numA_yes c5 c6)
   clear c5 c6
   by_cases c7 : pf < -1
   ·have t_c7 : decide (pf < -1) = true := decide_eq_true c7
    have HG := Lib.hid (rightAt_no (a := (⟨o, path, nx, md, pf, at_, ha, gs, ga, comms, raws⟩ : At)) (.inr (.inr (.inr (.inl (numA_no (.inl c7)))))))
    clear c7
    go_wp2_with fail
    go_ret
    exact ⟨ret_b HG.out.symm, HB5.out⟩
   have t_c7 : decide (pf < -1) = false := decide_eq_false c7
   by_cases c8 : 4294967295 < pf
   ·have t_c8 : decide (4294967295 < pf) = true := decide_eq_true c8
    have HG := Lib.hid (rightAt_no (a := (⟨o, path, nx, md, pf, at_, ha, gs, ga, comms, raws⟩ : At)) (.inr (.inr (.inr (.inl (numA_no (.inr c8)))))))
    clear c7 c8
    go_wp2_with fail
    go_ret
    exact ⟨ret_b HG.out.symm, HB5.out⟩
   have t_c8 : decide (4294967295 < pf) = false := decide_eq_false c8
   have HPF := Lib.hid (numA_yes c7 c8)
   clear c7 c8
   cases ha
   case true =>
    have HG := Lib.hid (rightAt_yes (a := ⟨o, path, nx, md, pf, at_, true, gs, ga, comms, raws⟩) HO.out HPR.out HMD.out HPF.out (.inl rfl) HL.out.1 HF.out HL.out.2)
    go_wp2_with fail
    go_ret
    exact ⟨ret_b HG.out.symm, HB5.out⟩
   case false =>
    by_cases g0 : gs = 0
    case neg =>
     have tg : (gs == 0) = false := by simp; omega
     have HG := Lib.hid (rightAt_no (a := ⟨o, path, nx, md, pf, at_, false, gs, ga, comms, raws⟩) (.inr (.inr (.inr (.inr (.inl ⟨rfl, fun h => g0 h.1⟩))))))
     clear g0
     go_wp2_with fail
     go_ret
     exact ⟨ret_b HG.out.symm, HB5.out⟩
    have tg : (gs == 0) = true := by simp; omega
    by_cases g1 : ga = 0
    case neg =>
     have tg1 : (ga == 0) = false := by simp; omega
     have HG := Lib.hid (rightAt_no (a := ⟨o, path, nx, md, pf, at_, false, gs, ga, comms, raws⟩) (.inr (.inr (.inr (.inr (.inl ⟨rfl, fun h => g1 h.2⟩))))))
     clear g0 g1
     go_wp2_with fail
     go_ret
     exact ⟨ret_b HG.out.symm, HB5.out⟩
    have tg1 : (ga == 0) = true := by simp; omega
    have HG := Lib.hid (rightAt_yes (a := ⟨o, path, nx, md, pf, at_, false, gs, ga, comms, raws⟩) HO.out HPR.out HMD.out HPF.out (.inr ⟨g0, g1⟩) HL.out.1 HF.out HL.out.2)
    clear g0 g1
    go_wp2_with fail
    go_ret
    exact ⟨ret_b HG.out.symm, HB5.out⟩
  have e2 : decide ((j : Int) < n2) = true := decide_eq_true (by omega)
  have hlti : (j : Int) < n2 := by omega
  obtain ⟨x, hx⟩ := getL HN.out hlt
  have HX := Lib.hid hx
  obtain ⟨b, off, A', n', c', hA0, hbl, k0w, k1w, k2w, hbf, hnc', wf0, wf1⟩ := hdW.rawAt hx
  subst hA0
  have hbl : b < W.heap.size := hbl
  have HNX := Lib.hid hbf.1
  obtain ⟨fl, ty, dat⟩ := x
  simp only at k0w k1w HNX wf0 wf1
  have k0 := (hb.cell (p := ⟨b, off + j * 3, none⟩) hbl).trans k0w
  have k1 := (hb.cell (p := ⟨b, off + j * 3 + 1, none⟩) hbl).trans k1w
  have k2 := (hb.cell (p := ⟨b, off + j * 3 + 2, none⟩) hbl).trans k2w
  have wj : IntKind.i64.wrap ((j : Int) + 1) = (j : Int) + 1 := IntWalk.i64_in _ ⟨by omega, by omega⟩
  have hj0 : (0 : Int) ≤ (j : Int) := by omega
  go_upto_region 5 with fail
  obtain ⟨w1, hw1, hB1, b1⟩ := box1c wr #[.int .i64 fl, .int .i64 ty, .slice A' n' c'] 168
  rw [hw1]
  clear hw1
  have b01 := btr hb b1 hb.size
  have x0 := hB1.cell 0
  have x1 := hB1.cell 1
  have x2 := hB1.cell 2
  clear hx hbf hnc' k0 k1 k2 k0w k1w k2w
  obtain ⟨kb, hkb⟩ : ∃ kb, knownA ty = kb := ⟨_, rfl⟩
  obtain ⟨fg, hfg⟩ : ∃ fg, flagsA ty = fg := ⟨_, rfl⟩
  have HKN := Lib.hid (show ∀ w', Calls Tryz.prog 97 #[.int .i64 ty] w' fun en w'' => en = .returned (.int .i64 fg) ∧ w' = w'' from fun w' => by rw [← hfg]; exact refFlags04 ty w')
  have tfg : (fg != 0) = kb := by rw [← hkb, ← hfg]; unfold knownA; by_cases h : flagsA ty = 0 <;> simp [h]
  have hX1 := hXr.below b1 hXr.lt
  have y10' : w1.cell? ⟨q, 10, none⟩ = some (.slice (some ⟨b, off, none⟩) n2 c2) := hX1.cell 10
  clear hfg
  have HKB := Lib.hid hkb
  clear hkb wf0 wf1
  by_cases c1 : ty < 0
  ·have t1 : decide (ty < 0) = true := decide_eq_true c1
   have HG := Lib.hid (HBAD.out (rawsA_bad HX.out (bad_of (.inl c1))))
   clear c1
   go_quiet (fail)
   go_wp2_with fail
   go_ret
   exact ⟨ret_b HG.out.symm, btr bW (below_drewN b01 _) bW.size⟩
  have t1 : decide (ty < 0) = false := decide_eq_false c1
  by_cases c2 : 255 < ty
  ·have t2 : decide (255 < ty) = true := decide_eq_true c2
   have HG := Lib.hid (HBAD.out (rawsA_bad HX.out (bad_of (.inr (.inl c2)))))
   clear c1 c2
   go_quiet (fail)
   go_wp2_with fail
   go_ret
   exact ⟨ret_b HG.out.symm, btr bW (below_drewN b01 _) bW.size⟩
  have t2 : decide (255 < ty) = false := decide_eq_false c2
  cases kb
  case true =>
   have HG := Lib.hid (HBAD.out (rawsA_bad HX.out (bad_of (.inr (.inr (.inl HKB.out))))))
   clear c1 c2
   go_quiet ((go_at_call 97; exact quiet_left (HKN.out _)))
   go_wp2_with fail
   go_ret
   exact ⟨ret_b HG.out.symm, btr bW (below_drewN b01 _) bW.size⟩
  by_cases c4 : fl = 224
  case neg =>
   have t4 : (fl != 224) = true := by simp; omega
   have HG := Lib.hid (HBAD.out (rawsA_bad HX.out (bad_of (.inr (.inr (.inr (.inl c4)))))))
   clear c1 c2 c4
   go_quiet ((go_at_call 97; exact quiet_left (HKN.out _)))
   go_wp2_with fail
   go_ret
   exact ⟨ret_b HG.out.symm, btr bW (below_drewN b01 _) bW.size⟩
  have t4 : (fl != 224) = false := by simp; omega
  by_cases c5 : 64 < n'
  ·have t5 : decide ((64 : Int) < (n' : Int)) = true := decide_eq_true (by omega)
   have t5' : decide (64 < n') = true := decide_eq_true c5
   have HG := Lib.hid (HBAD.out (rawsA_bad HX.out (bad_of (.inr (.inr (.inr (.inr (by have := HNX.out; simp only at this ⊢; omega))))))))
   clear c1 c2 c4 c5
   go_quiet ((go_at_call 97; exact quiet_left (HKN.out _)))
   go_wp2_with fail
   go_ret
   exact ⟨ret_b HG.out.symm, btr bW (below_drewN b01 _) bW.size⟩
  have t5 : decide ((64 : Int) < (n' : Int)) = false := decide_eq_false (by omega)
  have t5' : decide (64 < n') = false := decide_eq_false c5
  have HNB := Lib.hid (show ¬ (ty < 0 ∨ 255 < ty ∨ knownA ty = true ∨ fl ≠ 224 ∨ 64 < dat.length) by
   have h1 := HNX.out
   have h2 := HKB.out
   rintro (h | h | h | h | h)
   ·exact c1 h
   ·exact c2 h
   ·rw [h2] at h; cases h
   ·exact h c4
   ·omega)
  by_cases c6 : j = 0
  ·have t6 : decide ((0 : Int) < (j : Int)) = false := decide_eq_false (by omega)
   have t6' : decide (0 < j) = false := decide_eq_false (by omega)
   have HS := Lib.hid (fine_step HA.out HX.out (by rw [show prevAt raws j = none by unfold prevAt; rw [if_pos c6]]; exact good_first HNB.out))
   clear c1 c2 c4 c5 c6
   go_quiet ((go_at_call 97; exact quiet_left (HKN.out _)))
   go_wp2_with fail
   go_roundw
   case rel => exact ⟨j + 1, by omega, by go_num, HS, below_drewN b01 _⟩
   case measure => simp [intOf]; omega
  have t6 : decide ((0 : Int) < (j : Int)) = true := decide_eq_true (by omega)
  have t6' : decide (0 < j) = true := decide_eq_true (by omega)
  obtain ⟨y, hy⟩ := getL (j := j - 1) HN.out (by omega)
  have HY := Lib.hid hy
  obtain ⟨b', off', A4, n4, c4', hAe, hbl', _, q1w, _, _, _, _, _⟩ := hdW.rawAt hy
  injection hAe with hAe
  injection hAe with hA1 hA2 hA3
  subst hA1 hA2
  clear hA3
  obtain ⟨pt, hpt⟩ : ∃ pt, y.2.1 = pt := ⟨_, rfl⟩
  have HPT := Lib.hid hpt
  rw [hpt] at q1w
  have q1 := (b01.cell (p := ⟨b, off + (j - 1) * 3 + 1, none⟩) hbl).trans q1w
  have wp : IntKind.i64.wrap ((j : Int) - 1) = ((j - 1 : Nat) : Int) := by rw [show ((j - 1 : Nat) : Int) = (j : Int) - 1 by omega]; exact IntWalk.i64_in _ ⟨by omega, by omega⟩
  have hjm : ((j - 1 : Nat) : Int) < (n2 : Int) := by omega
  have hjm0 : (0 : Int) ≤ ((j - 1 : Nat) : Int) := by omega
  have HJ := Lib.hid (show 0 < j by omega)
  clear hy hpt q1w
  by_cases c7 : ty ≤ pt
  ·have t7 : decide (ty ≤ pt) = true := decide_eq_true c7
   have HG := Lib.hid (HBAD.out (rawsA_bad HX.out (by rw [prevAt_succ HJ.out, HY.out]; exact bad_prev (by rw [HPT.out]; exact c7))))
   clear c1 c2 c4 c5 c6 c7
   go_quiet ((go_at_call 97; exact quiet_left (HKN.out _)))
   go_wp2_with fail
   go_ret
   exact ⟨ret_b HG.out.symm, btr bW (below_drewN b01 _) bW.size⟩
  ·have t7 : decide (ty ≤ pt) = false := decide_eq_false c7
   have HS := Lib.hid (fine_step HA.out HX.out (by rw [prevAt_succ HJ.out, HY.out]; exact good_next HNB.out (by rw [HPT.out]; exact c7)))
   clear c1 c2 c4 c5 c6 c7
   go_quiet ((go_at_call 97; exact quiet_left (HKN.out _)))
   go_wp2_with fail
   go_roundw
   case rel => exact ⟨j + 1, by omega, by go_num, HS, below_drewN b01 _⟩
   case measure => simp [intOf]; omega
end Go.Proofs.YthgjknmfghjioaaGreatDoor
