/- Walks of layer 2 (prefix): Mask, Bit, Right, Norm. No conditions. -/
import Derived.Test.YtnhkpnohadbcdaaDoorProg
import Derived.WalkKit
import Derived.WalkSpells
import Derived.WalkLawsBesides
import Derived.Outline
import Derived.Deep.QuietTactic
import Derived.BigQuiet
import Derived.Handy
import Derived.Lib.Hide
import Derived.Deep.RegionHeld3
import Derived.Laws.ResultCell
import Derived.Test.YtnhkpnohadbcdaaDoorPfxPlain
namespace Go.Proofs.YtnhkpnohadbcdaaDoor
open Go.RowKit
theorem shl_fin : ∀ k : Fin 32, (4294967295 * 2 ^ (k.val + 1) % 4294967296 : Nat) = 2 ^ 32 - 2 ^ (k.val + 1) ∨ k.val = 31 := by decide +kernel
theorem shl_mask {n : Int} (h0 : 0 < n) (h1 : n < 32) : (4294967295 * 2 ^ (32 - n).toNat % 4294967296 : Int) = (maskN n : Nat) := by
  obtain ⟨m, rfl⟩ := Int.eq_ofNat_of_zero_le (show 0 ≤ n by omega)
  have e : ((32 : Int) - m).toNat = 31 - m + 1 := by omega
  have h := shl_fin ⟨31 - m, by omega⟩
  simp only at h
  rw [e, maskN, cl_nat (by omega), show 32 - m = 31 - m + 1 by omega]
  rcases h with h | h
  · rw [← h]; simp
  · omega
theorem u32_and_nat (a b : Nat) (ha : a < 4294967296) (hb : b < 4294967296) : bits .and .u32 (a : Int) (b : Int) = ((a &&& b : Nat) : Int) := by
  have hx : a &&& b < 2 ^ 32 := Nat.and_lt_two_pow _ (by omega)
  have e1 : (BitVec.ofInt 32 (a : Int)).toNat = a := by rw [BitVec.ofInt_natCast, BitVec.toNat_ofNat]; exact Nat.mod_eq_of_lt (by omega)
  have e2 : (BitVec.ofInt 32 (b : Int)).toNat = b := by rw [BitVec.ofInt_natCast, BitVec.toNat_ofNat]; exact Nat.mod_eq_of_lt (by omega)
  show IntKind.u32.wrap ((BitVec.ofInt 32 (a : Int) &&& BitVec.ofInt 32 (b : Int)).toNat : Int) = _
  rw [BitVec.toNat_and, e1, e2]
  show ((a &&& b : Nat) : Int) % (2 ^ 32) = _
  omega
theorem bv_andNot (x y : BitVec 32) : x &&& ~~~y = x ^^^ (x &&& y) := by
  apply BitVec.eq_of_getLsbD_eq
  intro i hi
  simp only [BitVec.getLsbD_and, BitVec.getLsbD_not, BitVec.getLsbD_xor, hi, decide_true, Bool.true_and]
  cases x.getLsbD i <;> cases y.getLsbD i <;> rfl
theorem u32_andNot (a b : Nat) (ha : a < 4294967296) (hb : b < 4294967296) : bits .andNot .u32 (a : Int) (b : Int) = ((a ^^^ (a &&& b) : Nat) : Int) := by
  have hx : a ^^^ (a &&& b) < 2 ^ 32 := Nat.xor_lt_two_pow (by omega) (Nat.and_lt_two_pow _ (by omega))
  have e1 : (BitVec.ofInt 32 (a : Int)).toNat = a := by rw [BitVec.ofInt_natCast, BitVec.toNat_ofNat]; exact Nat.mod_eq_of_lt (by omega)
  have e2 : (BitVec.ofInt 32 (b : Int)).toNat = b := by rw [BitVec.ofInt_natCast, BitVec.toNat_ofNat]; exact Nat.mod_eq_of_lt (by omega)
  show IntKind.u32.wrap ((BitVec.ofInt 32 (a : Int) &&& ~~~(BitVec.ofInt 32 (b : Int))).toNat : Int) = _
  rw [bv_andNot, BitVec.toNat_xor, BitVec.toNat_and, e1, e2]
  show ((a ^^^ (a &&& b) : Nat) : Int) % (2 ^ 32) = _
  omega
theorem u32_xor_nat (a b : Nat) (ha : a < 4294967296) (hb : b < 4294967296) : bits .xor .u32 (a : Int) (b : Int) = ((a ^^^ b : Nat) : Int) := by
  have hx : a ^^^ b < 2 ^ 32 := Nat.xor_lt_two_pow (by omega) (by omega)
  have e1 : (BitVec.ofInt 32 (a : Int)).toNat = a := by rw [BitVec.ofInt_natCast, BitVec.toNat_ofNat]; exact Nat.mod_eq_of_lt (by omega)
  have e2 : (BitVec.ofInt 32 (b : Int)).toNat = b := by rw [BitVec.ofInt_natCast, BitVec.toNat_ofNat]; exact Nat.mod_eq_of_lt (by omega)
  show IntKind.u32.wrap ((BitVec.ofInt 32 (a : Int) ^^^ BitVec.ofInt 32 (b : Int)).toNat : Int) = _
  rw [BitVec.toNat_xor, e1, e2]
  show ((a ^^^ b : Nat) : Int) % (2 ^ 32) = _
  omega
set_option maxHeartbeats 1000000 in
theorem prefixMask (n : Int) (w : World) :
    Calls Tryd.prog 30 #[.int .i64 n] w fun en w' => en = .returned (.int .u32 (maskN n)) ∧ w = w' := by
  by_cases h0 : n ≤ 0
  · have e : maskN n = 0 := by
      have : cl n = 0 := by unfold cl; split <;> (try split) <;> omega
      rw [maskN, this]
    rw [e]
    go_enter Tryd.func30, Tryd.ntmps30
    go_wp2_with fail
    go_ret
    exact ⟨rfl, rfl⟩
  · by_cases h1 : 32 ≤ n
    · have e : maskN n = 4294967295 := by
        have : cl n = 32 := by unfold cl; split <;> (try split) <;> omega
        rw [maskN, this]
      rw [e]
      go_enter Tryd.func30, Tryd.ntmps30
      go_wp2_with fail
      go_ret
      exact ⟨rfl, rfl⟩
    · go_enter Tryd.func30, Tryd.ntmps30
      go_wp2_with fail
      rw [shl_mask (by omega) (by omega)]
      go_ret
      exact ⟨rfl, rfl⟩
set_option maxHeartbeats 1000000 in
theorem prefixBit (a : Nat) (ha : a < 4294967296) (i : Int) (w : World) :
    Calls Tryd.prog 32 #[.int .u32 a, .int .i64 i] w fun en w' => en = .returned (.int .i64 (bitN a i)) ∧ w = w' := by
  by_cases h0 : i < 0
  · have e : bitN a i = 0 := by unfold bitN; rw [if_pos (.inl h0)]
    rw [e]
    go_enter Tryd.func32, Tryd.ntmps32
    go_wp2_with fail
    go_ret
    exact ⟨rfl, rfl⟩
  · by_cases h1 : 32 ≤ i
    · have e : bitN a i = 0 := by unfold bitN; rw [if_pos (.inr (by omega))]
      rw [e]
      go_enter Tryd.func32, Tryd.ntmps32
      go_wp2_with fail
      go_ret
      exact ⟨rfl, rfl⟩
    · go_enter Tryd.func32, Tryd.ntmps32
      go_wp2_with fail
      have e : wrap64 (bits BinOp.and IntKind.u32 ((a : Int) / 2 ^ (31 - i).toNat) 1) = (bitN a i : Nat) := by
        obtain ⟨m, rfl⟩ := Int.eq_ofNat_of_zero_le (show 0 ≤ i by omega)
        have h1 : ((a : Int) / 2 ^ ((31 : Int) - m).toNat) = ((a / 2 ^ (31 - m) : Nat) : Int) := by
          rw [show ((31 : Int) - m).toNat = 31 - m by omega]; simp
        have h2 : a / 2 ^ (31 - m) ≤ a := Nat.div_le_self _ _
        have h3 := u32_and_nat (a / 2 ^ (31 - m)) 1 (by omega) (by omega)
        rw [h1, show (1 : Int) = ((1 : Nat) : Int) from rfl, h3, Nat.and_one_is_mod, bitN, if_neg (by omega)]
        simp only [Int.toNat_natCast]
        have : a / 2 ^ (31 - m) % 2 < 2 := Nat.mod_lt _ (by omega)
        generalize a / 2 ^ (31 - m) % 2 = z at *
        unfold wrap64
        omega
      rw [e]
      go_ret
      exact ⟨rfl, rfl⟩
set_option maxHeartbeats 1000000 in
set_option maxRecDepth 100000 in
theorem prefixRight (a : Nat) (ha : a < 4294967296) (n : Int) (w : World) :
    Calls Tryd.prog 24 #[.agg #[.int .u32 a, .int .i64 n]] w fun en w' => en = .returned (.bool (pRight a n)) ∧ Below w.heap.size w w' := by
  have hB := Blk.new w 24 #[.int .u32 a, .int .i64 n]
  have c0 := hB.cell 0
  have c1 := hB.cell 1
  have b0 := (Below.refl w.heap.size w).alloc (Nat.le_refl _) (.cells #[.int .u32 a, .int .i64 n] 24)
  by_cases h0 : n < 0
  · have e : pRight a n = false := by unfold pRight; exact decide_eq_false (by omega)
    rw [e]
    have hd : decide (0 ≤ n) = false := decide_eq_false (by omega)
    go_enter Tryd.func24, Tryd.ntmps24
    go_wp2_with fail
    go_quiet (fail)
    go_wp2_with fail
    go_ret
    exact ⟨rfl, below_drewN b0 _⟩
  · by_cases h1 : 32 < n
    · have e : pRight a n = false := by unfold pRight; exact decide_eq_false (by omega)
      rw [e]
      have hd : decide (n ≤ 32) = false := decide_eq_false (by omega)
      go_enter Tryd.func24, Tryd.ntmps24
      go_wp2_with fail
      go_quiet (fail)
      go_wp2_with fail
      go_ret
      exact ⟨rfl, below_drewN b0 _⟩
    · go_enter Tryd.func24, Tryd.ntmps24
      go_wp2_with fail
      go_quiet ((go_at_call 30; exact quiet_left (prefixMask n _)))
      go_wp2_with fail
      have e1 : (bits BinOp.andNot IntKind.u32 (a : Int) (maskN n : Nat) == 0) = pRight a n := by
        rw [u32_andNot a _ ha (maskN_lt n), and_maskN a n ha, pRight]
        rw [Bool.eq_iff_iff, beq_iff_eq, decide_eq_true_iff]
        constructor
        · intro h
          exact ⟨by omega, by omega, (xor_zero (by exact_mod_cast h)).symm⟩
        · rintro ⟨_, _, h⟩
          rw [h, Nat.xor_self]
          rfl
      rw [e1]
      go_ret
      exact ⟨rfl, below_drewN b0 _⟩
theorem pfx_info : (Tryd.prog.info? 24).map (·.size) = some 2 := by kernel_rfl
/-- The result of a function that hands back a prefix out of a cell. -/
theorem pfx_ret {fn : Func} {p : Tmp} (h : fn.results = #[.cell p 24]) (tmps : Array Value) (w : World) (g : Nat) (x y : Value)
    (hp : tmps.getD p undef = .pointer (some ⟨g, 0, none⟩)) (hB : Blk w g 24 #[x, y]) :
    (results fn tmps).run Tryd.prog w = .ok (.agg #[x, y]) w :=
  results_cell_row h tmps w g 24 #[x, y] (0, 0) _ hp hB Tryd.underlying24 rfl pfx_info
set_option maxHeartbeats 1000000 in
set_option maxRecDepth 100000 in
theorem prefixNorm (a : Nat) (ha : a < 4294967296) (n : Int) (w : World) :
    Calls Tryd.prog 34 #[.int .u32 a, .int .i64 n] w fun en w' => en = .returned (.agg #[.int .u32 (normN a n), .int .i64 (cl n)]) ∧ Below w.heap.size w w' := by
  have hB := Blk.new w 24 #[.int .u32 0, .int .i64 0]
  have f0 := hB.frozen 0
  have f1 := hB.frozen 1
  have c0 := hB.cell 0
  have c1 := hB.cell 1
  have b0 := (Below.refl w.heap.size w).alloc (Nat.le_refl _) (.cells #[.int .u32 0, .int .i64 0] 24)
  by_cases h0 : n < 0
  · have hC0 : cl n = cl 0 := by unfold cl; simp [h0]
    have hC : ((cl n : Nat) : Int) = 0 := by rw [hC0]; rfl
    have hN : normN a 0 = normN a n := by unfold normN; rw [hC0]
    have e1 := u32_and_nat a (maskN 0) ha (maskN_lt _)
    rw [and_maskN a _ ha, hN] at e1
    go_enter Tryd.func34, Tryd.ntmps34
    go_wp2_with fail
    refine (prefixMask 0 _).mono ?_
    rintro _ _ ⟨rfl, rfl⟩
    go_wp2_with fail
    refine bodyPost_ret (pfx_ret rfl _ _ w.heap.size (.int .u32 (normN a n)) (.int .i64 (cl n)) rfl ?_) rfl ?_
    · rw [hC]
      exact Blk.new w _ _
    · exact ⟨rfl, (Below.refl _ _).alloc (Nat.le_refl _) _⟩
  · by_cases h1 : 32 < n
    · have hC0 : cl n = cl 32 := by unfold cl; simp [h0, h1]
      have hC : ((cl n : Nat) : Int) = 32 := by rw [hC0]; rfl
      have hN : normN a 32 = normN a n := by unfold normN; rw [hC0]
      have e1 := u32_and_nat a (maskN 32) ha (maskN_lt _)
      rw [and_maskN a _ ha, hN] at e1
      go_enter Tryd.func34, Tryd.ntmps34
      go_wp2_with fail
      refine (prefixMask 32 _).mono ?_
      rintro _ _ ⟨rfl, rfl⟩
      go_wp2_with fail
      refine bodyPost_ret (pfx_ret rfl _ _ w.heap.size (.int .u32 (normN a n)) (.int .i64 (cl n)) rfl ?_) rfl ?_
      · rw [hC]
        exact Blk.new w _ _
      · exact ⟨rfl, (Below.refl _ _).alloc (Nat.le_refl _) _⟩
    · have hC : ((cl n : Nat) : Int) = n := by rw [cl_of (by omega) (by omega)]; omega
      have hN : normN a n = normN a n := rfl
      have e1 := u32_and_nat a (maskN n) ha (maskN_lt _)
      rw [and_maskN a _ ha, hN] at e1
      go_enter Tryd.func34, Tryd.ntmps34
      go_wp2_with fail
      refine (prefixMask n _).mono ?_
      rintro _ _ ⟨rfl, rfl⟩
      go_wp2_with fail
      refine bodyPost_ret (pfx_ret rfl _ _ w.heap.size (.int .u32 (normN a n)) (.int .i64 (cl n)) rfl ?_) rfl ?_
      · rw [hC]
        exact Blk.new w _ _
      · exact ⟨rfl, (Below.refl _ _).alloc (Nat.le_refl _) _⟩
end Go.Proofs.YtnhkpnohadbcdaaDoor
