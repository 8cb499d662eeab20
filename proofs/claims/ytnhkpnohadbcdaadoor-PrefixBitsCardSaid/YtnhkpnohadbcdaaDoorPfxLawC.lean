/- The walk of the law PrefixBits. Conditions: the table of digits (DigTab). -/
import Derived.Test.YtnhkpnohadbcdaaDoorProg
import Derived.WalkKit
import Derived.WalkSpells
import Derived.WalkLawsBesides
import Derived.Outline
import Derived.Deep.QuietTactic
import Derived.BigQuiet
import Derived.Handy
import Derived.Lib.Hide
import Derived.Deep.RegionHeld3
import Derived.Test.YtnhkpnohadbcdaaDoorPfxPut
import Derived.Test.YtnhkpnohadbcdaaDoorPfxU
namespace Go.Proofs.YtnhkpnohadbcdaaDoor
open Go.RowKit
set_option maxHeartbeats 16000000 in
set_option maxRecDepth 100000 in
theorem lawPrefixBits (w : World) (x : Int) (hx : (Lit.int .u32 x).wf = true) (n : Int) (_ : (Lit.int .i64 n).wf = true) (a : Nat) (m : Int) (ha : a < 4294967296) (_ : (Lit.int .i64 m).wf = true) (ht : DigTab w) :
    Calls Tryd.prog 6 #[.int .u32 x, .int .i64 n, .agg #[.int .u32 a, .int .i64 m]] w fun en w' => en = .returned (.bool true) ∧ Below w.heap.size w w' := by
  have h2 : 0 ≤ x ∧ x ≤ 4294967295 := by simpa [Lit.wf, IntKind.min, IntKind.max, IntKind.signed, IntKind.bits] using hx
  obtain ⟨x, rfl⟩ := Int.eq_ofNat_of_zero_le h2.1
  have hxl : x < 4294967296 := by omega
  have hB := Blk.new w 24 #[.int .u32 a, .int .i64 m]
  have b0 := (Below.refl w.heap.size w).alloc (Nat.le_refl _) (.cells #[.int .u32 a, .int .i64 m] 24)
  obtain ⟨M, hM⟩ : ∃ M, maskN n = M := ⟨_, rfl⟩
  obtain ⟨I, hI⟩ : ∃ I, bitN x n = I := ⟨_, rfl⟩
  obtain ⟨N, hN⟩ : ∃ N, normN x n = N := ⟨_, rfl⟩
  obtain ⟨C, hC⟩ : ∃ C, cl n = C := ⟨_, rfl⟩
  obtain ⟨R, hR⟩ : ∃ R, pRight a m = R := ⟨_, rfl⟩
  have hNl : N < 4294967296 := by rw [← hN]; exact Nat.lt_of_le_of_lt (normN_le x n) hxl
  have hRN : pRight N (C : Int) = true := by rw [← hN, ← hC]; exact right_normN x n
  have HM := Lib.hid hM
  have HI := Lib.hid hI
  have HN := Lib.hid hN
  have HC := Lib.hid hC
  have HR := Lib.hid hR
  have HRN := Lib.hid hRN
  clear hM hI hN hC hR hRN h2 hx
  go_enter Tryd.func6, Tryd.ntmps6
  go_wp2_with fail
  obtain ⟨W, hW⟩ : ∃ W, w.alloc (.cells #[.int .u32 a, .int .i64 m] 24) = W := ⟨_, rfl⟩
  rw [hW] at hB b0
  rw [hW]
  clear hW
  have hgl := hB.lt
  have c0 : W.cell? ⟨w.heap.size, 0, none⟩ = some (.int .u32 a) := hB.cell 0
  have c1 : W.cell? ⟨w.heap.size, 1, none⟩ = some (.int .i64 m) := hB.cell 1
  have t0 := ht.call b0
  go_region_held3 (fun w' => Below W.heap.size W w' ∧ w'.cell? ⟨w.heap.size, 0, none⟩ = some (.int .u32 a) ∧ w'.cell? ⟨w.heap.size, 1, none⟩ = some (.int .i64 m))
    (first | (refine keep2c hgl b7 ?_; assumption) | (refine keep2c hgl b6 ?_; assumption) | (refine keep2c hgl b5 ?_; assumption) | (refine keep2c hgl b4 ?_; assumption) | (refine keep2c hgl b3 ?_; assumption) | (refine keep2c hgl b2 ?_; assumption) | (refine keep2c hgl b1 ?_; assumption) | ((repeat' apply And.intro) <;> first | (with_reducible exact Below.drew (Below.refl _ _)) | (with_reducible assumption) | go_keep))
    (first
      | (go_at_call 30; refine (prefixMask n _).mono ?_; rw [HM.out]; rintro _ _ ⟨rfl, rfl⟩)
      | (go_at_call 31; refine (refMask n _).mono ?_; rw [HM.out]; rintro _ _ ⟨rfl, rfl⟩)
      | (go_at_call 32; refine (prefixBit x hxl n _).mono ?_; rw [HI.out]; rintro _ _ ⟨rfl, rfl⟩)
      | (go_at_call 33; refine (refBit x hxl n _).mono ?_; rw [HI.out]; rintro _ _ ⟨rfl, rfl⟩)
      | (go_at_call 34; refine (prefixNorm x hxl n _).mono ?_; rw [HN.out, HC.out]; rintro _ w1 ⟨rfl, b1⟩)
      | (go_at_call 35; refine (refNorm x hxl n _).mono ?_; rw [HN.out, HC.out]; rintro _ w2 ⟨rfl, b2⟩)
      | (go_at_call 36; refine (refRight a ha m _).mono ?_; rw [HR.out]; rintro _ w4 ⟨rfl, b4⟩)
      | (go_at_call 24; refine (prefixRight _ (by with_reducible assumption) _ _).mono ?_; (first | rw [HR.out] | rw [HRN.out]); rintro _ w3 ⟨rfl, b3⟩)
      | (go_at_call 25; refine (awake02 _ (t0.call (And.left (by with_reducible assumption)))).mono ?_; rintro _ w7 ⟨rfl, b7⟩))
  all_goals
    rename_i hH
    try go_wp2_with fail
    go_ret
    exact ⟨rfl, btr b0 hH.1 b0.size⟩
end Go.Proofs.YtnhkpnohadbcdaaDoor
