/- The walk of the law PrefixCovers. Conditions: the table of digits (DigTab). -/
import Derived.Test.YtnhkpnohadbcdaaDoorProg
import Derived.WalkKit
import Derived.WalkSpells
import Derived.WalkLawsBesides
import Derived.Outline
import Derived.Deep.QuietTactic
import Derived.BigQuiet
import Derived.Handy
import Derived.Lib.Hide
import Derived.Deep.RegionHeld3
import Derived.Test.YtnhkpnohadbcdaaDoorPfxPut
import Derived.Test.YtnhkpnohadbcdaaDoorPfxU
namespace Go.Proofs.YtnhkpnohadbcdaaDoor
open Go.RowKit
theorem prefixCommon (a : Nat) (ha : a < 4294967296) (n : Int) (b : Nat) (hb : b < 4294967296) (m : Int) (w : World) :
    Calls Tryd.prog 41 #[.agg #[.int .u32 a, .int .i64 n], .agg #[.int .u32 b, .int .i64 m]] w fun en w' => en = .returned (.agg #[.int .u32 (commA a n b m), .int .i64 (comm a n b m)]) ∧ Below w.heap.size w w' := by
  unfold commA comm
  by_cases h : pRight a n = true ∧ pRight b m = true
  · obtain ⟨k, rfl, hk, _⟩ := pRight_of h.1
    obtain ⟨j, rfl, hj, _⟩ := pRight_of h.2
    rw [if_pos h, if_pos h, Int.toNat_natCast, Int.toNat_natCast]
    exact prefixCommon_yes a ha k b hb j hk hj w h.1 h.2
  · rw [if_neg h, if_neg h]
    exact prefixCommon_no a ha n b hb m w h
theorem ref02Common (a : Nat) (ha : a < 4294967296) (n : Int) (b : Nat) (hb : b < 4294967296) (m : Int) (w : World) :
    Calls Tryd.prog 42 #[.agg #[.int .u32 a, .int .i64 n], .agg #[.int .u32 b, .int .i64 m]] w fun en w' => en = .returned (.agg #[.int .u32 (commA a n b m), .int .i64 (comm a n b m)]) ∧ Below w.heap.size w w' := by
  unfold commA comm
  by_cases h : pRight a n = true ∧ pRight b m = true
  · obtain ⟨k, rfl, hk, _⟩ := pRight_of h.1
    obtain ⟨j, rfl, hj, _⟩ := pRight_of h.2
    rw [if_pos h, if_pos h, Int.toNat_natCast, Int.toNat_natCast]
    exact ref02Common_yes a ha k b hb j hk hj w h.1 h.2
  · rw [if_neg h, if_neg h]
    exact ref02Common_no a ha n b hb m w h
theorem keep22 {w W W' : World} {g : Nat} {x y u v : Value} (hg : g + 1 < w.heap.size) (hb : Below W.heap.size W W') (h : Below w.heap.size w W ∧ W.cell? ⟨g, 0, none⟩ = some x ∧ W.cell? ⟨g, 1, none⟩ = some y ∧ W.cell? ⟨g + 1, 0, none⟩ = some u ∧ W.cell? ⟨g + 1, 1, none⟩ = some v) :
    Below w.heap.size w W' ∧ W'.cell? ⟨g, 0, none⟩ = some x ∧ W'.cell? ⟨g, 1, none⟩ = some y ∧ W'.cell? ⟨g + 1, 0, none⟩ = some u ∧ W'.cell? ⟨g + 1, 1, none⟩ = some v :=
  have hs := h.1.size
  ⟨btr h.1 hb hs, (hb.cell (show g < _ by omega)).trans h.2.1, (hb.cell (show g < _ by omega)).trans h.2.2.1, (hb.cell (show g + 1 < _ by omega)).trans h.2.2.2.1, (hb.cell (show g + 1 < _ by omega)).trans h.2.2.2.2⟩
set_option maxHeartbeats 16000000 in
set_option maxRecDepth 100000 in
theorem lawPrefixCovers (w : World) (a : Nat) (n : Int) (ha : a < 4294967296) (_ : (Lit.int .i64 n).wf = true) (b : Nat) (m : Int) (hb : b < 4294967296) (_ : (Lit.int .i64 m).wf = true) (x : Int) (hx : (Lit.int .u32 x).wf = true) (ht : DigTab w) :
    Calls Tryd.prog 7 #[.agg #[.int .u32 a, .int .i64 n], .agg #[.int .u32 b, .int .i64 m], .int .u32 x] w fun en w' => en = .returned (.bool true) ∧ Below w.heap.size w w' := by
  have h2 : 0 ≤ x ∧ x ≤ 4294967295 := by simpa [Lit.wf, IntKind.min, IntKind.max, IntKind.signed, IntKind.bits] using hx
  obtain ⟨x, rfl⟩ := Int.eq_ofNat_of_zero_le h2.1
  have hxl : x < 4294967296 := by omega
  obtain ⟨H, hH⟩ : ∃ H, pHolds a n x = H := ⟨_, rfl⟩
  obtain ⟨V, hV⟩ : ∃ V, pCovers a n b m = V := ⟨_, rfl⟩
  obtain ⟨P, hP⟩ : ∃ P, pCmp a n b m = P := ⟨_, rfl⟩
  obtain ⟨A, hA⟩ : ∃ A, commA a n b m = A := ⟨_, rfl⟩
  obtain ⟨C, hC⟩ : ∃ C, comm a n b m = C := ⟨_, rfl⟩
  have HH := Lib.hid hH
  have HV := Lib.hid hV
  have HP := Lib.hid hP
  have HA := Lib.hid hA
  have HC := Lib.hid hC
  clear hH hV hP hA hC h2 hx
  go_enter Tryd.func7, Tryd.ntmps7
  go_wp2_with fail
  obtain ⟨W, hW, hB, hD, b0⟩ := box2 w (.int .u32 a) (.int .i64 n) (.int .u32 b) (.int .i64 m)
  rw [hW]
  clear hW
  have hgl := hD.lt
  have c0 : W.cell? ⟨w.heap.size, 0, none⟩ = some (.int .u32 a) := hB.cell 0
  have c1 : W.cell? ⟨w.heap.size, 1, none⟩ = some (.int .i64 n) := hB.cell 1
  have d0 : W.cell? ⟨w.heap.size + 1, 0, none⟩ = some (.int .u32 b) := hD.cell 0
  have d1 : W.cell? ⟨w.heap.size + 1, 1, none⟩ = some (.int .i64 m) := hD.cell 1
  have t0 := ht.call b0
  go_region_held3 (fun w' => Below W.heap.size W w' ∧ w'.cell? ⟨w.heap.size, 0, none⟩ = some (.int .u32 a) ∧ w'.cell? ⟨w.heap.size, 1, none⟩ = some (.int .i64 n) ∧ w'.cell? ⟨w.heap.size + 1, 0, none⟩ = some (.int .u32 b) ∧ w'.cell? ⟨w.heap.size + 1, 1, none⟩ = some (.int .i64 m))
    (first | (refine keep22 hgl b9 ?_; assumption) | (refine keep22 hgl b8 ?_; assumption) | (refine keep22 hgl b7 ?_; assumption) | (refine keep22 hgl b6 ?_; assumption) | (refine keep22 hgl b5 ?_; assumption) | (refine keep22 hgl b4 ?_; assumption) | (refine keep22 hgl b3 ?_; assumption) | (refine keep22 hgl b2 ?_; assumption) | (refine keep22 hgl b1 ?_; assumption) | ((repeat' apply And.intro) <;> first | (with_reducible exact Below.drew (Below.refl _ _)) | (with_reducible assumption) | go_keep))
    (first
      | (go_at_call 37; refine (prefixHolds a ha n x hxl _).mono ?_; rw [HH.out]; rintro _ w1 ⟨rfl, b1⟩)
      | (go_at_call 38; refine (ref02Holds a ha n x hxl _).mono ?_; rw [HH.out]; rintro _ w2 ⟨rfl, b2⟩)
      | (go_at_call 29; refine (prefixCovers a ha n b hb m _).mono ?_; rw [HV.out]; rintro _ w3 ⟨rfl, b3⟩)
      | (go_at_call 39; refine (ref02Covers a ha n b hb m _).mono ?_; rw [HV.out]; rintro _ w4 ⟨rfl, b4⟩)
      | (go_at_call 28; refine (prefixCompare a n b m _).mono ?_; rw [HP.out]; rintro _ w5 ⟨rfl, b5⟩)
      | (go_at_call 40; refine (ref02Compare a n b m _).mono ?_; rw [HP.out]; rintro _ w6 ⟨rfl, b6⟩)
      | (go_at_call 41; refine (prefixCommon a ha n b hb m _).mono ?_; rw [HA.out, HC.out]; rintro _ w7 ⟨rfl, b7⟩)
      | (go_at_call 42; refine (ref02Common a ha n b hb m _).mono ?_; rw [HA.out, HC.out]; rintro _ w8 ⟨rfl, b8⟩)
      | (go_at_call 25; refine (awake02 _ (t0.call (And.left (by with_reducible assumption)))).mono ?_; rintro _ w9 ⟨rfl, b9⟩))
  all_goals
    rename_i hH
    try go_wp2_with fail
    go_ret
    exact ⟨rfl, btr b0 hH.1 b0.size⟩
end Go.Proofs.YtnhkpnohadbcdaaDoor
