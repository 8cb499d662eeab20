/- Walks of layers 20 and 23: a tick of the times; messages but an UPDATE. No conditions but the tables and where the session lies. -/
import Derived.Test.YthgjknmfghjioaaDoorProg
import Derived.WalkKit
import Derived.WalkSpells
import Derived.WalkLawsBesides
import Derived.Outline
import Derived.Deep.QuietTactic
import Derived.BigQuiet
import Derived.Handy
import Derived.Lib.Hide
import Derived.Deep.DeepCutAuto
import Derived.Deep.CutBlock
import Derived.Deep.LoopGhost
import Derived.Laws.Cover4
import Derived.OrdersHeld
import Derived.Deep.RegionHeld
import Derived.Test.YthgjknmfghjioaaDoorSesF
namespace Go.Proofs.YthgjknmfghjioaaDoor
open Go.RowKit
set_option linter.unusedSimpArgs false
set_option linter.unusedVariables false
/-- The times on their way down, and those that came to their end. -/
def clkAt (a b c : Int) : Nat → Array Value
  | 0 => #[.int .i64 a, .int .i64 b, .int .i64 c]
  | 1 => #[.int .i64 (tkD a), .int .i64 b, .int .i64 c]
  | 2 => #[.int .i64 (tkD a), .int .i64 (tkD b), .int .i64 c]
  | _ => #[.int .i64 (tkD a), .int .i64 (tkD b), .int .i64 (tkD c)]
def one1 (x k : Int) : List Int := if x = 1 then [k] else []
theorem one1_len (x k : Int) : (one1 x k).length ≤ 1 := by unfold one1; split <;> simp
def ovAt (a b c : Int) : Nat → List Int
  | 0 => []
  | 1 => one1 a 0
  | 2 => one1 a 0 ++ one1 b 1
  | _ => one1 a 0 ++ one1 b 1 ++ one1 c 2
theorem clk_infoG : (Tryd.prog.info? 58).map (·.size) = some 3 := by kernel_rfl
theorem clk_tmp_ret {fn : Func} {t p : Tmp} (h : fn.results = #[.cell p 58, .tmp t]) (tmps : Array Value) (w : World) (g : Nat) (x y z : Value)
    (hp : tmps.getD p undef = .pointer (some ⟨g, 0, none⟩)) (hB : Blk w g 58 #[x, y, z]) :
    (results fn tmps).run Tryd.prog w = .ok (.tuple #[.agg #[x, y, z], tmps.getD t undef]) w := by
  have hp' : tmps[p]?.getD undef = .pointer (some ⟨g, 0, none⟩) := by simpa using hp
  have := run_loadVar_row (P := Tryd.prog) w g 58 58 #[x, y, z] (0, 0) _ hB Tryd.underlying58 rfl clk_infoG
  simp [results, h, hp', asAddr, this]
set_option maxHeartbeats 4000000 in
set_option maxRecDepth 100000 in
theorem clockDown (a b c : Int) (ha : Hid (0 ≤ a ∧ a ≤ 65535)) (hb : Hid (0 ≤ b ∧ b ≤ 65535)) (hc : Hid (0 ≤ c ∧ c ≤ 65535)) (w : World) :
    Calls Tryd.prog 34 #[.agg #[.int .i64 a, .int .i64 b, .int .i64 c], .int .i64 1] w fun en w' => ∃ (A : Option Addr) (n k : Nat), en = .returned (.tuple #[.agg #[.int .i64 (tkD a), .int .i64 (tkD b), .int .i64 (tkD c)], .slice A n k]) ∧ OI w' w.heap.size A n k (ovAt a b c 3) ∧ Below w.heap.size w w' := by
  obtain ⟨W, hW, hX, hR, b0⟩ := boxes2 w #[.int .i64 a, .int .i64 b, .int .i64 c] #[.int .i64 0, .int .i64 0, .int .i64 0] 58 58
  have HW := Lib.hid hW
  clear hW
  obtain ⟨x, hx⟩ : ∃ x, w.heap.size = x := ⟨_, rfl⟩
  have hRl := hR.lt
  rw [hx] at hX hR hRl
  have HX := Lib.hid hx
  clear hx
  go_enter Tryd.func34, Tryd.ntmps34
  go_upto_region 1 with fail
  rw [HW.out]
  rw [HX.out]
  go_wp2_with fail
  have hle : w.heap.size ≤ x := Nat.le_of_eq HX.out
  go_loopw [6, 7, 8] (fun s6 s7 s8 wr => ∃ (i : Nat) (A : Option Addr) (n k : Nat), i ≤ 3 ∧ s8 = .int .i64 (i : Int) ∧ s6 = .slice A n k ∧ Blk wr x 58 (clkAt a b c i) ∧ Blk wr (x + 1) 58 #[.int .i64 0, .int .i64 0, .int .i64 0] ∧ OI wr (x + 2) A n k (ovAt a b c i) ∧ Below w.heap.size w wr ∧ x + 2 ≤ wr.heap.size) (fun _ _ i _ => 3 - (intOf i).toNat)
  case atStart => exact ⟨0, none, 0, 0, by omega, rfl, rfl, hX, hR, OI.nil_, b0, by omega⟩
  case round =>
    obtain ⟨i, A, n, k, hi, rfl, rfl, X, R, o, bw, zw⟩ := hrel
    obtain rfl | rfl | rfl | rfl : i = 0 ∨ i = 1 ∨ i = 2 ∨ i = 3 := by omega
    · have X' : Blk wr x 58 #[.int .i64 a, .int .i64 b, .int .i64 c] := X
      have x0 := X'.cell 0
      have xf := X'.frozen 0
      by_cases h1 : a ≤ 0
      · have t1 : decide (a ≤ 0) = true := decide_eq_true h1
        have HV := Lib.hid (show tkD a = a from if_pos h1)
        have HN := Lib.hid (show one1 a 0 = [] from if_neg (by omega))
        clear h1
        go_wp2_with fail
        go_roundw
        case rel => exact ⟨1, A, n, k, by omega, rfl, rfl, (by
            show Blk _ _ _ #[.int .i64 (tkD a), .int .i64 b, .int .i64 c]
            rw [HV.out]; exact X'), R, (by
            have := o
            show OI _ _ _ _ _ (one1 a 0); rw [HN.out]; exact this), bw, zw⟩
        case measure => simp [intOf]
      · have t1 : decide (a ≤ 0) = false := decide_eq_false h1
        have HV := Lib.hid (show tkD a = a - 1 from if_neg h1)
        have HWR := (IntWalk.i64_in (a - 1) ⟨by omega, by have := ha.out; omega⟩)
        by_cases h2 : a = 1
        · have HN := Lib.hid (show one1 a 0 = [0] from if_pos h2)
          have t2 : (a - 1 == 0) = true := by simp [h2]
          clear h1 h2
          go_upto_region 7 with fail
          obtain ⟨w2, hw2⟩ : ∃ y, wr.setCell ⟨x, 0, none⟩ (.int .i64 (a - 1)) = y := ⟨_, rfl⟩
          have X2 := X'.set_ 0 (.int .i64 (a - 1))
          simp only [List.setIfInBounds_toArray, List.set_cons_succ, List.set_cons_zero] at X2
          have R2 := R.far (p := ⟨x, 0, none⟩) (by show _ ≠ x; omega) (.int .i64 (a - 1))
          have o2 := o.out (p := ⟨x, 0, none⟩) (by show x < _; omega) (.int .i64 (a - 1))
          have b2 := bw.setCell (p := ⟨x, 0, none⟩) hle (.int .i64 (a - 1))
          have z2 : wr.heap.size ≤ (wr.setCell ⟨x, 0, none⟩ (.int .i64 (a - 1))).heap.size := by simp [World.setCell]
          rw [hw2] at X2 R2 o2 b2 z2
          rw [hw2]
          clear hw2 x0 xf X' X R o bw HWR
          have x0 := X2.cell 0
          have o2' := Lib.hid (show OI (w2.alloc (.cells #[.int .i64 0] 3)) (x + 2) A n k (([] : List Int)) from o2.alloc _)
          have HOL := Lib.hid (show (([] : List Int)).length ≤ 2 by simp)
          go_wp2_with (at_builtin; refine wpl_appI rfl (.tmp 29) (.tmp 31) rfl (x + 2) A n k (([] : List Int)) (by rfl) o2'.out (w2.heap.size + 1) (some ⟨w2.heap.size, 0, none⟩) 1 1 [0] (by rfl) (Reads.oneI' _ _ _ (by simp)) (by have := HOL.out; simp only [List.length_append, List.length_cons, List.length_nil] at *; omega) (by simp; omega) ?_; intro A4 n4 c4 w4 o4 b4)
          go_roundw
          case rel =>
            have b24 := (((Below.refl w2.heap.size w2).alloc (Nat.le_refl _) (.cells #[.int .i64 0] 3)))
            have b4' := b24.mono (B' := x + 2) (by omega)
            have b5 := b4'.trans b4
            refine ⟨1, A4, n4, c4, by omega, rfl, rfl, ?_, R2.below b5 (by omega), ?_, ?_, ?_⟩
            · have := X2.below b5 (by omega)
              show Blk _ _ _ #[.int .i64 (tkD a), .int .i64 b, .int .i64 c]
              rw [HV.out]; exact this
            · have := o4
              show OI _ _ _ _ _ (one1 a 0); rw [HN.out]; exact this
            · exact b2.trans (b5.mono (by omega))
            · have := b5.size; omega
          case measure => simp [intOf]
        · have HN := Lib.hid (show one1 a 0 = [] from if_neg h2)
          have t2 : (a - 1 == 0) = false := by
            cases ht : a - 1 == 0
            · rfl
            · exact absurd (by simpa using ht) (show ¬ a - 1 = 0 by omega)
          clear h1 h2
          go_upto_region 7 with fail
          obtain ⟨w2, hw2⟩ : ∃ y, wr.setCell ⟨x, 0, none⟩ (.int .i64 (a - 1)) = y := ⟨_, rfl⟩
          have X2 := X'.set_ 0 (.int .i64 (a - 1))
          simp only [List.setIfInBounds_toArray, List.set_cons_succ, List.set_cons_zero] at X2
          have R2 := R.far (p := ⟨x, 0, none⟩) (by show _ ≠ x; omega) (.int .i64 (a - 1))
          have o2 := o.out (p := ⟨x, 0, none⟩) (by show x < _; omega) (.int .i64 (a - 1))
          have b2 := bw.setCell (p := ⟨x, 0, none⟩) hle (.int .i64 (a - 1))
          have z2 : wr.heap.size ≤ (wr.setCell ⟨x, 0, none⟩ (.int .i64 (a - 1))).heap.size := by simp [World.setCell]
          rw [hw2] at X2 R2 o2 b2 z2
          rw [hw2]
          clear hw2 x0 xf X' X R o bw HWR
          have x0 := X2.cell 0
          go_wp2_with fail
          go_roundw
          case rel =>
            refine ⟨1, A, n, k, by omega, rfl, rfl, ?_, R2, ?_, b2, by omega⟩
            · show Blk _ _ _ #[.int .i64 (tkD a), .int .i64 b, .int .i64 c]
              rw [HV.out]; exact X2
            · have := o2
              show OI _ _ _ _ _ (one1 a 0); rw [HN.out]; exact this
          case measure => simp [intOf]
    · have X' : Blk wr x 58 #[.int .i64 (tkD a), .int .i64 b, .int .i64 c] := X
      have x0 := X'.cell 1
      have xf := X'.frozen 1
      by_cases h1 : b ≤ 0
      · have t1 : decide (b ≤ 0) = true := decide_eq_true h1
        have HV := Lib.hid (show tkD b = b from if_pos h1)
        have HN := Lib.hid (show one1 b 1 = [] from if_neg (by omega))
        clear h1
        go_wp2_with fail
        go_roundw
        case rel => exact ⟨2, A, n, k, by omega, rfl, rfl, (by
            show Blk _ _ _ #[.int .i64 (tkD a), .int .i64 (tkD b), .int .i64 c]
            rw [HV.out]; exact X'), R, (by
            have := o
            show OI _ _ _ _ _ (one1 a 0 ++ one1 b 1); rw [HN.out, List.append_nil]; exact this), bw, zw⟩
        case measure => simp [intOf]
      · have t1 : decide (b ≤ 0) = false := decide_eq_false h1
        have HV := Lib.hid (show tkD b = b - 1 from if_neg h1)
        have HWR := (IntWalk.i64_in (b - 1) ⟨by omega, by have := hb.out; omega⟩)
        by_cases h2 : b = 1
        · have HN := Lib.hid (show one1 b 1 = [1] from if_pos h2)
          have t2 : (b - 1 == 0) = true := by simp [h2]
          clear h1 h2
          go_upto_region 7 with fail
          obtain ⟨w2, hw2⟩ : ∃ y, wr.setCell ⟨x, 1, none⟩ (.int .i64 (b - 1)) = y := ⟨_, rfl⟩
          have X2 := X'.set_ 1 (.int .i64 (b - 1))
          simp only [List.setIfInBounds_toArray, List.set_cons_succ, List.set_cons_zero] at X2
          have R2 := R.far (p := ⟨x, 1, none⟩) (by show _ ≠ x; omega) (.int .i64 (b - 1))
          have o2 := o.out (p := ⟨x, 1, none⟩) (by show x < _; omega) (.int .i64 (b - 1))
          have b2 := bw.setCell (p := ⟨x, 1, none⟩) hle (.int .i64 (b - 1))
          have z2 : wr.heap.size ≤ (wr.setCell ⟨x, 1, none⟩ (.int .i64 (b - 1))).heap.size := by simp [World.setCell]
          rw [hw2] at X2 R2 o2 b2 z2
          rw [hw2]
          clear hw2 x0 xf X' X R o bw HWR
          have x0 := X2.cell 1
          have o2' := Lib.hid (show OI (w2.alloc (.cells #[.int .i64 1] 3)) (x + 2) A n k (one1 a 0) from o2.alloc _)
          have HOL := Lib.hid (show (one1 a 0).length ≤ 2 by have := one1_len a 0; omega)
          go_wp2_with (at_builtin; refine wpl_appI rfl (.tmp 29) (.tmp 31) rfl (x + 2) A n k (one1 a 0) (by rfl) o2'.out (w2.heap.size + 1) (some ⟨w2.heap.size, 0, none⟩) 1 1 [1] (by rfl) (Reads.oneI' _ _ _ (by simp)) (by have := HOL.out; simp only [List.length_append, List.length_cons, List.length_nil] at *; omega) (by simp; omega) ?_; intro A4 n4 c4 w4 o4 b4)
          go_roundw
          case rel =>
            have b24 := (((Below.refl w2.heap.size w2).alloc (Nat.le_refl _) (.cells #[.int .i64 1] 3)))
            have b4' := b24.mono (B' := x + 2) (by omega)
            have b5 := b4'.trans b4
            refine ⟨2, A4, n4, c4, by omega, rfl, rfl, ?_, R2.below b5 (by omega), ?_, ?_, ?_⟩
            · have := X2.below b5 (by omega)
              show Blk _ _ _ #[.int .i64 (tkD a), .int .i64 (tkD b), .int .i64 c]
              rw [HV.out]; exact this
            · have := o4
              show OI _ _ _ _ _ (one1 a 0 ++ one1 b 1); rw [HN.out]; exact this
            · exact b2.trans (b5.mono (by omega))
            · have := b5.size; omega
          case measure => simp [intOf]
        · have HN := Lib.hid (show one1 b 1 = [] from if_neg h2)
          have t2 : (b - 1 == 0) = false := by
            cases ht : b - 1 == 0
            · rfl
            · exact absurd (by simpa using ht) (show ¬ b - 1 = 0 by omega)
          clear h1 h2
          go_upto_region 7 with fail
          obtain ⟨w2, hw2⟩ : ∃ y, wr.setCell ⟨x, 1, none⟩ (.int .i64 (b - 1)) = y := ⟨_, rfl⟩
          have X2 := X'.set_ 1 (.int .i64 (b - 1))
          simp only [List.setIfInBounds_toArray, List.set_cons_succ, List.set_cons_zero] at X2
          have R2 := R.far (p := ⟨x, 1, none⟩) (by show _ ≠ x; omega) (.int .i64 (b - 1))
          have o2 := o.out (p := ⟨x, 1, none⟩) (by show x < _; omega) (.int .i64 (b - 1))
          have b2 := bw.setCell (p := ⟨x, 1, none⟩) hle (.int .i64 (b - 1))
          have z2 : wr.heap.size ≤ (wr.setCell ⟨x, 1, none⟩ (.int .i64 (b - 1))).heap.size := by simp [World.setCell]
          rw [hw2] at X2 R2 o2 b2 z2
          rw [hw2]
          clear hw2 x0 xf X' X R o bw HWR
          have x0 := X2.cell 1
          go_wp2_with fail
          go_roundw
          case rel =>
            refine ⟨2, A, n, k, by omega, rfl, rfl, ?_, R2, ?_, b2, by omega⟩
            · show Blk _ _ _ #[.int .i64 (tkD a), .int .i64 (tkD b), .int .i64 c]
              rw [HV.out]; exact X2
            · have := o2
              show OI _ _ _ _ _ (one1 a 0 ++ one1 b 1); rw [HN.out, List.append_nil]; exact this
          case measure => simp [intOf]
    · have X' : Blk wr x 58 #[.int .i64 (tkD a), .int .i64 (tkD b), .int .i64 c] := X
      have x0 := X'.cell 2
      have xf := X'.frozen 2
      by_cases h1 : c ≤ 0
      · have t1 : decide (c ≤ 0) = true := decide_eq_true h1
        have HV := Lib.hid (show tkD c = c from if_pos h1)
        have HN := Lib.hid (show one1 c 2 = [] from if_neg (by omega))
        clear h1
        go_wp2_with fail
        go_roundw
        case rel => exact ⟨3, A, n, k, by omega, rfl, rfl, (by
            show Blk _ _ _ #[.int .i64 (tkD a), .int .i64 (tkD b), .int .i64 (tkD c)]
            rw [HV.out]; exact X'), R, (by
            have := o
            show OI _ _ _ _ _ (one1 a 0 ++ one1 b 1 ++ one1 c 2); rw [HN.out, List.append_nil]; exact this), bw, zw⟩
        case measure => simp [intOf]
      · have t1 : decide (c ≤ 0) = false := decide_eq_false h1
        have HV := Lib.hid (show tkD c = c - 1 from if_neg h1)
        have HWR := (IntWalk.i64_in (c - 1) ⟨by omega, by have := hc.out; omega⟩)
        by_cases h2 : c = 1
        · have HN := Lib.hid (show one1 c 2 = [2] from if_pos h2)
          have t2 : (c - 1 == 0) = true := by simp [h2]
          clear h1 h2
          go_upto_region 7 with fail
          obtain ⟨w2, hw2⟩ : ∃ y, wr.setCell ⟨x, 2, none⟩ (.int .i64 (c - 1)) = y := ⟨_, rfl⟩
          have X2 := X'.set_ 2 (.int .i64 (c - 1))
          simp only [List.setIfInBounds_toArray, List.set_cons_succ, List.set_cons_zero] at X2
          have R2 := R.far (p := ⟨x, 2, none⟩) (by show _ ≠ x; omega) (.int .i64 (c - 1))
          have o2 := o.out (p := ⟨x, 2, none⟩) (by show x < _; omega) (.int .i64 (c - 1))
          have b2 := bw.setCell (p := ⟨x, 2, none⟩) hle (.int .i64 (c - 1))
          have z2 : wr.heap.size ≤ (wr.setCell ⟨x, 2, none⟩ (.int .i64 (c - 1))).heap.size := by simp [World.setCell]
          rw [hw2] at X2 R2 o2 b2 z2
          rw [hw2]
          clear hw2 x0 xf X' X R o bw HWR
          have x0 := X2.cell 2
          have o2' := Lib.hid (show OI (w2.alloc (.cells #[.int .i64 2] 3)) (x + 2) A n k (one1 a 0 ++ one1 b 1) from o2.alloc _)
          have HOL := Lib.hid (show (one1 a 0 ++ one1 b 1).length ≤ 2 by have h1 := one1_len a 0; have h2 := one1_len b 1; rw [List.length_append]; omega)
          go_wp2_with (at_builtin; refine wpl_appI rfl (.tmp 29) (.tmp 31) rfl (x + 2) A n k (one1 a 0 ++ one1 b 1) (by rfl) o2'.out (w2.heap.size + 1) (some ⟨w2.heap.size, 0, none⟩) 1 1 [2] (by rfl) (Reads.oneI' _ _ _ (by simp)) (by have := HOL.out; simp only [List.length_append, List.length_cons, List.length_nil] at *; omega) (by simp; omega) ?_; intro A4 n4 c4 w4 o4 b4)
          go_roundw
          case rel =>
            have b24 := (((Below.refl w2.heap.size w2).alloc (Nat.le_refl _) (.cells #[.int .i64 2] 3)))
            have b4' := b24.mono (B' := x + 2) (by omega)
            have b5 := b4'.trans b4
            refine ⟨3, A4, n4, c4, by omega, rfl, rfl, ?_, R2.below b5 (by omega), ?_, ?_, ?_⟩
            · have := X2.below b5 (by omega)
              show Blk _ _ _ #[.int .i64 (tkD a), .int .i64 (tkD b), .int .i64 (tkD c)]
              rw [HV.out]; exact this
            · have := o4
              show OI _ _ _ _ _ (one1 a 0 ++ one1 b 1 ++ one1 c 2); rw [HN.out]; exact this
            · exact b2.trans (b5.mono (by omega))
            · have := b5.size; omega
          case measure => simp [intOf]
        · have HN := Lib.hid (show one1 c 2 = [] from if_neg h2)
          have t2 : (c - 1 == 0) = false := by
            cases ht : c - 1 == 0
            · rfl
            · exact absurd (by simpa using ht) (show ¬ c - 1 = 0 by omega)
          clear h1 h2
          go_upto_region 7 with fail
          obtain ⟨w2, hw2⟩ : ∃ y, wr.setCell ⟨x, 2, none⟩ (.int .i64 (c - 1)) = y := ⟨_, rfl⟩
          have X2 := X'.set_ 2 (.int .i64 (c - 1))
          simp only [List.setIfInBounds_toArray, List.set_cons_succ, List.set_cons_zero] at X2
          have R2 := R.far (p := ⟨x, 2, none⟩) (by show _ ≠ x; omega) (.int .i64 (c - 1))
          have o2 := o.out (p := ⟨x, 2, none⟩) (by show x < _; omega) (.int .i64 (c - 1))
          have b2 := bw.setCell (p := ⟨x, 2, none⟩) hle (.int .i64 (c - 1))
          have z2 : wr.heap.size ≤ (wr.setCell ⟨x, 2, none⟩ (.int .i64 (c - 1))).heap.size := by simp [World.setCell]
          rw [hw2] at X2 R2 o2 b2 z2
          rw [hw2]
          clear hw2 x0 xf X' X R o bw HWR
          have x0 := X2.cell 2
          go_wp2_with fail
          go_roundw
          case rel =>
            refine ⟨3, A, n, k, by omega, rfl, rfl, ?_, R2, ?_, b2, by omega⟩
            · show Blk _ _ _ #[.int .i64 (tkD a), .int .i64 (tkD b), .int .i64 (tkD c)]
              rw [HV.out]; exact X2
            · have := o2
              show OI _ _ _ _ _ (one1 a 0 ++ one1 b 1 ++ one1 c 2); rw [HN.out, List.append_nil]; exact this
          case measure => simp [intOf]
    · have X' : Blk wr x 58 #[.int .i64 (tkD a), .int .i64 (tkD b), .int .i64 (tkD c)] := X
      have x0 := X'.cell 0
      have x1 := X'.cell 1
      have x2 := X'.cell 2
      have r0 := R.cell 0
      have r1 := R.cell 1
      have r2 := R.cell 2
      have s0 := R.frozen 0
      have s1 := R.frozen 1
      have s2 := R.frozen 2
      go_wp2_with fail
      have R2 := ((R.set_ 0 (.int .i64 (tkD a))).set_ 1 (.int .i64 (tkD b))).set_ 2 (.int .i64 (tkD c))
      simp only [List.setIfInBounds_toArray, List.set_cons_succ, List.set_cons_zero] at R2
      refine bodyPost_ret (clk_tmp_ret rfl _ _ (x + 1) _ _ _ rfl R2) rfl ⟨A, n, k, rfl, ?_, ((bw.setCell (p := ⟨x + 1, 0, none⟩) (by show _ ≤ x + 1; omega) _).setCell (p := ⟨x + 1, 1, none⟩) (by show _ ≤ x + 1; omega) _).setCell (p := ⟨x + 1, 2, none⟩) (by show _ ≤ x + 1; omega) _⟩
      exact (((o.out (p := ⟨x + 1, 0, none⟩) (by show x + 1 < _; omega) _).out (p := ⟨x + 1, 1, none⟩) (by show x + 1 < _; omega) _).out (p := ⟨x + 1, 2, none⟩) (by show x + 1 < _; omega) _).low (by omega)
set_option maxHeartbeats 4000000 in
set_option maxRecDepth 100000 in
theorem clockTick (a b c : Int) (ha : Hid (0 ≤ a ∧ a ≤ 65535)) (hb : Hid (0 ≤ b ∧ b ≤ 65535)) (hc : Hid (0 ≤ c ∧ c ≤ 65535)) (w : World) :
    Calls Tryd.prog 20 #[.agg #[.int .i64 a, .int .i64 b, .int .i64 c]] w fun en w' => ∃ (A : Option Addr) (n k : Nat), en = .returned (.tuple #[.agg #[.int .i64 (tkD a), .int .i64 (tkD b), .int .i64 (tkD c)], .slice A n k]) ∧ OI w' w.heap.size A n k (ovAt a b c 3) ∧ Below w.heap.size w w' := by
  obtain ⟨W, hW, hX, hR, b0⟩ := boxes2 w #[.int .i64 a, .int .i64 b, .int .i64 c] #[.int .i64 0, .int .i64 0, .int .i64 0] 58 58
  have HW := Lib.hid hW
  clear hW
  obtain ⟨x, hx⟩ : ∃ x, w.heap.size = x := ⟨_, rfl⟩
  have hRl := hR.lt
  rw [hx] at hX hR hRl
  have HX := Lib.hid hx
  clear hx
  have hle : w.heap.size ≤ x := Nat.le_of_eq HX.out
  go_enter Tryd.func20, Tryd.ntmps20
  go_upto_region 1 with fail
  rw [HW.out]
  rw [HX.out]
  have x0 : W.cell? ⟨x, 0, none⟩ = some (.int .i64 a) := hX.cell 0
  have x1 : W.cell? ⟨x, 1, none⟩ = some (.int .i64 b) := hX.cell 1
  have x2 : W.cell? ⟨x, 2, none⟩ = some (.int .i64 c) := hX.cell 2
  go_wp2_with fail
  refine (clockDown a b c ha hb hc W).mono ?_
  rintro _ w1 ⟨A, n, k, rfl, o1, b1⟩
  have R := hR.below b1 hR.lt
  have r0 : w1.cell? ⟨x + 1, 0, none⟩ = some (.int .i64 0) := R.cell 0
  have r1 : w1.cell? ⟨x + 1, 1, none⟩ = some (.int .i64 0) := R.cell 1
  have r2 : w1.cell? ⟨x + 1, 2, none⟩ = some (.int .i64 0) := R.cell 2
  have s0 := R.frozen 0
  have s1 := R.frozen 1
  have s2 := R.frozen 2
  go_wp2_with fail
  have bw := btr b0 b1 b0.size
  have R2 := ((R.set_ 0 (.int .i64 (tkD a))).set_ 1 (.int .i64 (tkD b))).set_ 2 (.int .i64 (tkD c))
  simp only [List.setIfInBounds_toArray, List.set_cons_succ, List.set_cons_zero] at R2
  refine bodyPost_ret (clk_tmp_ret rfl _ _ (x + 1) _ _ _ rfl R2) rfl ⟨A, n, k, rfl, ?_, ((bw.setCell (p := ⟨x + 1, 0, none⟩) (by show _ ≤ x + 1; omega) _).setCell (p := ⟨x + 1, 1, none⟩) (by show _ ≤ x + 1; omega) _).setCell (p := ⟨x + 1, 2, none⟩) (by show _ ≤ x + 1; omega) _⟩
  exact (((o1.out (p := ⟨x + 1, 0, none⟩) (by show x + 1 < _; omega) _).out (p := ⟨x + 1, 1, none⟩) (by show x + 1 < _; omega) _).out (p := ⟨x + 1, 2, none⟩) (by show x + 1 < _; omega) _).low b0.size
/-- A message but an UPDATE: which event it is, with which fault, and what is known then. -/
def sesMsg (K : SesK) (V : SesV) (kind : Int) (l : List UInt8) : SesV × Int × Flt := if kind = 1 then sesOpen K V l else if kind = 3 then (V, 11, (0, 0, [])) else if kind = 4 then (V, 12, (0, 0, [])) else (V, 8, (1, 3, []))
theorem sesOpen_ok {K : SesK} {V : SesV} {l : List UInt8} (h : SesOk V) : SesOk (sesOpen K V l).1 := by
  unfold sesOpen
  split
  · split
    · exact h
    · rename_i o ho
      obtain ⟨_, h1, h2, h3⟩ := readO_range ho
      dsimp only
      split
      · obtain ⟨x0, x1, x2, x3, x4, x5, x6, x7, x8, x9, x10⟩ := h
        have hm : 0 ≤ mineH K.lh ∧ mineH K.lh ≤ 65535 := by unfold mineH; split <;> (try split) <;> omega
        have hh : 0 ≤ holdO o.hold (mineH K.lh) ∧ holdO o.hold (mineH K.lh) ≤ 65535 := by unfold holdO; split <;> (try split) <;> omega
        exact ⟨x0, x1, hh.1, hh.2, x4, x5, x6, x7, x8, x9, h1⟩
      · exact h
  · exact h
set_option maxHeartbeats 4000000 in
set_option maxRecDepth 100000 in
theorem sesMessage (KS : SesK) (V : SesV) (kind : Int) (A : Option Addr) (n c : Nat) (l : List UInt8) (g : Nat) (w : World) (hS : Blk w g 70 (sesC KS V)) (hl : BS w w.heap.size A n l) (hn : n ≤ 100000) (hV : Hid (SesOk V)) (hK : Hid (KS.la < 4294967296 ∧ KS.li < 4294967296)) (ht : FsmTab w) (hlt : LeaTab w) (hk2 : kind ≠ 2) (V2 : SesV) (ev : Int) (ft : Flt) (hm : Hid (sesMsg KS V kind l = (V2, ev, ft))) :
    Calls Tryd.prog 11 #[.pointer (some ⟨g, 0, none⟩), .int .i64 kind, .slice A n c] w (RetDo w g KS (sesV KS.ps V2 ev) (doOut KS V2 ev ft)) := by
  have hgl := hS.lt
  obtain ⟨W, hW, hR, b0⟩ := box1c w #[.int .i64 0, .int .i64 0, .int .i64 0, .slice none 0 0, .int .i64 0, .int .i64 0, .slice none 0 0, .slice none 0 0, .slice none 0 0, .int .i64 0, .slice none 0 0, .int .u32 0, .int .i64 0, .int .i64 0, .bool false, .bool false, .int .u32 0, .int .u32 0, .slice none 0 0, .slice none 0 0, .slice none 0 0, .bool false, .bool false, .bool false, .bool false, .bool false] 48
  have HW := Lib.hid hW
  clear hW
  obtain ⟨r, hr⟩ : ∃ r, w.heap.size = r := ⟨_, rfl⟩
  rw [hr] at hR
  have HRz := Lib.hid hr
  have hwr : w.heap.size ≤ r := by omega
  have hgr : g ≠ r := by omega
  clear hr
  have hS0 := hS.below b0 hS.lt
  have hl0 := hl.call b0
  have ht0 := ht.below b0
  have hlt0 := hlt.call b0
  have hho : Hid (0 ≤ V.ho ∧ V.ho ≤ 65535) := Lib.hid ⟨hV.out.h0, hV.out.h1⟩
  go_enter Tryd.func11, Tryd.ntmps11
  go_upto_region 1 with fail
  rw [HW.out]
  rw [HRz.out]
  have t2 : (kind == 2) = false := by simpa using hk2
  clear hk2
  by_cases h1 : kind = 1
  · have t1 : (kind == 1) = true := by simpa using h1
    have HO1 := Lib.hid (show sesOpen KS V l = (V2, ev, ft) by
      have h := hm.out
      unfold sesMsg at h
      rw [if_pos h1] at h
      exact h)
    clear h1 hm
    go_wp2_with fail
    refine (sesOpened KS V A n c l g W hS0 hl0 hn hV hK ht0 hlt0 V2 ev ft HO1).mono ?_
    rintro e99 w99 hd99
    obtain ⟨C, rfl, hCs, hC1, hR99, HO⟩ := hd99.put (Sm.of_below b0 (Nat.le_refl _)) (hwr) hgl hR z26_no8
    have hCi : (Tryd.prog.info? 48).map (·.size) = some C.size := by rw [hCs]; exact out_info
    have HOUT := Lib.hid HO
    clear HO
    rename_i hk1
    refine hk1 _ _ ?_
    clear hk1
    refine wpList_store_row rfl 48 (.tmp 6) (.tmp 15) rfl r C (by rfl) (by rfl) 48 #[.int .i64 0, .int .i64 0, .int .i64 0, .slice none 0 0, .int .i64 0, .int .i64 0, .slice none 0 0, .slice none 0 0, .slice none 0 0, .int .i64 0, .slice none 0 0, .int .u32 0, .int .i64 0, .int .i64 0, .bool false, .bool false, .int .u32 0, .int .u32 0, .slice none 0 0, .slice none 0 0, .slice none 0 0, .bool false, .bool false, .bool false, .bool false, .bool false] hR99 hCi hCs.symm hC1 ?_
    go_simp
    rename_i hk kk
    refine hk _ _ (wp_ret ?_)
    exact bodyPost_ret (out_ret rfl _ _ r C hCs rfl (hR99.row _)) rfl HOUT.out
  have t1 : (kind == 1) = false := by simpa using h1
  by_cases h3 : kind = 3
  · have t3 : (kind == 3) = true := by simpa using h3
    have HM := Lib.hid (show V2 = V ∧ ev = 11 ∧ ft = (0, 0, []) by
      have h := hm.out
      unfold sesMsg at h
      rw [if_neg h1, if_pos h3] at h
      cases h
      exact ⟨rfl, rfl, rfl⟩)
    clear h1 h3 hm
    go_wp2_with fail
    refine (sesStep KS V 11 0 0 none 0 0 [] g W hS0 BS.none_ (by omega) hho hK ht0 hlt0).mono ?_
    rintro e99 w99 hd99
    obtain ⟨C, rfl, hCs, hC1, hR99, HO⟩ := hd99.put (Sm.of_below b0 (Nat.le_refl _)) (hwr) hgl hR z26_no8
    have hCi : (Tryd.prog.info? 48).map (·.size) = some C.size := by rw [hCs]; exact out_info
    have HOUT := Lib.hid HO
    clear HO
    rename_i hk1
    refine hk1 _ _ ?_
    clear hk1
    refine wpList_store_row rfl 48 (.tmp 6) (.tmp 25) rfl r C (by rfl) (by rfl) 48 #[.int .i64 0, .int .i64 0, .int .i64 0, .slice none 0 0, .int .i64 0, .int .i64 0, .slice none 0 0, .slice none 0 0, .slice none 0 0, .int .i64 0, .slice none 0 0, .int .u32 0, .int .i64 0, .int .i64 0, .bool false, .bool false, .int .u32 0, .int .u32 0, .slice none 0 0, .slice none 0 0, .slice none 0 0, .bool false, .bool false, .bool false, .bool false, .bool false] hR99 hCi hCs.symm hC1 ?_
    go_simp
    rename_i hk kk
    refine hk _ _ (wp_ret ?_)
    exact bodyPost_ret (out_ret rfl _ _ r C hCs rfl (hR99.row _)) rfl (by rw [HM.out.1, HM.out.2.1, HM.out.2.2]; exact HOUT.out)
  have t3 : (kind == 3) = false := by simpa using h3
  by_cases h4 : kind = 4
  · have t4 : (kind == 4) = true := by simpa using h4
    have HM := Lib.hid (show V2 = V ∧ ev = 12 ∧ ft = (0, 0, []) by
      have h := hm.out
      unfold sesMsg at h
      rw [if_neg h1, if_neg h3, if_pos h4] at h
      cases h
      exact ⟨rfl, rfl, rfl⟩)
    clear h1 h3 h4 hm
    go_wp2_with fail
    refine (sesStep KS V 12 0 0 none 0 0 [] g W hS0 BS.none_ (by omega) hho hK ht0 hlt0).mono ?_
    rintro e99 w99 hd99
    obtain ⟨C, rfl, hCs, hC1, hR99, HO⟩ := hd99.put (Sm.of_below b0 (Nat.le_refl _)) (hwr) hgl hR z26_no8
    have hCi : (Tryd.prog.info? 48).map (·.size) = some C.size := by rw [hCs]; exact out_info
    have HOUT := Lib.hid HO
    clear HO
    rename_i hk1
    refine hk1 _ _ ?_
    clear hk1
    refine wpList_store_row rfl 48 (.tmp 6) (.tmp 30) rfl r C (by rfl) (by rfl) 48 #[.int .i64 0, .int .i64 0, .int .i64 0, .slice none 0 0, .int .i64 0, .int .i64 0, .slice none 0 0, .slice none 0 0, .slice none 0 0, .int .i64 0, .slice none 0 0, .int .u32 0, .int .i64 0, .int .i64 0, .bool false, .bool false, .int .u32 0, .int .u32 0, .slice none 0 0, .slice none 0 0, .slice none 0 0, .bool false, .bool false, .bool false, .bool false, .bool false] hR99 hCi hCs.symm hC1 ?_
    go_simp
    rename_i hk kk
    refine hk _ _ (wp_ret ?_)
    exact bodyPost_ret (out_ret rfl _ _ r C hCs rfl (hR99.row _)) rfl (by rw [HM.out.1, HM.out.2.1, HM.out.2.2]; exact HOUT.out)
  have t4 : (kind == 4) = false := by simpa using h4
  have HM := Lib.hid (show V2 = V ∧ ev = 8 ∧ ft = (1, 3, []) by
    have h := hm.out
    unfold sesMsg at h
    rw [if_neg h1, if_neg h3, if_neg h4] at h
    cases h
    exact ⟨rfl, rfl, rfl⟩)
  clear h1 h3 h4 hm
  go_wp2_with fail
  refine (sesStep KS V 8 1 3 none 0 0 [] g W hS0 BS.none_ (by omega) hho hK ht0 hlt0).mono ?_
  rintro e99 w99 hd99
  obtain ⟨C, rfl, hCs, hC1, hR99, HO⟩ := hd99.put (Sm.of_below b0 (Nat.le_refl _)) (hwr) hgl hR z26_no8
  have hCi : (Tryd.prog.info? 48).map (·.size) = some C.size := by rw [hCs]; exact out_info
  have HOUT := Lib.hid HO
  clear HO
  rename_i hk1
  refine hk1 _ _ ?_
  clear hk1
  refine wpList_store_row rfl 48 (.tmp 6) (.tmp 33) rfl r C (by rfl) (by rfl) 48 #[.int .i64 0, .int .i64 0, .int .i64 0, .slice none 0 0, .int .i64 0, .int .i64 0, .slice none 0 0, .slice none 0 0, .slice none 0 0, .int .i64 0, .slice none 0 0, .int .u32 0, .int .i64 0, .int .i64 0, .bool false, .bool false, .int .u32 0, .int .u32 0, .slice none 0 0, .slice none 0 0, .slice none 0 0, .bool false, .bool false, .bool false, .bool false, .bool false] hR99 hCi hCs.symm hC1 ?_
  go_simp
  rename_i hk kk
  refine hk _ _ (wp_ret ?_)
  exact bodyPost_ret (out_ret rfl _ _ r C hCs rfl (hR99.row _)) rfl (by rw [HM.out.1, HM.out.2.1, HM.out.2.2]; exact HOUT.out)
end Go.Proofs.YthgjknmfghjioaaDoor
