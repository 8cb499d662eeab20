/- The walk of the document's Put (layer 2). No conditions but sizes. -/
import Derived.Test.YtnhkpnohadbcdaaDoorProg
import Derived.WalkKit
import Derived.WalkSpells
import Derived.WalkLawsBesides
import Derived.Outline
import Derived.Deep.QuietTactic
import Derived.BigQuiet
import Derived.Handy
import Derived.Lib.Hide
import Derived.Test.YtnhkpnohadbcdaaDoorPfxPut
namespace Go.Proofs.YtnhkpnohadbcdaaDoor
open Go.RowKit
/-- The document's number behind j bytes. -/
def nJ (a : Nat) : Nat → Nat
  | 0 => a
  | j + 1 => nJ a j % 16777216 * 256
theorem nJ_lt {a : Nat} (ha : a < 4294967296) (j : Nat) : nJ a j < 4294967296 := by
  cases j with
  | zero => exact ha
  | succ j => show nJ a j % 16777216 * 256 < _; omega
theorem b32_succ (a j : Nat) (hj : j < 4) : (b32 (a : Int)).take (j + 1) = (b32 (a : Int)).take j ++ [ub ((nJ a j / 16777216 : Nat) : Int)] := by
  have h4 : j = 0 ∨ j = 1 ∨ j = 2 ∨ j = 3 := by omega
  rcases h4 with rfl | rfl | rfl | rfl
  · show [ub ((a : Int) / 16777216)] = [ub ((a / 16777216 : Nat) : Int)]
    rw [Int.natCast_ediv]; rfl
  · show [ub ((a : Int) / 16777216), ub ((a : Int) / 65536 % 256)] = [ub ((a : Int) / 16777216), ub ((a % 16777216 * 256 / 16777216 : Nat) : Int)]
    rw [show ((a % 16777216 * 256 / 16777216 : Nat) : Int) = (a : Int) / 65536 % 256 by omega]
  · show [ub ((a : Int) / 16777216), ub ((a : Int) / 65536 % 256), ub ((a : Int) / 256 % 256)] = [ub ((a : Int) / 16777216), ub ((a : Int) / 65536 % 256), ub ((a % 16777216 * 256 % 16777216 * 256 / 16777216 : Nat) : Int)]
    rw [show ((a % 16777216 * 256 % 16777216 * 256 / 16777216 : Nat) : Int) = (a : Int) / 256 % 256 by omega]
  · show [ub ((a : Int) / 16777216), ub ((a : Int) / 65536 % 256), ub ((a : Int) / 256 % 256), ub ((a : Int) % 256)] = [ub ((a : Int) / 16777216), ub ((a : Int) / 65536 % 256), ub ((a : Int) / 256 % 256), ub ((a % 16777216 * 256 % 16777216 * 256 % 16777216 * 256 / 16777216 : Nat) : Int)]
    rw [show ((a % 16777216 * 256 % 16777216 * 256 % 16777216 * 256 / 16777216 : Nat) : Int) = (a : Int) % 256 by omega]
theorem pBytes_eq (a k : Nat) : pBytes a k = ub (k : Int) :: (b32 (a : Int)).take ((k + 7) / 8) := by
  unfold pBytes
  rw [Nat.add_comm, List.take_succ_cons]
set_option maxHeartbeats 1000000 in
set_option maxRecDepth 100000 in
theorem ref02Put_no (A : Option Addr) (n c : Nat) (a : Nat) (ha : a < 4294967296) (m : Int) (w : World) (hr : pRight a m = false) :
    Calls Tryd.prog 55 #[.slice A n c, .agg #[.int .u32 a, .int .i64 m]] w (RetPut w [] 1) := by
  have hB := Blk.new w 24 #[.int .u32 a, .int .i64 m]
  have c0 := hB.cell 0
  have c1 := hB.cell 1
  have b0 := (Below.refl w.heap.size w).alloc (Nat.le_refl _) (.cells #[.int .u32 a, .int .i64 m] 24)
  go_enter Tryd.func55, Tryd.ntmps55
  go_wp2_with fail
  refine (refRight a ha m _).mono ?_
  rw [hr]
  rintro _ w1 ⟨rfl, b1⟩
  have b01 := btr b0 b1 b0.size
  go_wp2_with fail
  go_ret2
  exact ⟨none, 0, 0, rfl, OB.nil_, b01⟩
set_option maxHeartbeats 2000000 in
set_option maxRecDepth 100000 in
theorem ref02Put_yes (A : Option Addr) (n c : Nat) (l : List UInt8) (a : Nat) (ha : a < 4294967296) (k : Nat) (hk : k ≤ 32) (w : World) (h : BS w w.heap.size A n l) (hn : n ≤ 100000) (hr : pRight a (k : Int) = true) :
    Calls Tryd.prog 55 #[.slice A n c, .agg #[.int .u32 a, .int .i64 k]] w (RetPut w (l ++ pBytes a k) 0) := by
  have hB := Blk.new w 24 #[.int .u32 a, .int .i64 k]
  have c0 := hB.cell 0
  have c1 := hB.cell 1
  have b0 := (Below.refl w.heap.size w).alloc (Nat.le_refl _) (.cells #[.int .u32 a, .int .i64 k] 24)
  have hlen := h.len
  have hll : l.length ≤ 100000 := by omega
  have HP := Lib.hid (pBytes_eq a k)
  have HLL := Lib.hid hll
  clear hlen hll
  go_enter Tryd.func55, Tryd.ntmps55
  go_wp2_with fail
  refine (refRight a ha k _).mono ?_
  rw [hr]
  rintro _ w1 ⟨rfl, b1⟩
  have b01 := btr b0 b1 b0.size
  have hB1 := hB.below b1 hB.lt
  have x0 := hB1.cell 0
  have x1 := hB1.cell 1
  have h1 := h.call b01
  clear c0 c1 hB
  have hwk : IntKind.u8.wrap (k : Int) = k := IntWalk.u8_in _ ⟨by omega, by omega⟩
  go_wp2_with (first
    | (at_builtin; refine wpl_app rfl (.tmp 12) (.tmp 13) _ rfl 5 Tryd.underlying55 u8info w1.heap.size none 0 0 [] rfl OB.nil_ w1.heap.size A n c l (by rfl) h1 (by have := HLL.out; have := h1.len; simp; omega) (Nat.le_refl _) ?_; intro A2 n2 c2 w2 o2 b2 g2; rw [List.nil_append] at o2; have hB2 := hB1.below b2 hB1.lt; have y0 := hB2.cell 0; have y1 := hB2.cell 1)
    | (at_builtin; refine appB1 (.tmp 15) (.tmp 19) rfl rfl w1.heap.size b2 b2.size A2 n2 c2 l (k : Int) (by rfl) o2 (by rfl) (by omega) (by omega) (by have := HLL.out; omega) ?_; intro A3 n3 c3 w3 o3 b3 s3; have hB3 := hB1.below b3 hB1.lt; have z0 := hB3.cell 0; have z1 := hB3.cell 1))
  go_loopw [6, 7, 8] (fun o x i wr => ∃ (j : Nat) (A4 : Option Addr) (n4 c4 : Nat), j ≤ (k + 7) / 8 ∧ i = .int .i64 j ∧ x = .int .i64 (nJ a j) ∧ o = .slice A4 n4 c4 ∧ OB wr 5 w1.heap.size A4 n4 c4 (l ++ [ub (k : Int)] ++ (b32 (a : Int)).take j) ∧ Below w1.heap.size w1 wr) (fun _ _ i _ => (k + 7) / 8 - (intOf i).toNat)
  case atStart => exact ⟨0, A3, n3, c3, by omega, rfl, rfl, rfl, by rw [List.take_zero, List.append_nil]; exact o3, b3⟩
  case round =>
    obtain ⟨j, A4, n4, c4, hj, rfl, rfl, rfl, o4, b4⟩ := hrel
    have hB4 := hB1.below b4 hB1.lt
    have u1 := hB4.cell 1
    have hq := nJ_lt ha j
    have HB := Lib.hid (b32_succ a j)
    have HN := Lib.hid (show nJ a (j + 1) = nJ a j % 16777216 * 256 from rfl)
    obtain ⟨q, hqq⟩ : ∃ q, nJ a j = q := ⟨_, rfl⟩
    rw [hqq] at HB HN hq ⊢
    clear hqq
    by_cases hlt : 8 * j < k
    · have hj4 : j < 4 := by omega
      have HS := Lib.hid (show l ++ [ub (k : Int)] ++ (b32 (a : Int)).take (j + 1) = l ++ [ub (k : Int)] ++ (b32 (a : Int)).take j ++ [ub ((q / 16777216 : Nat) : Int)] by rw [HB.out hj4, List.append_assoc, List.append_assoc, List.append_assoc])
      have hwq : IntKind.u8.wrap ((q : Int) / 16777216) = ((q / 16777216 : Nat) : Int) := (IntWalk.u8_in _ ⟨by omega, by omega⟩).trans (Int.natCast_ediv _ _).symm
      have hd : decide (8 * (j : Int) < (k : Int)) = true := decide_eq_true (by omega)
      go_wp2_with (at_builtin; refine appB1 (.tmp 31) (.tmp 35) rfl rfl w1.heap.size b4 b4.size A4 n4 c4 _ ((q / 16777216 : Nat) : Int) (by rfl) o4 (by rfl) (by omega) (by omega) (by have := HLL.out; simp [b32]; omega) ?_; intro A5 n5 c5 w5 o5 b5 s5)
      go_roundw
      case rel => exact ⟨j + 1, A5, n5, c5, by omega, by go_num, by rw [HN.out]; rfl, rfl, by rw [HS.out]; exact o5, b5⟩
      case measure => simp [intOf]; omega
    · have hj' : j = (k + 7) / 8 := by omega
      have hd : decide (8 * (j : Int) < (k : Int)) = false := decide_eq_false (by omega)
      have HS := Lib.hid (show l ++ [ub (k : Int)] ++ (b32 (a : Int)).take j = l ++ pBytes a k by rw [HP.out, hj', List.append_assoc]; rfl)
      go_wp2_with fail
      go_ret2
      exact ⟨A4, n4, c4, rfl, by rw [← HS.out]; exact o4.low b01.size, btr b01 b4 b01.size⟩
end Go.Proofs.YtnhkpnohadbcdaaDoor
