/- The statement SessionNobody: its walk. Conditions: the tables. -/
import Derived.Test.YthgjknmfghjioaaDoorProg
import Derived.WalkKit
import Derived.WalkSpells
import Derived.WalkLawsBesides
import Derived.Outline
import Derived.Deep.QuietTactic
import Derived.BigQuiet
import Derived.Handy
import Derived.Lib.Hide
import Derived.Deep.DeepCutAuto
import Derived.Deep.CutBlock
import Derived.Test.YthgjknmfghjioaaDoorSesH
namespace Go.Proofs.YthgjknmfghjioaaDoor
open Go.RowKit
set_option linter.unusedSimpArgs false
set_option linter.unusedVariables false
theorem idxZ0 (w : World) : (Instr.index 56 (.agg #[.int .i64 0, .int .i64 0, .int .i64 0]) (.int .i64 0)).run Tryd.prog w = .ok (.int .i64 0) w := by kernel_rfl
theorem idxZ1 (w : World) : (Instr.index 56 (.agg #[.int .i64 0, .int .i64 0, .int .i64 0]) (.int .i64 1)).run Tryd.prog w = .ok (.int .i64 0) w := by kernel_rfl
theorem idxZ2 (w : World) : (Instr.index 56 (.agg #[.int .i64 0, .int .i64 0, .int .i64 0]) (.int .i64 2)).run Tryd.prog w = .ok (.int .i64 0) w := by kernel_rfl
set_option maxRecDepth 100000 in
theorem nilFirst (w : World) : Calls Tryd.prog 16 #[.agg #[.int .i64 0, .int .i64 0, .int .i64 0]] w fun en w' => en = .returned (.int .i64 0) ∧ Below w.heap.size w w' := by
  obtain ⟨W, hW, hX, b0⟩ := box1c w #[.int .i64 0, .int .i64 0, .int .i64 0] 58
  have HW := Lib.hid hW
  clear hW
  have i0 := idxZ0
  have i1 := idxZ1
  have i2 := idxZ2
  go_enter Tryd.func16, Tryd.ntmps16
  go_upto_region 1 with fail
  rw [HW.out]
  have x0 : W.cell? ⟨w.heap.size, 0, none⟩ = some (.int .i64 0) := hX.cell 0
  have x1 : W.cell? ⟨w.heap.size, 1, none⟩ = some (.int .i64 0) := hX.cell 1
  have x2 : W.cell? ⟨w.heap.size, 2, none⟩ = some (.int .i64 0) := hX.cell 2
  go_wp2_with fail
  go_loopw [3, 5, 8] (fun s3 s5 s8 wr => ∃ i : Nat, i ≤ 3 ∧ s8 = .int .i64 (i : Int) ∧ s3 = .int .i64 0 ∧ wr = W) (fun _ _ i _ => 3 - (intOf i).toNat)
  case atStart => exact ⟨0, by omega, rfl, rfl, by first | trivial | rfl⟩
  case round =>
    obtain ⟨i, hi, rfl, rfl, rfl⟩ := hrel
    obtain rfl | rfl | rfl | rfl : i = 0 ∨ i = 1 ∨ i = 2 ∨ i = 3 := by omega
    · go_wp2_with fail
      go_roundw
      case rel => exact ⟨1, by omega, rfl, rfl, by first | trivial | rfl⟩
      case measure => simp [intOf]
    · go_wp2_with fail
      go_roundw
      case rel => exact ⟨2, by omega, rfl, rfl, by first | trivial | rfl⟩
      case measure => simp [intOf]
    · go_wp2_with fail
      go_roundw
      case rel => exact ⟨3, by omega, rfl, rfl, by first | trivial | rfl⟩
      case measure => simp [intOf]
    · go_wp2_with fail
      go_ret
      exact ⟨rfl, b0⟩
theorem boxrow2 (w : World) (Z C : Array Value) (T : TypeId) : ∃ w2, (((w.alloc (.cells Z T)).alloc (.cells Z T)).setRow w.heap.size C).setRow (w.heap.size + 1) C = w2 ∧ Blk w2 w.heap.size T C ∧ Blk w2 (w.heap.size + 1) T C ∧ Below w.heap.size w w2 := by
  have h2 := Blk.new (w.alloc (.cells Z T)) T Z
  have hz : (w.alloc (.cells Z T)).heap.size = w.heap.size + 1 := by simp
  rw [hz] at h2
  have h1 := (Blk.new w T Z).alloc (.cells Z T)
  refine ⟨_, rfl, (h1.row C).rowFar (by omega) C, (h2.rowFar (by omega) C).row C, ?_⟩
  refine ((((Below.refl w.heap.size w).alloc (Nat.le_refl _) _).alloc (by simp) _).grown (row_grown _ _ _) (by simp; omega) (fun k hk => by injection hk; omega)).grown (row_grown _ _ _) (by rw [row_size]; simp; omega) (fun k hk => by injection hk; omega)
set_option maxHeartbeats 4000000 in
set_option maxRecDepth 100000 in
theorem lawSessionNobody (w : World) (n : Int) (_ : (Lit.int .i64 n).wf = true) (hlt : LeaTab w) (ht : FsmTab w) : Calls Tryd.prog 4 #[.int .i64 n] w fun en w' => en = .returned (.bool true) ∧ Below w.heap.size w w' := by
  obtain ⟨Z, hZ⟩ : ∃ Z : Array Value, Z = #[.int .i64 0, .int .i64 0, .int .i64 0, .slice none 0 0, .int .i64 0, .int .i64 0, .slice none 0 0, .slice none 0 0, .slice none 0 0, .int .i64 0, .slice none 0 0, .int .u32 0, .int .i64 0, .int .i64 0, .bool false, .bool false, .int .u32 0, .int .u32 0, .slice none 0 0, .slice none 0 0, .slice none 0 0, .bool false, .bool false, .bool false, .bool false, .bool false] := ⟨_, rfl⟩
  have HDO := Lib.hid (fun z => hZ ▸ @nilDo z n)
  have HMS := Lib.hid (fun z => hZ ▸ @nilMessage z n)
  have hZs : Z.size = 26 := by rw [hZ]; rfl
  have hZi : (Tryd.prog.info? 48).map (·.size) = some Z.size := by rw [hZs]; exact out_info
  have hZ1 : Z.all (·.oneCell') = true := by rw [hZ]; kernel_rfl
  have hZ7 : Z[7]? = some (.slice none 0 0) := by rw [hZ]; rfl
  clear hZ
  go_enter Tryd.func4, Tryd.ntmps4
  go_wp2_with fail
  refine (HDO.out _).mono ?_
  rintro _ w1 ⟨rfl, b1⟩
  go_wp2_with fail
  refine (HMS.out _).mono ?_
  rintro _ w2 ⟨rfl, b2⟩
  rename_i hk1
  refine hk1 _ _ ?_
  clear hk1
  refine wpList_plain rfl (fun K hK => ?_)
  go_simp
  refine hK _ _ ?_
  clear hK K
  refine wpList_plain rfl (fun K hK => ?_)
  go_simp
  refine hK _ _ ?_
  clear hK K
  refine wpList_store_row rfl 48 (.tmp 4) (.tmp 9) rfl w2.heap.size Z (by rfl) (by rfl) 48 #[.int .i64 0, .int .i64 0, .int .i64 0, .slice none 0 0, .int .i64 0, .int .i64 0, .slice none 0 0, .slice none 0 0, .slice none 0 0, .int .i64 0, .slice none 0 0, .int .u32 0, .int .i64 0, .int .i64 0, .bool false, .bool false, .int .u32 0, .int .u32 0, .slice none 0 0, .slice none 0 0, .slice none 0 0, .bool false, .bool false, .bool false, .bool false, .bool false] ((Blk.new w2 _ _).alloc _) hZi hZs.symm hZ1 ?_
  refine wpList_store_row rfl 48 (.tmp 5) (.tmp 12) rfl (w2.heap.size + 1) Z (by rfl) (by rfl) 48 #[.int .i64 0, .int .i64 0, .int .i64 0, .slice none 0 0, .int .i64 0, .int .i64 0, .slice none 0 0, .slice none 0 0, .slice none 0 0, .int .i64 0, .slice none 0 0, .int .u32 0, .int .i64 0, .int .i64 0, .bool false, .bool false, .int .u32 0, .int .u32 0, .slice none 0 0, .slice none 0 0, .slice none 0 0, .bool false, .bool false, .bool false, .bool false, .bool false] (Blk.rowFar (by have := Blk.new (w2.alloc (.cells #[.int .i64 0, .int .i64 0, .int .i64 0, .slice none 0 0, .int .i64 0, .int .i64 0, .slice none 0 0, .slice none 0 0, .slice none 0 0, .int .i64 0, .slice none 0 0, .int .u32 0, .int .i64 0, .int .i64 0, .bool false, .bool false, .int .u32 0, .int .u32 0, .slice none 0 0, .slice none 0 0, .slice none 0 0, .bool false, .bool false, .bool false, .bool false, .bool false] 48)) 48 #[.int .i64 0, .int .i64 0, .int .i64 0, .slice none 0 0, .int .i64 0, .int .i64 0, .slice none 0 0, .slice none 0 0, .slice none 0 0, .int .i64 0, .slice none 0 0, .int .u32 0, .int .i64 0, .int .i64 0, .bool false, .bool false, .int .u32 0, .int .u32 0, .slice none 0 0, .slice none 0 0, .slice none 0 0, .bool false, .bool false, .bool false, .bool false, .bool false]; simpa using this) (by omega) Z) hZi hZs.symm hZ1 ?_
  go_simp
  obtain ⟨w3, hw3, A3, B3, b3⟩ := boxrow2 w2 #[.int .i64 0, .int .i64 0, .int .i64 0, .slice none 0 0, .int .i64 0, .int .i64 0, .slice none 0 0, .slice none 0 0, .slice none 0 0, .int .i64 0, .slice none 0 0, .int .u32 0, .int .i64 0, .int .i64 0, .bool false, .bool false, .int .u32 0, .int .u32 0, .slice none 0 0, .slice none 0 0, .slice none 0 0, .bool false, .bool false, .bool false, .bool false, .bool false] Z 48
  rw [hw3]
  clear hw3
  have b12 := btr b1 b2 b1.size
  have b03 := btr b12 b3 b12.size
  have a7 : w3.cell? ⟨w2.heap.size, 7, none⟩ = some (.slice none 0 0) := by rw [A3.cell]; exact hZ7
  have c7 : w3.cell? ⟨w2.heap.size + 1, 7, none⟩ = some (.slice none 0 0) := by rw [B3.cell]; exact hZ7
  go_wp2_with fail
  refine nilTick.mono ?_
  rintro _ _ ⟨rfl, rfl⟩
  go_wp2_with fail
  refine nilState.mono ?_
  rintro _ _ ⟨rfl, rfl⟩
  go_wp2_with fail
  refine nilWide.mono ?_
  rintro _ _ ⟨rfl, rfl⟩
  go_wp2_with fail
  refine nilId.mono ?_
  rintro _ _ ⟨rfl, rfl⟩
  go_wp2_with fail
  refine nilHold.mono ?_
  rintro _ _ ⟨rfl, rfl⟩
  go_wp2_with fail
  refine nilClock.mono ?_
  rintro _ w4 ⟨rfl, b4⟩
  go_wp2_with fail
  refine (nilFirst w4).mono ?_
  rintro _ w5 ⟨rfl, b5⟩
  have b04 := btr b03 b4 b03.size
  have b05 := btr b04 b5 b04.size
  go_wp2_with fail
  refine (awake23 w5 (ht.below b05) (hlt.call b05)).mono ?_
  rintro _ w6 ⟨rfl, b6⟩
  go_wp2_with fail
  go_ret
  exact ⟨rfl, btr b05 b6 b05.size⟩
end Go.Proofs.YthgjknmfghjioaaDoor
