/-
  DERIVED. GIVEN WITH THE SEED: THE PROGRAM's TIES (one call each: nine closed facts by the kernel) AND EACH ROW's TIE, after the 31st guide's Derived/Test/Toyas{Tie, Card}.lean. No idea stands in it: it is a product of the set-up. Laid BY PROGRAM, IN A SANDBOX (cutbox-door.mjs). By AI agents, Wed Nov 11 2026. No macro, syntax, notation, axiom, sorry.
-/
import Derived.Test.YthgjknmfghjioaaDoorRows
import Derived.LaidByTextLater
import Derived.SevenTiedAt
import Derived.LaidSub
import Derived.LaidOnce
namespace Go.Proofs.YthgjknmfghjioaaDoor
open Go
set_option maxRecDepth 100000
theorem seatTie1 : Tryd.prog.laidByTextLater [("speculum/frame.leasts", Rows.laid_speculum_frame_leasts), ("speculum/fsm.table", Rows.laid_speculum_fsm_table), ("speculum/attrs.looks", Rows.laid_speculum_attrs_looks)] [.data, .data, .data] true :=
  Program.laidByTextLater_by_one 122 8 193 (by kernel_rfl) (by kernel_rfl) (by kernel_rfl) (by kernel_rfl) (by kernel_rfl) (by kernel_rfl) (fun _ _ => by kernel_rfl)
theorem noOwnUnsafe : Tryd.pinned.checked.prog.headLifts.contains "ownunsafe" = false := by kernel_rfl
theorem tie : Tryd.prog.laidByTextLater [("speculum/frame.leasts", Rows.laid_speculum_frame_leasts), ("speculum/fsm.table", Rows.laid_speculum_fsm_table), ("speculum/attrs.looks", Rows.laid_speculum_attrs_looks)] [.data, .data, .data] true :=
  Program.laidByTextLater.sub seatTie1 ["speculum/frame.leasts", "speculum/fsm.table", "speculum/attrs.looks"] (by kernel_rfl) (by kernel_rfl)
theorem sessionHolds_row_tie : Rows.sessionHoldsRow.laidByTextAt .later Tryd.pinned [.data, .data, .data] true :=
  OpenClaim.laidByTextAt_later rfl rfl tie noOwnUnsafe
theorem sessionNobody_row_tie : Rows.sessionNobodyRow.laidByTextAt .later Tryd.pinned [.data, .data, .data] true :=
  OpenClaim.laidByTextAt_later rfl rfl tie noOwnUnsafe
theorem sessionHoldsUpto_row_tie : Rows.sessionHoldsUptoRow.laidByTextAt .later Tryd.pinned [.data, .data, .data] true :=
  OpenClaim.laidByTextAt_later rfl rfl tie noOwnUnsafe
theorem sessionNobodyUpto_row_tie : Rows.sessionNobodyUptoRow.laidByTextAt .later Tryd.pinned [.data, .data, .data] true :=
  OpenClaim.laidByTextAt_later rfl rfl tie noOwnUnsafe
end Go.Proofs.YthgjknmfghjioaaDoor
