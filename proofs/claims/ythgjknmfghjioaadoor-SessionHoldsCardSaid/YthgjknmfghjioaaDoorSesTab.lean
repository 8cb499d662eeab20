/- The row's list of three tables gives the walks' facts. No conditions. -/
import Derived.Test.YthgjknmfghjioaaDoorRows
import Derived.Test.YthgjknmfghjioaaDoorFsmTab
import Derived.Test.YthgjknmfghjioaaDoorLeaTab
import Derived.LaidSub
namespace Go.Proofs.YthgjknmfghjioaaDoor
open Go.ChangeShapes Go.WideShapes Go.RowKit
def lookTblS : List (Nat × Nat × Nat) := [(0, 0, 0), (64, 1, 1), (64, 0, 65536), (64, 4, 4), (128, 4, 4), (64, 4, 4), (64, 0, 0), (192, 6, 8), (192, 0, 65536), (0, 0, 0), (0, 0, 0), (0, 0, 0), (0, 0, 0), (0, 0, 0), (0, 0, 0), (0, 0, 0), (0, 0, 0), (192, 0, 65536), (192, 0, 65536)]
abbrev sesLaid : List (String × DataW Unit) := [("speculum/frame.leasts", Rows.laid_speculum_frame_leasts), ("speculum/fsm.table", Rows.laid_speculum_fsm_table), ("speculum/attrs.looks", Rows.laid_speculum_attrs_looks)]
theorem sesLaid_lea : sesLaid.filter (fun x => x.1 == "speculum/frame.leasts") = [("speculum/frame.leasts", Rows.laid_speculum_frame_leasts)] := by kernel_rfl
theorem sesLaid_fsm : sesLaid.filter (fun x => x.1 == "speculum/fsm.table") = [("speculum/fsm.table", Rows.laid_speculum_fsm_table)] := by kernel_rfl
theorem sesLea {W : World} (h : laidMetH Tryd.prog sesLaid W) : LeaTab W := leaTab_of (by have := h.filter (fun x => x.1 == "speculum/frame.leasts"); rw [sesLaid_lea] at this; exact this)
theorem sesFsm {W : World} (h : laidMetH Tryd.prog sesLaid W) : FsmTab W := fsmTab_of (by have := h.filter (fun x => x.1 == "speculum/fsm.table"); rw [sesLaid_fsm] at this; exact this)
end Go.Proofs.YthgjknmfghjioaaDoor
