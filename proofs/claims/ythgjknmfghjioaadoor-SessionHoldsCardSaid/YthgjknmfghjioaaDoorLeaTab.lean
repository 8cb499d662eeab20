/- The row's list of frame.leasts gives the walks' fact on the table. No conditions. -/
import Derived.Test.YthgjknmfghjioaaDoorRows
import Derived.Test.YthgjknmfghjioaaDoorFrame
import Derived.ProofKit
import Derived.Lib.LaidTab
namespace Go.Proofs.YthgjknmfghjioaaDoor
open Go.RowKit
theorem gLea : Tryd.prog.globalNamed "speculum/frame.leasts" = some 1 := by kernel_rfl
theorem gLeaType : (Tryd.prog.globals[1]?).map (·.type) = some 130 := by kernel_rfl
theorem leaCells5 : Tryd.prog.cellsOf 130 = 5 := by kernel_rfl
theorem leaCells1 : Tryd.prog.cellsOf 3 = 1 := by kernel_rfl
theorem leaTab_of_var {W : World} (h : W.var? Tryd.prog "speculum/frame.leasts" = some leaArr) : LeaTab W := by
  unfold World.var? at h
  rw [gLea] at h
  simp only [Option.bind_some] at h
  split at h
  · rename_i cs t fr he
    injection h with h
    subst h
    exact ⟨t, fr, he⟩
  · cases h
theorem leaTab_at {W : World} {rest : List (String × DataW Unit)} (h : laidMet Tryd.prog (("speculum/frame.leasts", Rows.laid_speculum_frame_leasts) :: rest) W) : LeaTab W := by
  have h1 : Lib.TabIs Tryd.prog W "speculum/frame.leasts" .i64 (leastsL.map fun n : Nat => (n : Int)) := Lib.tabIs_of_head (rest := rest) gLea gLeaType Tryd.underlying130 Tryd.underlying3 leaCells1 leaCells5 h
  exact leaTab_of_var h1
theorem leaTab_of {W : World} (h : laidMetH Tryd.prog [("speculum/frame.leasts", Rows.laid_speculum_frame_leasts)] W) : LeaTab W := leaTab_at h
end Go.Proofs.YthgjknmfghjioaaDoor
