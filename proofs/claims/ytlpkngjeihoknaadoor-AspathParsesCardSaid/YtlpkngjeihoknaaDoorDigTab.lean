/- The row's list of octet.digits gives the walks' fact on the table. No conditions. -/
import Derived.Test.YtlpkngjeihoknaaDoorRows
import Derived.Test.YtlpkngjeihoknaaDoorOctetB
import Derived.ProofKit
import Derived.Lib.LaidTab
namespace Go.Proofs.YtlpkngjeihoknaaDoor
open Go.RowKit
theorem gDig : Tryd.prog.globalNamed "speculum/octet.digits" = some 1 := by kernel_rfl
theorem gDigType : (Tryd.prog.globals[1]?).map (·.type) = some 125 := by kernel_rfl
theorem digCells16 : Tryd.prog.cellsOf 125 = 16 := by kernel_rfl
theorem digCells1 : Tryd.prog.cellsOf 5 = 1 := by kernel_rfl
theorem digTab_of_var {W : World} (h : W.var? Tryd.prog "speculum/octet.digits" = some digArr) : DigTab W := by
  unfold World.var? at h
  rw [gDig] at h
  simp only [Option.bind_some] at h
  split at h
  · rename_i cs t fr he
    injection h with h
    subst h
    exact ⟨t, fr, he⟩
  · cases h
theorem digTab_at {W : World} {rest : List (String × DataW Unit)} (h : laidMet Tryd.prog (("speculum/octet.digits", Rows.laid_speculum_octet_digits) :: rest) W) : DigTab W := by
  have h1 : Lib.TabIs Tryd.prog W "speculum/octet.digits" .u8 (digitsL.map fun n : Nat => (n : Int)) := Lib.tabIs_of_head (rest := rest) gDig gDigType Tryd.underlying125 Tryd.underlying5 digCells1 digCells16 h
  exact digTab_of_var h1
theorem digTab_of {W : World} (h : laidMetH Tryd.prog [("speculum/octet.digits", Rows.laid_speculum_octet_digits)] W) : DigTab W := digTab_at h
end Go.Proofs.YtlpkngjeihoknaaDoor
