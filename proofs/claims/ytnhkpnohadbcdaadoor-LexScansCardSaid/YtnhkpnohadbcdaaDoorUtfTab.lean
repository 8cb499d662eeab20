/- The row's list of octet.digits and of utf8's two tables gives the walks' facts. No conditions. -/
import Derived.Test.YtnhkpnohadbcdaaDoorRows
import Derived.Test.YtnhkpnohadbcdaaDoorDigTab
import Derived.Test.YtnhkpnohadbcdaaDoorLexB
import Derived.ProofKit
import Derived.Lib.LaidTab
import Derived.Lib.LaidU8
namespace Go.Proofs.YtnhkpnohadbcdaaDoor
open Go.RowKit
theorem accEq : (Rows.laid_unicode_utf8_acceptRanges : DataW Unit) = Lib.acceptData := by kernel_rfl
theorem fstEq : Rows.laid_unicode_utf8_first = Lib.firstData := by kernel_rfl
def accCells : List Value := (List.range 16).flatMap fun i => [Value.int .u8 (Lib.accLo i : Int), Value.int .u8 (Lib.accHi i : Int)]
def fstCells : List Value := (List.range 256).map fun c => Value.int .u8 (Lib.firstT c : Int)
theorem lexTabs {W : World} (h : laidMetH Tryd.prog [("speculum/octet.digits", Rows.laid_speculum_octet_digits), ("unicode/utf8.acceptRanges", Rows.laid_unicode_utf8_acceptRanges), ("unicode/utf8.first", Rows.laid_unicode_utf8_first)] W) : DigTab W ∧ UT W := by
  have hL : laidMet Tryd.prog [("speculum/octet.digits", Rows.laid_speculum_octet_digits), ("unicode/utf8.acceptRanges", Rows.laid_unicode_utf8_acceptRanges), ("unicode/utf8.first", Rows.laid_unicode_utf8_first)] W := h
  refine ⟨digTab_at hL, ?_⟩
  have r1 := Lib.laidMet.reads hL (.tail _ (.tail _ (.head _)))
  have r2 := Lib.laidMet.reads hL (.tail _ (.head _))
  rw [fstEq] at r1
  rw [accEq] at r2
  exact utf8Tabs_of_reads (ρ := Tryd.lays197_ren) { Tryd.lays197 with } ⟨by kernel_rfl, by kernel_rfl, by kernel_rfl, by kernel_rfl, by kernel_rfl, by kernel_rfl, by kernel_rfl⟩ r1 r2
end Go.Proofs.YtnhkpnohadbcdaaDoor
