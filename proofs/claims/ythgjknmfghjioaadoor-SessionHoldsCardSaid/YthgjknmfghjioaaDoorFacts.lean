/- Facts on the program alone, asked once for the seat; the row's thirty-two facts put together. No conditions. -/
import Derived.Test.YthgjknmfghjioaaDoorRows
import Derived.Test.YthgjknmfghjioaaDoorCards
import Derived.ProofKit
import Derived.JoinedCond
namespace Go.Proofs.YthgjknmfghjioaaDoor
set_option maxRecDepth 100000
set_option maxHeartbeats 4000000
theorem and32 {b1 b2 b3 b4 b5 b6 b7 b8 b9 b10 b11 b12 b13 b14 b15 b16 b17 b18 b19 b20 b21 b22 b23 b24 b25 b26 b27 b28 b29 b30 b31 b32 : Bool} (h1 : b1 = true) (h2 : b2 = true) (h3 : b3 = true) (h4 : b4 = true) (h5 : b5 = true) (h6 : b6 = true) (h7 : b7 = true) (h8 : b8 = true) (h9 : b9 = true) (h10 : b10 = true) (h11 : b11 = true) (h12 : b12 = true) (h13 : b13 = true) (h14 : b14 = true) (h15 : b15 = true) (h16 : b16 = true) (h17 : b17 = true) (h18 : b18 = true) (h19 : b19 = true) (h20 : b20 = true) (h21 : b21 = true) (h22 : b22 = true) (h23 : b23 = true) (h24 : b24 = true) (h25 : b25 = true) (h26 : b26 = true) (h27 : b27 = true) (h28 : b28 = true) (h29 : b29 = true) (h30 : b30 = true) (h31 : b31 = true) (h32 : b32 = true) :
    (b1 && b2 && b3 && b4 && b5 && b6 && b7 && b8 && b9 && b10 && b11 && b12 && b13 && b14 && b15 && b16 && b17 && b18 && b19 && b20 && b21 && b22 && b23 && b24 && b25 && b26 && b27 && b28 && b29 && b30 && b31 && b32) = true := by
  subst h1 h2 h3 h4 h5 h6 h7 h8 h9 h10 h11 h12 h13 h14 h15 h16 h17 h18 h19 h20 h21 h22 h23 h24 h25 h26 h27 h28 h29 h30 h31 h32; rfl
theorem pfLaid : laidOutB Tryd.prog = true := by kernel_rfl
theorem pfMaps : mapsRowed Tryd.prog = true := by kernel_rfl
theorem pfStops : (Tryd.prog.stops == []) = true := by kernel_rfl
theorem pfKnobs : (Tryd.prog.stopKnobs == []) = true := by kernel_rfl
theorem pfKeys : (true == Tryd.prog.plainKeys) = true := by kernel_rfl
theorem pfHeard : Tryd.prog.stopsHeard = true := by kernel_rfl
theorem pfEnter : Tryd.prog.mayEnter = true := by kernel_rfl
theorem pfLifted : (Rows.sessionHoldsRow.lifted == Tryd.prog.liftsFinal) = true := by kernel_rfl
theorem pfMake : (Tryd.prog.make == some Rows.sessionHoldsRow.make) = true := by kernel_rfl
theorem pfMain : Tryd.pinned.checked.prog.mainIs = some (Rows.sessionHoldsCard.stood.harness.1, Rows.sessionHoldsCard.stood.harness.2.toList) := by kernel_rfl
end Go.Proofs.YthgjknmfghjioaaDoor
