/- The walks of three laws of layer 21: FsmSteps, FsmFaults, FsmFalls. Conditions: the table's cells (FsmTab). -/
import Derived.Test.YtdcldmblgbefnaaDoorProg
import Derived.WalkKit
import Derived.WalkSpells
import Derived.WalkLawsBesides
import Derived.Outline
import Derived.Deep.QuietTactic
import Derived.BigQuiet
import Derived.Handy
import Derived.Lib.Hide
import Derived.Test.YtdcldmblgbefnaaDoorFsmC
namespace Go.Proofs.YtdcldmblgbefnaaDoor
open Go.RowKit
/-- A field of a fault by value. -/
theorem fault_code (a b : Int) (s : Value) (w : World) : (Instr.field 29 (.agg #[.int .i64 a, .int .i64 b, s]) 0).run Tryd.prog w = .ok (.int .i64 a) w := by kernel_rfl
set_option maxHeartbeats 1000000 in
set_option maxRecDepth 100000 in
theorem awake21 (w : World) (ht : FsmTab w) : Calls Tryd.prog 27 #[] w fun en w' => en = .returned (.bool true) ∧ Below w.heap.size w w' := by
  have hf0 := fault_code
  have HT := Lib.hid (show fsmTo 0 0 = 1 ∧ fsmDo 0 0 = 129 by decide)
  have HN := Lib.hid (show fsmName 5 = ⟨#[101, 115, 116, 97, 98, 108, 105, 115, 104, 101, 100]⟩ by decide)
  have HF := Lib.hid (show fsmFault 5 (.agg #[.int .i64 0, .int .i64 0, .slice none 0 0]) = .agg #[.int .i64 4, .int .i64 0, .slice none 0 0] from rfl)
  go_enter Tryd.func27, Tryd.ntmps27
  go_wp2_with fail
  refine (fsmStep 0 0 _ ht).mono ?_
  rw [HT.out.1, HT.out.2]
  rintro _ w1 ⟨rfl, hb1⟩
  go_wp2_with fail
  refine (fsmName_any 5 _).mono ?_
  rw [HN.out]
  rintro _ w2 ⟨rfl, hb2⟩
  go_wp2_with fail
  refine (fsmFault_any 5 0 0 none 0 0 _).mono ?_

  rw [HF.out]

  rintro _ w3 ⟨rfl, hb3⟩
  go_wp2_with fail
  go_ret
  exact ⟨rfl, hb1.trans ((hb2.mono hb1.size).trans (hb3.mono (Nat.le_trans hb1.size hb2.size)))⟩
set_option maxHeartbeats 1000000 in
set_option maxRecDepth 100000 in
theorem lawFsmSteps (s e : Int) (w : World) (ht : FsmTab w) : Calls Tryd.prog 3 #[.int .i64 s, .int .i64 e] w fun en w' => en = .returned (.bool true) ∧ Below w.heap.size w w' := by
  go_enter Tryd.func3, Tryd.ntmps3
  go_wp2_with fail
  refine (fsmStep s e _ ht).mono ?_
  rintro _ w1 ⟨rfl, hb1⟩
  go_wp2_with fail
  refine (refStep s e _).mono ?_
  rintro _ w2 ⟨rfl, hb2⟩
  go_wp2_with fail
  refine (fsmName_any s _).mono ?_
  rintro _ w3 ⟨rfl, hb3⟩
  go_wp2_with fail
  refine (refName_any s _).mono ?_
  rintro _ w4 ⟨rfl, rfl⟩
  go_wp2_with fail
  have hb : Below w.heap.size w w3 := hb1.trans ((hb2.mono hb1.size).trans (hb3.mono (Nat.le_trans hb1.size hb2.size)))
  refine (awake21 _ (ht.below hb)).mono ?_
  rintro _ w5 ⟨rfl, hb5⟩
  go_wp2_with fail
  go_ret
  exact ⟨rfl, hb.trans (hb5.mono hb.size)⟩
theorem lawFsmSteps' (w : World) (s : Int) (_ : (Lit.int .i64 s).wf = true) (e : Int) (_ : (Lit.int .i64 e).wf = true) (ht : FsmTab w) : Calls Tryd.prog 3 #[.int .i64 s, .int .i64 e] w fun en w' => en = .returned (.bool true) ∧ Below w.heap.size w w' := lawFsmSteps s e w ht
end Go.Proofs.YtdcldmblgbefnaaDoor
