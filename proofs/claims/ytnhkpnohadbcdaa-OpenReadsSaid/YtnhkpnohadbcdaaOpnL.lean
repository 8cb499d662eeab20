/- Walks of layer 6 (open): the example. No conditions. -/
import Derived.Test.YtnhkpnohadbcdaaProg
import Derived.WalkKit
import Derived.WalkSpells
import Derived.WalkLawsBesides
import Derived.Outline
import Derived.Deep.QuietTactic
import Derived.BigQuiet
import Derived.Handy
import Derived.Lib.Hide
import Derived.Test.YtnhkpnohadbcdaaOpnK
namespace Go.Proofs.Ytnhkpnohadbcdaa
open Go.RowKit
set_option linter.unusedSimpArgs false
set_option linter.unusedVariables false
def exC : List Cap := [(65, b32 70000)]
def exO : Opn := ⟨4, 23456, 90, 1, exC⟩
theorem exOk : putOk exO = true := by decide +kernel
theorem exLen : (putB exO).length = 18 := by decide +kernel
theorem exAS : asO 23456 exC = 70000 := by decide +kernel
theorem exHold : holdO 90 30 = 30 := by decide +kernel
theorem exMine (w : World) : Calls Try.prog 22 #[.agg #[.int .u32 70000, .int .u32 1, .int .u32 0, .int .i64 90]] w fun en w' => ∃ (A : Option Addr) (c : Nat), en = .returned (.agg #[.int .i64 4, .int .i64 23456, .int .i64 90, .int .u32 1, .slice A 1 c]) ∧ DL rCap 2 w' (Lo w') A 1 exC ∧ Below w.heap.size w w' :=
  (openMine 70000 1 0 90 w (by omega)).mono fun _ _ ⟨A, c, h1, h2, _, h4⟩ => ⟨A, c, by rw [h1]; rfl, h2, h4⟩
theorem exPut (A : Option Addr) (c : Nat) (w : World) (hd : DL rCap 2 w (Lo w) A 1 exC) : Calls Try.prog 9 #[.agg #[.int .i64 4, .int .i64 23456, .int .i64 90, .int .u32 1, .slice A 1 c]] w fun en w' => ∃ (A : Option Addr) (c : Nat), en = .returned (.tuple #[.slice A 18 c, .int .i64 0]) ∧ OB w' 5 w.heap.size A 18 c (putB exO) ∧ Below w.heap.size w w' :=
  (openPut 4 23456 90 1 (by omega) A 1 c exC w hd (by omega)).mono fun _ _ ⟨A, n, c, h1, h2, h3⟩ => by
    rw [show (⟨4, 23456, 90, 1, exC⟩ : Opn) = exO from rfl, if_pos exOk] at h1 h2
    have hn : n = 18 := h2.1.trans exLen
    subst hn
    exact ⟨A, c, h1, h2, h3⟩
theorem exRead (A : Option Addr) (c : Nat) (w : World) (h : BS w w.heap.size A 18 (putB exO)) : Calls Try.prog 12 #[.slice A 18 c] w fun en w' => ∃ (A : Option Addr) (n c : Nat), en = .returned (.tuple #[.agg #[.int .i64 4, .int .i64 23456, .int .i64 90, .int .u32 1, .slice A n c], .agg #[.int .i64 0, .int .i64 0, .slice none 0 0]]) ∧ DL rCap 2 w' (Lo w') A n exC ∧ Below w.heap.size w w' :=
  (openRead A 18 c (putB exO) w h (by omega)).mono fun _ _ ⟨h0, h1⟩ => by
    rw [readO_put exOk (by decide)] at h1
    obtain ⟨A, n, c, h1, h2, _⟩ := h1
    exact ⟨A, n, c, h1, h2, h0⟩
set_option maxHeartbeats 2000000 in
set_option maxRecDepth 100000 in
theorem awake06 (w : World) : Calls Try.prog 8 #[] w fun en w' => en = .returned (.bool true) ∧ Below w.heap.size w w' := by
  go_enter Try.func8, Try.ntmps8
  go_wp2_with fail
  refine (exMine _).mono ?_
  rintro _ w1 ⟨A1, c1, rfl, hd1, b1⟩
  have b01 := b1
  go_upto_region 2 with fail
  obtain ⟨w2, hw2, hO, b2⟩ := box1c w1 #[.int .i64 4, .int .i64 23456, .int .i64 90, .int .u32 1, .slice A1 1 c1] 25
  rw [hw2]
  clear hw2
  have b02 := btr b01 b2 b01.size
  have hd2 := hd1.call rCap_ok b2
  have c_hO0 := hO.cell 0
  have c_hO1 := hO.cell 1
  have c_hO2 := hO.cell 2
  have c_hO3 := hO.cell 3
  have c_hO4 := hO.cell 4
  go_wp2_with fail
  refine (exPut A1 c1 _ hd2).mono ?_
  rintro _ w3 ⟨A3, c3, rfl, o3, b3⟩
  clear c_hO0 c_hO1 c_hO2 c_hO3 c_hO4
  have b03 := btr b02 b3 b02.size
  have hO_3 := hO.below b3 hO.lt
  have c_hO0 := hO_3.cell 0
  have c_hO1 := hO_3.cell 1
  have c_hO2 := hO_3.cell 2
  have c_hO3 := hO_3.cell 3
  have c_hO4 := hO_3.cell 4
  go_wp2_with fail
  refine (exRead A3 c3 _ o3.bs).mono ?_
  rintro _ w4 ⟨A4, n4, c4, rfl, hd4, b4⟩
  clear c_hO0 c_hO1 c_hO2 c_hO3 c_hO4
  have b04 := btr b03 b4 b03.size
  have hO_4 := hO_3.below b4 hO_3.lt
  clear hO_3
  have c_hO0 := hO_4.cell 0
  have c_hO1 := hO_4.cell 1
  have c_hO2 := hO_4.cell 2
  have c_hO3 := hO_4.cell 3
  have c_hO4 := hO_4.cell 4
  have hn4 : n4 = 1 := hd4.len
  subst hn4
  go_upto_region 4 with fail
  obtain ⟨w5, hw5, hX, hF, b5⟩ := boxes2 w4 #[.int .i64 4, .int .i64 23456, .int .i64 90, .int .u32 1, .slice A4 1 c4] #[.int .i64 0, .int .i64 0, .slice none 0 0] 25 36
  rw [hw5]
  clear hw5
  clear c_hO0 c_hO1 c_hO2 c_hO3 c_hO4
  have b05 := btr b04 b5 b04.size
  have hO_5 := hO_4.below b5 hO_4.lt
  clear hO_4
  have c_hO0 := hO_5.cell 0
  have c_hO1 := hO_5.cell 1
  have c_hO2 := hO_5.cell 2
  have c_hO3 := hO_5.cell 3
  have c_hO4 := hO_5.cell 4
  have hd5 := hd4.call rCap_ok b5
  have c_hX0 := hX.cell 0
  have c_hX1 := hX.cell 1
  have c_hX2 := hX.cell 2
  have c_hX3 := hX.cell 3
  have c_hX4 := hX.cell 4
  have c_hF0 := hF.cell 0
  clear c_hO0 c_hO1 c_hO2 c_hO3 c_hO4
  have c_hO1 := hO_5.cell 1
  go_wp2_with fail
  refine (openAS 4 23456 90 1 A4 1 c4 exC _ hd5 (by omega)).mono ?_
  rintro _ w6 ⟨rfl, b6⟩
  clear c_hO1 c_hX0 c_hX1 c_hX2 c_hX3 c_hX4 c_hF0
  have b06 := btr b05 b6 b05.size
  have hO_6 := hO_5.below b6 hO_5.lt
  clear hO_5
  have hX_6 := hX.below b6 hX.lt
  have hF_6 := hF.below b6 hF.lt
  have c_hO1 := hO_6.cell 1
  have c_hX0 := hX_6.cell 0
  have c_hX1 := hX_6.cell 1
  have c_hX2 := hX_6.cell 2
  have c_hX3 := hX_6.cell 3
  have c_hX4 := hX_6.cell 4
  have c_hF0 := hF_6.cell 0
  rw [exAS]
  go_wp2_with fail
  refine (openHold 90 30 _).mono ?_
  rw [exHold]
  rintro _ _ ⟨rfl, rfl⟩
  go_wp2_with fail
  go_ret
  exact ⟨rfl, b06⟩
end Go.Proofs.Ytnhkpnohadbcdaa
