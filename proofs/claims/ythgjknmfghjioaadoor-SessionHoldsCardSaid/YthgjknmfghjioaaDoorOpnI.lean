/- Walks of layer 6 (open): the number of an AS, the hold time, and the document's. No conditions but sizes. -/
import Derived.Test.YthgjknmfghjioaaDoorProg
import Derived.WalkKit
import Derived.WalkSpells
import Derived.WalkLawsBesides
import Derived.Outline
import Derived.Deep.QuietTactic
import Derived.BigQuiet
import Derived.Handy
import Derived.Lib.Hide
import Derived.Test.YthgjknmfghjioaaDoorOpnH
namespace Go.Proofs.YthgjknmfghjioaaDoor
open Go.RowKit
set_option linter.unusedSimpArgs false
set_option linter.unusedVariables false
def asO (a : Int) (l : List Cap) : Int := if (wideO l).2 = true then ((wideO l).1 : Int) else IntKind.u32.wrap a
def holdO (x y : Int) : Int := if x = 0 ∨ y = 0 then 0 else if x < y then x else y
theorem holdO_comm (x y : Int) : holdO x y = holdO y x := by
  unfold holdO
  split <;> split <;> (try split) <;> (try split) <;> omega
set_option maxHeartbeats 1000000 in
set_option maxRecDepth 100000 in
theorem openAS (v a h : Int) (i : Nat) (A : Option Addr) (n c : Nat) (l : List Cap) (w : World) (hd : DL rCap 2 w (Lo w) A n l) (hn : n ≤ 100000) :
    Calls Tryd.prog 61 #[.agg #[.int .i64 v, .int .i64 a, .int .i64 h, .int .u32 i, .slice A n c]] w fun en w' => en = .returned (.int .u32 (asO a l)) ∧ Below w.heap.size w w' := by
  obtain ⟨W, hW, hX, b0⟩ := box1c w #[.int .i64 v, .int .i64 a, .int .i64 h, .int .u32 i, .slice A n c] 66
  have HW := Lib.hid hW
  clear hW
  have hD := hd.keep rCap_ok ((Kp.lt b0).trans (Kp.sub fun b hb => Nat.lt_of_lt_of_le hb b0.size))
  obtain ⟨p, hp⟩ : ∃ p, wideO l = p := ⟨_, rfl⟩
  have HC := openWide v a h i A n c l W hD hn
  rw [hp] at HC
  have HP := Lib.hid hp
  clear hp
  obtain ⟨N, b⟩ := p
  simp only at HC
  go_enter Tryd.func61, Tryd.ntmps61
  go_upto_region 1 with fail
  rw [HW.out]
  have c_hX0 := hX.cell 0
  have c_hX1 := hX.cell 1
  have c_hX2 := hX.cell 2
  have c_hX3 := hX.cell 3
  have c_hX4 := hX.cell 4
  go_wp2_with fail
  refine HC.mono ?_
  rintro _ w1 ⟨rfl, b1⟩
  clear c_hX0 c_hX1 c_hX2 c_hX3 c_hX4
  have b01 := btr b0 b1 b0.size
  have hX_1 := hX.below b1 hX.lt
  have c_hX0 := hX_1.cell 0
  have c_hX1 := hX_1.cell 1
  have c_hX2 := hX_1.cell 2
  have c_hX3 := hX_1.cell 3
  have c_hX4 := hX_1.cell 4
  cases b
  · have HE := Lib.hid (show asO a l = IntKind.u32.wrap a by unfold asO; rw [HP.out]; rfl)
    go_wp2_with fail
    go_ret
    exact ⟨by rw [HE.out]; rfl, b01⟩
  · have HE := Lib.hid (show asO a l = N by unfold asO; rw [HP.out]; rfl)
    go_wp2_with fail
    go_ret
    exact ⟨by rw [HE.out]; rfl, b01⟩
set_option maxHeartbeats 1000000 in
set_option maxRecDepth 100000 in
theorem openHold (x y : Int) (w : World) :
    Calls Tryd.prog 44 #[.int .i64 x, .int .i64 y] w fun en w' => en = .returned (.int .i64 (holdO x y)) ∧ w' = w := by
  by_cases h1 : x = 0
  · have t1 : (x == 0) = true := by rw [h1]; rfl
    have HE := Lib.hid (show holdO x y = 0 by unfold holdO; rw [if_pos (.inl h1)])
    clear h1
    go_enter Tryd.func44, Tryd.ntmps44
    go_wp2_with fail
    go_ret
    exact ⟨by rw [HE.out]; rfl, rfl⟩
  have t1 : (x == 0) = false := by simpa using h1
  by_cases h2 : y = 0
  · have t2 : (y == 0) = true := by rw [h2]; rfl
    have HE := Lib.hid (show holdO x y = 0 by unfold holdO; rw [if_pos (.inr h2)])
    clear h1 h2
    go_enter Tryd.func44, Tryd.ntmps44
    go_wp2_with fail
    go_ret
    exact ⟨by rw [HE.out]; rfl, rfl⟩
  have t2 : (y == 0) = false := by simpa using h2
  have HE0 : holdO x y = if x < y then x else y := by unfold holdO; rw [if_neg (by omega)]
  by_cases h3 : x < y
  · have t3 : decide (x < y) = true := decide_eq_true h3
    have HE := Lib.hid (show holdO x y = x by rw [HE0, if_pos h3])
    have m1 : min x y = x := by omega
    clear h1 h2 HE0
    go_enter Tryd.func44, Tryd.ntmps44
    go_wp2_with fail
    go_ret
    exact ⟨by rw [HE.out]; first | rfl | exact congrArg (fun z => Ending.returned (.int .i64 z)) m1, rfl⟩
  · have t3 : decide (x < y) = false := decide_eq_false h3
    have HE := Lib.hid (show holdO x y = y by rw [HE0, if_neg h3])
    have m1 : min x y = y := by omega
    clear h1 h2 HE0
    go_enter Tryd.func44, Tryd.ntmps44
    go_wp2_with fail
    all_goals go_ret
    all_goals first
      | exact ⟨by rw [HE.out]; rfl, rfl⟩
      | exact ⟨by rw [HE.out, show y = x by omega]; rfl, rfl⟩
/-- What a Check finds. -/
def checkO (v a h : Int) (i : Nat) (l : List Cap) (p q : Int) : Nat × List UInt8 :=
  if v ≠ 4 then (1, [ub 0, ub 4]) else if asO a l ≠ p then (2, []) else if (i : Int) = 0 ∨ (i : Int) = q then (3, []) else if h = 1 ∨ h = 2 then (6, []) else (0, [])
def RetFlt (w : World) (r : Nat × List UInt8) (e : Ending) (w' : World) : Prop :=
  ∃ (A : Option Addr) (n c : Nat), e = .returned (.agg #[.int .i64 (if r.1 = 0 then 0 else 2), .int .i64 (r.1 : Nat), .slice A n c]) ∧ BS w' w'.heap.size A n r.2 ∧ Below w.heap.size w w'
theorem st3 {B : Nat} {a w : World} {F : Nat} {u : TypeId} {f0 f1 f2 : Value} (hF : Blk w F u #[f0, f1, f2]) (hb : Below B a w) (h2 : B ≤ F) (y0 y1 y2 : Value) :
    ∀ X, X = ((w.setCell ⟨F, 0, none⟩ y0).setCell ⟨F, 1, none⟩ y1).setCell ⟨F, 2, none⟩ y2 →
      Blk X F u #[y0, y1, y2] ∧ Below B a X ∧ w.heap.size ≤ X.heap.size ∧ w.grownBy X (some F) := by
  rintro X rfl
  refine ⟨?_, ?_, by simp [World.setCell], ?_⟩
  · have := ((hF.set_ 0 y0).set_ 1 y1).set_ 2 y2
    simpa using this
  · exact (((hb.setCell (p := ⟨F, 0, none⟩) h2 y0).setCell (p := ⟨F, 1, none⟩) h2 y1).setCell (p := ⟨F, 2, none⟩) h2 y2)
  · exact only_setCell (only_setCell (only_setCell (World.grownBy.refl w (some F)) (p := ⟨F, 0, none⟩) (.inl rfl) y0) (p := ⟨F, 1, none⟩) (.inl rfl) y1) (p := ⟨F, 2, none⟩) (.inl rfl) y2
end Go.Proofs.YthgjknmfghjioaaDoor
