/- Walks of layer 7 (frame): Least, Put, and the document's. Conditions: the table of least lengths (LeaTab). -/
import Derived.Test.YthgjknmfghjioaaDoorProg
import Derived.WalkKit
import Derived.WalkSpells
import Derived.WalkLawsBesides
import Derived.Outline
import Derived.Deep.QuietTactic
import Derived.BigQuiet
import Derived.Handy
import Derived.Lib.Hide
import Derived.Deep.RegionHeld3
import Derived.Test.YthgjknmfghjioaaDoorOctet
import Derived.Test.YthgjknmfghjioaaDoorRef01
namespace Go.Proofs.YthgjknmfghjioaaDoor
open Go.RowKit
def leastsL : List Nat := [0, 29, 23, 21, 19]
/-- The table, as a row of five cells. -/
def leaArr : Array Value := (leastsL.map fun b : Nat => Value.int .i64 (b : Int)).toArray
def LeaTab (w : World) : Prop := ∃ t fr, w.heap[1]? = some (.cells leaArr t fr)
theorem LeaTab.lt {w : World} (h : LeaTab w) : 1 < w.heap.size := by
  obtain ⟨t, fr, h⟩ := h
  rcases Nat.lt_or_ge 1 w.heap.size with hlt | hge
  · exact hlt
  · rw [Array.getElem?_eq_none hge] at h; cases h
theorem LeaTab.below {B : Nat} {w w' : World} (h : LeaTab w) (hb : Below B w w') (hB : w.heap.size ≤ B) : LeaTab w' := by
  have hlt := h.lt
  obtain ⟨t, fr, h⟩ := h
  exact ⟨t, fr, (hb.block _ (by omega)).trans h⟩
theorem LeaTab.call {w w' : World} (h : LeaTab w) (hb : Below w.heap.size w w') : LeaTab w' := h.below hb (Nat.le_refl _)
theorem LeaTab.at_ {w : World} (h : LeaTab w) (k : Nat) : w.cell? ⟨1, k, none⟩ = leaArr[k]? := by
  obtain ⟨t, fr, h⟩ := h
  rw [cell_of_row _ _ _ _ _ _ h]
def leastOf (k : Int) : Int := if k = 1 then 29 else if k = 2 then 23 else if k = 3 then 21 else if k = 4 then 19 else 0
set_option maxHeartbeats 1000000 in
set_option maxRecDepth 100000 in
theorem frameLeast (k : Int) (w : World) (ht : LeaTab w) :
    Calls Tryd.prog 51 #[.int .i64 k] w fun en w' => en = .returned (.int .i64 (leastOf k)) ∧ w = w' := by
  by_cases h0 : k < 0
  · have e : leastOf k = 0 := by unfold leastOf; repeat' split <;> omega
    rw [e]
    go_enter Tryd.func51, Tryd.ntmps51
    go_wp2_with fail
    go_ret
    exact ⟨rfl, rfl⟩
  by_cases h5 : 5 ≤ k
  · have e : leastOf k = 0 := by unfold leastOf; repeat' split <;> omega
    rw [e]
    go_enter Tryd.func51, Tryd.ntmps51
    go_wp2_with fail
    go_ret
    exact ⟨rfl, rfl⟩
  have h : k = 0 ∨ k = 1 ∨ k = 2 ∨ k = 3 ∨ k = 4 := by omega
  have c0 : w.cell? ⟨1, 0, none⟩ = some (.int .i64 0) := ht.at_ 0
  have c1 : w.cell? ⟨1, 1, none⟩ = some (.int .i64 29) := ht.at_ 1
  have c2 : w.cell? ⟨1, 2, none⟩ = some (.int .i64 23) := ht.at_ 2
  have c3 : w.cell? ⟨1, 3, none⟩ = some (.int .i64 21) := ht.at_ 3
  have c4 : w.cell? ⟨1, 4, none⟩ = some (.int .i64 19) := ht.at_ 4
  rcases h with rfl | rfl | rfl | rfl | rfl
  all_goals
    go_enter Tryd.func51, Tryd.ntmps51
    go_wp2_with fail
    go_ret
    exact ⟨rfl, rfl⟩
def fpE (k : Int) (n : Nat) : Int := if leastOf k = 0 then 1 else if 4077 < n then 4 else 0
def fpOut (k : Int) (l : List UInt8) : List UInt8 := if leastOf k = 0 ∨ 4077 < l.length then [] else List.replicate 16 255 ++ b16 (19 + (l.length : Int)) ++ [ub (k % 256)] ++ l
/-- What a Put does. -/
def FPut (w : World) (k : Int) (l : List UInt8) (e : Ending) (w' : World) : Prop := ∃ (A : Option Addr) (n c : Nat), e = .returned (.tuple #[.slice A n c, .int .i64 (fpE k l.length)]) ∧ OB w' 5 w.heap.size A n c (fpOut k l) ∧ Below w.heap.size w w'
set_option maxHeartbeats 1000000 in
set_option maxRecDepth 100000 in
theorem framePut (k : Int) (A : Option Addr) (n c : Nat) (l : List UInt8) (w : World) (ht : LeaTab w) (h : BS w w.heap.size A n l) (hl : n ≤ 100000) :
    Calls Tryd.prog 40 #[.int .i64 k, .slice A n c] w (FPut w k l) := by
  have hln := h.len
  by_cases h0 : leastOf k = 0
  · have e1 : fpE k l.length = 1 := by rw [fpE, if_pos h0]
    have e2 : fpOut k l = [] := by rw [fpOut, if_pos (.inl h0)]
    have HX := Lib.hid (show FPut w k l (.returned (.tuple #[.slice none 0 0, .int .i64 1])) w from ⟨none, 0, 0, by rw [e1], by rw [e2]; exact OB.nil_, Below.refl _ _⟩)
    clear e1 e2 hln
    go_enter Tryd.func40, Tryd.ntmps40
    go_wp2_with fail
    refine (frameLeast k _ ht).mono ?_
    rw [h0]
    rintro _ _ ⟨rfl, rfl⟩
    go_wp2_with fail
    go_ret2
    exact HX.out
  · obtain ⟨y, hy⟩ : ∃ y, leastOf k = y := ⟨_, rfl⟩
    have hk : 1 ≤ k ∧ k ≤ 4 := by unfold leastOf at h0; repeat' split at h0 <;> omega
    have hy0 : (y == 0) = false := by rw [← hy]; simpa using h0
    by_cases hbig : 4077 < n
    · have hbi : 4077 < (n : Int) := by omega
      have e1 : fpE k l.length = 4 := by rw [fpE, if_neg h0, if_pos (by omega)]
      have e2 : fpOut k l = [] := by rw [fpOut, if_pos (.inr (by omega))]
      have HX := Lib.hid (show FPut w k l (.returned (.tuple #[.slice none 0 0, .int .i64 4])) w from ⟨none, 0, 0, by rw [e1], by rw [e2]; exact OB.nil_, Below.refl _ _⟩)
      clear e1 e2 hln h0
      go_enter Tryd.func40, Tryd.ntmps40
      go_wp2_with fail
      refine (frameLeast k _ ht).mono ?_
      rw [hy]
      rintro _ _ ⟨rfl, rfl⟩
      clear hy
      go_wp2_with fail
      go_ret2
      exact HX.out
    · have hbi : (n : Int) ≤ 4077 := by omega
      have e1 : fpE k l.length = 0 := by rw [fpE, if_neg h0, if_neg (by omega)]
      have e2 : fpOut k l = List.replicate 16 255 ++ b16 (19 + (n : Int)) ++ [ub (k % 256)] ++ l := by rw [fpOut, if_neg (by omega), ← hln]
      have HE1 := Lib.hid e1
      have HE2 := Lib.hid e2
      have HLN := Lib.hid hln
      clear e1 e2 hln h0
      go_enter Tryd.func40, Tryd.ntmps40
      go_wp2_with fail
      refine (frameLeast k _ ht).mono ?_
      rw [hy]
      rintro _ _ ⟨rfl, rfl⟩
      clear hy
      go_wp2_with fail
      go_loopw [6, 15] (fun o i wr => ∃ (j : Nat) (A1 : Option Addr) (n1 c1 : Nat), j ≤ 16 ∧ i = .int .i64 j ∧ o = .slice A1 n1 c1 ∧ OB wr 5 w.heap.size A1 n1 c1 (List.replicate j 255) ∧ Below w.heap.size w wr) (fun _ i _ => 16 - (intOf i).toNat)
      case atStart => exact ⟨0, none, 0, 0, by omega, rfl, rfl, OB.nil_, Below.refl _ _⟩
      case round =>
        obtain ⟨j, A1, n1, c1, hj, rfl, rfl, o1, b1⟩ := hrel
        by_cases hlt : j < 16
        · have hlti : (j : Int) < 16 := by omega
          go_wp2_with (at_builtin; refine wpl_app rfl (.tmp 17) (.tmp 18) _ rfl 5 Tryd.underlying34 u8info w.heap.size A1 n1 c1 (List.replicate j 255) (by rfl) (o1.alloc _) (wr.heap.size + 1) (some ⟨wr.heap.size, 0, none⟩) 1 1 [ub 255] (by rfl) (BS.one _ _ _ (by omega) (by omega)) (by simp; omega) (by have := b1.size; simp; omega) ?_; intro A2 n2 c2 w2 o2 b2 g2)
          go_wp2_with fail
          go_roundw
          case rel => exact ⟨j + 1, A2, n2, c2, by omega, by go_num, rfl, by rw [List.replicate_succ']; exact o2, (b1.alloc b1.size _).trans b2⟩
          case measure => simp [intOf]; omega
        · obtain rfl : j = 16 := by omega
          have hl16 := Lib.hid (show (List.replicate 16 (255 : UInt8)).length = 16 from rfl)
          have hmw : IntKind.i64.wrap (19 + (n : Int)) = 19 + (n : Int) := IntWalk.i64_in _ ⟨by omega, by omega⟩
          have hkw : IntKind.u8.wrap k = k % 256 := by rw [IntKind.wrap_u8]
          go_wp2_with fail
          refine (octetPut16 A1 n1 c1 (List.replicate 16 255) (19 + (n : Int)) _ o1.bs (by rw [hl16.out]; omega)).mono ?_
          rintro _ w2 ⟨A2, n2, c2, rfl, o2, b2⟩
          have b12 := btr b1 b2 b1.size
          have hL1 := Lib.hid (show (List.replicate 16 255 ++ b16 (19 + (n : Int))).length = 18 from rfl)
          have hL2 := Lib.hid (show (List.replicate 16 255 ++ b16 (19 + (n : Int)) ++ [ub (k % 256)]).length = 19 from rfl)
          go_wp2_with (first
            | (at_builtin; refine wpl_app rfl (.tmp 25) (.tmp 28) _ rfl 5 Tryd.underlying34 u8info w.heap.size A2 n2 c2 _ (by rfl) ((o2.low b1.size).alloc _) (w2.heap.size + 1) (some ⟨w2.heap.size, 0, none⟩) 1 1 [ub (k % 256)] (by rfl) (BS.one _ _ _ (by omega) (by omega)) (by rw [hL1.out]; simp) (by have := b12.size; simp; omega) ?_; intro A3 n3 c3 w3 o3 b3 g3; have b13 := (b12.alloc b12.size (.cells #[.int .u8 (k % 256)] 5)).trans b3)
            | (at_builtin; refine wpl_app rfl (.tmp 30) (.tmp 31) _ rfl 5 Tryd.underlying34 u8info w.heap.size A3 n3 c3 _ (by rfl) o3 w3.heap.size A n c l (by rfl) (h.call b13) (by rw [hL2.out, ← HLN.out]; omega) b13.size ?_; intro A4 n4 c4 w4 o4 b4 g4))
          go_ret2
          exact ⟨A4, n4, c4, by rw [HE1.out]; rfl, by rw [HE2.out]; exact o4, b13.trans b4⟩
end Go.Proofs.YthgjknmfghjioaaDoor
