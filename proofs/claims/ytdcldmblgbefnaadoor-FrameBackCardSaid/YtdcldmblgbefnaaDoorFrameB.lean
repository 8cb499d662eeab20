/- Walks of layer 7 (frame): the document's Put. No conditions but sizes. -/
import Derived.Test.YtdcldmblgbefnaaDoorProg
import Derived.WalkKit
import Derived.WalkSpells
import Derived.WalkLawsBesides
import Derived.Outline
import Derived.Deep.QuietTactic
import Derived.BigQuiet
import Derived.Handy
import Derived.Lib.Hide
import Derived.Test.YtdcldmblgbefnaaDoorFrame
namespace Go.Proofs.YtdcldmblgbefnaaDoor
open Go.RowKit
set_option maxHeartbeats 1000000 in
set_option maxRecDepth 100000 in
theorem refFramePut (k : Int) (A : Option Addr) (n c : Nat) (l : List UInt8) (w : World) (h : BS w w.heap.size A n l) (hl : n ≤ 100000) :
    Calls Tryd.prog 60 #[.int .i64 k, .slice A n c] w (FPut w k l) := by
  have hln := h.len
  by_cases h0 : leastOf k = 0
  · have e1 : fpE k l.length = 1 := by rw [fpE, if_pos h0]
    have e2 : fpOut k l = [] := by rw [fpOut, if_pos (.inl h0)]
    have HX := Lib.hid (show FPut w k l (.returned (.tuple #[.slice none 0 0, .int .i64 1])) w from ⟨none, 0, 0, by rw [e1], by rw [e2]; exact OB.nil_, Below.refl _ _⟩)
    have hk : k < 1 ∨ 4 < k := by
      by_cases h1 : k < 1
      · exact .inl h1
      by_cases h2 : 4 < k
      · exact .inr h2
      have : k = 1 ∨ k = 2 ∨ k = 3 ∨ k = 4 := by omega
      rcases this with rfl | rfl | rfl | rfl <;> simp [leastOf] at h0
    clear e1 e2 hln h0
    by_cases h1 : k < 1
    · clear hk
      go_enter Tryd.func60, Tryd.ntmps60
      go_wp2_with fail
      go_ret2
      exact HX.out
    · have h2 : 4 < k := by omega
      clear hk
      go_enter Tryd.func60, Tryd.ntmps60
      go_wp2_with fail
      go_ret2
      exact HX.out
  · have hk : 1 ≤ k ∧ k ≤ 4 := by unfold leastOf at h0; repeat' split at h0 <;> omega
    obtain ⟨hk1, hk2⟩ := hk
    by_cases hbig : 4077 < n
    · have hbi : 4077 < (n : Int) := by omega
      have e1 : fpE k l.length = 4 := by rw [fpE, if_neg h0, if_pos (by omega)]
      have e2 : fpOut k l = [] := by rw [fpOut, if_pos (.inr (by omega))]
      have HX := Lib.hid (show FPut w k l (.returned (.tuple #[.slice none 0 0, .int .i64 4])) w from ⟨none, 0, 0, by rw [e1], by rw [e2]; exact OB.nil_, Below.refl _ _⟩)
      clear e1 e2 hln h0
      go_enter Tryd.func60, Tryd.ntmps60
      go_wp2_with fail
      go_ret2
      exact HX.out
    · have hbi : (n : Int) ≤ 4077 := by omega
      have e1 : fpE k l.length = 0 := by rw [fpE, if_neg h0, if_neg (by omega)]
      have e2 : fpOut k l = List.replicate 16 255 ++ b16 (19 + (n : Int)) ++ [ub (k % 256)] ++ l := by rw [fpOut, if_neg (by omega), ← hln]
      have HE1 := Lib.hid e1
      have HE2 := Lib.hid e2
      have HLN := Lib.hid hln
      clear e1 e2 hln h0
      go_enter Tryd.func60, Tryd.ntmps60
      go_wp2_with fail
      go_loopw [6, 7] (fun o i wr => ∃ (j : Nat) (A1 : Option Addr) (n1 c1 : Nat), j ≤ 16 ∧ i = .int .i64 j ∧ o = .slice A1 n1 c1 ∧ OB wr 5 w.heap.size A1 n1 c1 (List.replicate j 255) ∧ Below w.heap.size w wr) (fun _ i _ => 16 - (intOf i).toNat)
      case atStart => exact ⟨0, none, 0, 0, by omega, rfl, rfl, OB.nil_, Below.refl _ _⟩
      case round =>
        obtain ⟨j, A1, n1, c1, hj, rfl, rfl, o1, b1⟩ := hrel
        by_cases hlt : j < 16
        · have hlti : (j : Int) < 16 := by omega
          go_wp2_with (at_builtin; refine wpl_app rfl (.tmp 21) (.tmp 22) _ rfl 5 Tryd.underlying27 u8info w.heap.size A1 n1 c1 (List.replicate j 255) (by rfl) (o1.alloc _) (wr.heap.size + 1) (some ⟨wr.heap.size, 0, none⟩) 1 1 [ub 255] (by rfl) (BS.one _ _ _ (by omega) (by omega)) (by simp; omega) (by have := b1.size; simp; omega) ?_; intro A2 n2 c2 w2 o2 b2 g2)
          go_wp2_with fail
          go_roundw
          case rel => exact ⟨j + 1, A2, n2, c2, by omega, by go_num, rfl, by rw [List.replicate_succ']; exact o2, (b1.alloc b1.size _).trans b2⟩
          case measure => simp [intOf]; omega
        · obtain rfl : j = 16 := by omega
          have hl16 := Lib.hid (show (List.replicate 16 (255 : UInt8)).length = 16 from rfl)
          have hmw : IntKind.i64.wrap (19 + (n : Int)) = 19 + (n : Int) := IntWalk.i64_in _ ⟨by omega, by omega⟩
          have hkw : IntKind.u8.wrap k = k % 256 := by rw [IntKind.wrap_u8]
          go_wp2_with fail
          refine (ref01Put16 A1 n1 c1 (List.replicate 16 255) (19 + (n : Int)) _ o1.bs (by rw [hl16.out]; omega)).mono ?_
          rintro _ w2 ⟨A2, n2, c2, rfl, o2, b2⟩
          have b12 := btr b1 b2 b1.size
          have hL1 := Lib.hid (show (List.replicate 16 255 ++ b16 (19 + (n : Int))).length = 18 from rfl)
          have hL2 := Lib.hid (show (List.replicate 16 255 ++ b16 (19 + (n : Int)) ++ [ub (k % 256)]).length = 19 from rfl)
          go_wp2_with (first
            | (at_builtin; refine wpl_app rfl (.tmp 29) (.tmp 32) _ rfl 5 Tryd.underlying27 u8info w.heap.size A2 n2 c2 _ (by rfl) ((o2.low b1.size).alloc _) (w2.heap.size + 1) (some ⟨w2.heap.size, 0, none⟩) 1 1 [ub (k % 256)] (by rfl) (BS.one _ _ _ (by omega) (by omega)) (by rw [hL1.out]; simp) (by have := b12.size; simp; omega) ?_; intro A3 n3 c3 w3 o3 b3 g3; have b13 := (b12.alloc b12.size (.cells #[.int .u8 (k % 256)] 5)).trans b3)
            | (at_builtin; refine wpl_app rfl (.tmp 34) (.tmp 35) _ rfl 5 Tryd.underlying27 u8info w.heap.size A3 n3 c3 _ (by rfl) o3 w3.heap.size A n c l (by rfl) (h.call b13) (by rw [hL2.out, ← HLN.out]; omega) b13.size ?_; intro A4 n4 c4 w4 o4 b4 g4))
          go_ret2
          exact ⟨A4, n4, c4, by rw [HE1.out]; rfl, by rw [HE2.out]; exact o4, b13.trans b4⟩
end Go.Proofs.YtdcldmblgbefnaaDoor
