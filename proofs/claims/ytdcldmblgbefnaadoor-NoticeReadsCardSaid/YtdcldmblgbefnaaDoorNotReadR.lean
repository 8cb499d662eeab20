/- Walks of layer 8 (notice): the document's Read. No conditions but sizes. -/
import Derived.Test.YtdcldmblgbefnaaDoorProg
import Derived.WalkKit
import Derived.WalkSpells
import Derived.WalkLawsBesides
import Derived.Outline
import Derived.Deep.QuietTactic
import Derived.BigQuiet
import Derived.Handy
import Derived.Lib.Hide
import Derived.Test.YtdcldmblgbefnaaDoorNotRead
namespace Go.Proofs.YtdcldmblgbefnaaDoor
open Go.RowKit
set_option maxHeartbeats 1000000 in
set_option maxRecDepth 100000 in
theorem refRead8 (A : Option Addr) (n c : Nat) (l : List UInt8) (w : World) (h : BS w w.heap.size A n l) (hnc : n ≤ c) (hn : n ≤ 100000) :
    Calls Tryd.prog 82 #[.slice A n c] w (RdPost w l) := by
  have HLN := Lib.hid h.len
  by_cases h2 : n < 2
  · have h2i : (n : Int) < 2 := by omega
    go_enter Tryd.func82, Tryd.ntmps82
    go_wp2_with fail
    refine bodyPost_ret (fault_ret rfl _ _ w.heap.size _ _ _ rfl ((Blk.new w _ _).alloc _)) rfl ?_
    have hl : l.length < 2 := by rw [← HLN.out]; exact h2
    refine ⟨none, 0, 0, by simp only [if_pos hl]; rfl, ?_, ((Below.refl _ _).alloc (Nat.le_refl _) _).alloc (by simp) _⟩
    rw [List.drop_of_length_le (by omega)]
    exact BS.none_
  · have h2i : 2 ≤ (n : Int) := by omega
    obtain ⟨b, off, rfl, hbw, hc0⟩ := h.form (k := 0) (by omega)
    have hc0 : w.cell? ⟨b, off, none⟩ = some (.int .u8 (lb l 0 : Int)) := hc0
    obtain ⟨b', off', e, _, hc1⟩ := h.form (k := 1) (by omega)
    injection e with e
    injection e with e1 e2 _
    subst e1 e2
    have hv0 := lb_lt l 0
    have hv1 := lb_lt l 1
    obtain ⟨v0, hv⟩ : ∃ v, lb l 0 = v := ⟨_, rfl⟩
    obtain ⟨v1, hv'⟩ : ∃ v, lb l 1 = v := ⟨_, rfl⟩
    rw [hv] at hc0 hv0
    rw [hv'] at hc1 hv1
    have HV0 := Lib.hid hv
    have HV1 := Lib.hid hv'
    clear hv hv'
    have hw0 : IntKind.i64.wrap (v0 : Int) = v0 := IntWalk.i64_in _ ⟨by omega, by omega⟩
    have hw1 : IntKind.i64.wrap (v1 : Int) = v1 := IntWalk.i64_in _ ⟨by omega, by omega⟩
    have h2c : 2 ≤ (c : Int) := by omega
    have hbne : ¬ b = w.heap.size := by omega
    have hbne1 : ¬ b = w.heap.size + 1 := by omega
    by_cases hc2 : c = 2
    · subst hc2
      obtain rfl : n = 2 := by omega
      have hD := h.drop_ (k := 2) (c := 2) (by omega) hnc
      rw [if_pos rfl] at hD
      have hD := Lib.hid hD
      go_enter Tryd.func82, Tryd.ntmps82
      go_wp2_with fail
      refine bodyPost_ret (fault_ret rfl _ _ w.heap.size _ _ _ rfl ((Blk.new w _ _).alloc _)) rfl ?_
      have hl : ¬ l.length < 2 := by rw [← HLN.out]; exact h2
      exact ⟨_, _, _, by simp only [if_neg hl, HV0.out, HV1.out]; rfl, ((hD.out.alloc (Nat.le_refl _) _).alloc (by simp) _).more (by simp; omega), ((Below.refl _ _).alloc (Nat.le_refl _) _).alloc (by simp) _⟩
    · have hD := h.drop_ (k := 2) (by omega) hnc
      rw [if_neg hc2] at hD
      have hD := Lib.hid hD
      go_enter Tryd.func82, Tryd.ntmps82
      go_wp2_with fail
      refine bodyPost_ret (fault_ret rfl _ _ w.heap.size _ _ _ rfl ((Blk.new w _ _).alloc _)) rfl ?_
      have hl : ¬ l.length < 2 := by rw [← HLN.out]; exact h2
      exact ⟨_, _, _, by simp only [if_neg hl, HV0.out, HV1.out]; rfl, ((hD.out.alloc (Nat.le_refl _) _).alloc (by simp) _).more (by simp; omega), ((Below.refl _ _).alloc (Nat.le_refl _) _).alloc (by simp) _⟩
end Go.Proofs.YtdcldmblgbefnaaDoor
