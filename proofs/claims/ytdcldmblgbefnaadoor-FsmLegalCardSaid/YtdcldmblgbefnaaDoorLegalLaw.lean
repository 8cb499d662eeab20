/- The walk of the law FsmLegal. Conditions: the table's cells (FsmTab). -/
import Derived.Test.YtdcldmblgbefnaaDoorProg
import Derived.WalkKit
import Derived.WalkSpells
import Derived.WalkLawsBesides
import Derived.Outline
import Derived.Deep.QuietTactic
import Derived.BigQuiet
import Derived.Handy
import Derived.Lib.Hide
import Derived.Test.YtdcldmblgbefnaaDoorLegalR
import Derived.Test.YtdcldmblgbefnaaDoorOpenTrace
namespace Go.Proofs.YtdcldmblgbefnaaDoor
open Go.RowKit
def hasB (D k : Int) : Bool := D / k % 2 == 1
theorem legal_all : ∀ s : Fin 6, ∀ e : Fin 16, (bits .and .i64 ((fsmCell s e).2 : Int) 4 != 0) = hasB (fsmCell s e).2 4 ∧ (bits .and .i64 ((fsmCell s e).2 : Int) 8 != 0) = hasB (fsmCell s e).2 8 ∧ (bits .and .i64 ((fsmCell s e).2 : Int) 16 != 0) = hasB (fsmCell s e).2 16 ∧
    (bits .and .i64 ((fsmCell s e).2 : Int) 16 == 0) = (!hasB (fsmCell s e).2 16) ∧ (fsmCell s e).2 ≤ 65535 ∧
    ((hasB (fsmCell s e).2 4 = false ∧ hasB (fsmCell s e).2 8 = false ∧ hasB (fsmCell s e).2 16 = false) ∨ (hasB (fsmCell s e).2 4 = true ∧ hasB (fsmCell s e).2 8 = false ∧ hasB (fsmCell s e).2 16 = false) ∨
      (hasB (fsmCell s e).2 4 = false ∧ hasB (fsmCell s e).2 8 = true ∧ hasB (fsmCell s e).2 16 = false) ∨ (hasB (fsmCell s e).2 4 = false ∧ hasB (fsmCell s e).2 8 = false ∧ hasB (fsmCell s e).2 16 = true)) := by decide +kernel
theorem keepW7 {W0 W W' : World} {g : Nat} {x0 x1 x2 x3 x4 x5 x6 : Value} (hsz : W0.heap.size = g + 1) (hb : Below W.heap.size W W') (h : Below (g + 1) W0 W ∧ W.cell? ⟨g, 0, none⟩ = some x0 ∧ W.cell? ⟨g, 1, none⟩ = some x1 ∧ W.cell? ⟨g, 2, none⟩ = some x2 ∧ W.cell? ⟨g, 3, none⟩ = some x3 ∧ W.cell? ⟨g, 4, none⟩ = some x4 ∧ W.cell? ⟨g, 5, none⟩ = some x5 ∧ W.cell? ⟨g, 6, none⟩ = some x6) :
    Below (g + 1) W0 W' ∧ W'.cell? ⟨g, 0, none⟩ = some x0 ∧ W'.cell? ⟨g, 1, none⟩ = some x1 ∧ W'.cell? ⟨g, 2, none⟩ = some x2 ∧ W'.cell? ⟨g, 3, none⟩ = some x3 ∧ W'.cell? ⟨g, 4, none⟩ = some x4 ∧ W'.cell? ⟨g, 5, none⟩ = some x5 ∧ W'.cell? ⟨g, 6, none⟩ = some x6 := by
  obtain ⟨h, c0, c1, c2, c3, c4, c5, c6⟩ := h
  have hs := h.size
  have hl : ∀ j : Nat, (⟨g, j, none⟩ : Addr).block < W.heap.size := fun j => by show g < _; omega
  exact ⟨btr h hb (by omega), (hb.cell (hl 0)).trans c0, (hb.cell (hl 1)).trans c1, (hb.cell (hl 2)).trans c2, (hb.cell (hl 3)).trans c3, (hb.cell (hl 4)).trans c4, (hb.cell (hl 5)).trans c5, (hb.cell (hl 6)).trans c6⟩
section
variable (w : World) (e f t a b : Int) (S A : Option Addr) (sn sc n c : Nat) (sl : List Int) (l : List UInt8)
/-- Both answers are one. -/
theorem legal_both (ht : FsmTab w) (hS : Reads w w.heap.size 1 S sn (iv sl)) (h : BS w w.heap.size A n l) (hsn : sn ≤ 10) (hn : n ≤ 500) :
    ∃ X : Bool, (∀ W, Below w.heap.size w W → Calls Tryd.prog 45 #[.agg #[.int .i64 e, .int .i64 f, .int .i64 t, .slice S sn sc, .int .i64 a, .int .i64 b, .slice A n c]] W fun en w' => en = .returned (.bool X) ∧ Below W.heap.size W w') ∧
      ∀ W, Below w.heap.size w W → Calls Tryd.prog 46 #[.agg #[.int .i64 e, .int .i64 f, .int .i64 t, .slice S sn sc, .int .i64 a, .int .i64 b, .slice A n c]] W fun en w' => en = .returned (.bool X) ∧ Below W.heap.size W w' := by
  by_cases hin : 0 ≤ f ∧ f < 6 ∧ 0 ≤ e ∧ e < 16
  · obtain ⟨h0, h1, h2, h3⟩ := hin
    obtain ⟨k, rfl⟩ := Int.eq_ofNat_of_zero_le h0
    obtain ⟨m, rfl⟩ := Int.eq_ofNat_of_zero_le h2
    have hk : k < 6 := by omega
    have hm : m < 16 := by omega
    obtain ⟨l1, l2, l3, l4, l5, l6⟩ := legal_all ⟨k, hk⟩ ⟨m, hm⟩
    simp only at l1 l2 l3 l4 l5 l6
    have hD := fsmDo_in k m hk hm
    obtain ⟨a', b', A', n', c', l', hF, h'⟩ := fsmFault_form (m : Int) a b A n c l w h
    refine ⟨_, fun W hW => fsmLegal_in W m k t a b S A sn sc n c sl l (ht.below hW) (hS.call hW) (h.call hW) hsn hn h0 h1 h2 h3 _ _ _ _ _ rfl hD l1 l2 l3 l4 a' b' A' n' c' l' (Lib.hid hF) (h'.call hW), fun W hW => ?_⟩
    exact refLegal_in W m k t a b S A sn sc n c sl l (hS.call hW) (h.call hW) hsn hn h0 h1 h2 h3 _ _ _ _ _ rfl hD (by omega) (by omega) rfl rfl rfl l6 a' b' A' n' c' l' (Lib.hid hF) (h'.call hW)
  · exact ⟨false, fun W _ => fsmLegal_out W e f t a b S A sn sc n c (by omega), fun W _ => refLegal_out W e f t a b S A sn sc n c (by omega)⟩
end
set_option maxHeartbeats 1000000 in
set_option maxRecDepth 100000 in
theorem lawFsmLegal (w : World) (e f t : Int) (S : Option Addr) (sn sc : Nat) (sl : List Int) (a b : Int) (A : Option Addr) (n c : Nat) (l : List UInt8) (hS : NS .i64 w w.heap.size S sn sl) (h : BS w w.heap.size A n l) (ht : FsmTab w) :
    Calls Tryd.prog 9 #[.agg #[.int .i64 e, .int .i64 f, .int .i64 t, .slice S sn sc, .int .i64 a, .int .i64 b, .slice A n c]] w fun en w' => en = .returned (.bool true) ∧ Below w.heap.size w w' := by
  have b0 := (Below.refl w.heap.size w).alloc (Nat.le_refl _) (.cells #[.int .i64 e, .int .i64 f, .int .i64 t, .slice S sn sc, .int .i64 a, .int .i64 b, .slice A n c] 47)
  by_cases hs : sn ≤ 10
  · have hsi : (sn : Int) ≤ 10 := by omega
    by_cases hn : n ≤ 500
    · have hni : (n : Int) ≤ 500 := by omega
      have hsz : (w.alloc (.cells #[.int .i64 e, .int .i64 f, .int .i64 t, .slice S sn sc, .int .i64 a, .int .i64 b, .slice A n c] 47)).heap.size = w.heap.size + 1 := by simp
      obtain ⟨X, hX, hX'⟩ := legal_both w e f t a b S A sn sc n c sl l ht hS.2.1 h hs hn
      go_enter Tryd.func9, Tryd.ntmps9
      go_wp2_with fail
      go_region_held3 (fun w' => Below (w.heap.size + 1) (w.alloc (.cells #[.int .i64 e, .int .i64 f, .int .i64 t, .slice S sn sc, .int .i64 a, .int .i64 b, .slice A n c] 47)) w' ∧ w'.cell? ⟨w.heap.size, 0, none⟩ = some (.int .i64 e) ∧ w'.cell? ⟨w.heap.size, 1, none⟩ = some (.int .i64 f) ∧ w'.cell? ⟨w.heap.size, 2, none⟩ = some (.int .i64 t) ∧ w'.cell? ⟨w.heap.size, 3, none⟩ = some (.slice S sn sc) ∧ w'.cell? ⟨w.heap.size, 4, none⟩ = some (.int .i64 a) ∧ w'.cell? ⟨w.heap.size, 5, none⟩ = some (.int .i64 b) ∧ w'.cell? ⟨w.heap.size, 6, none⟩ = some (.slice A n c))
        (first | (refine keepW7 hsz b3 ?_; assumption) | (refine keepW7 hsz b2 ?_; assumption) | (refine keepW7 hsz b1 ?_; assumption) | ((repeat' apply And.intro) <;> first | (with_reducible exact Below.drew (Below.refl _ _)) | go_keep))
        (first
          | (go_at_call 45; refine (hX _ (b0.trans (Below.mono (And.left (by with_reducible assumption)) (Nat.le_succ _)))).mono ?_; rintro _ w1 ⟨rfl, b1⟩)
          | (go_at_call 46; refine (hX' _ (b0.trans (Below.mono (And.left (by with_reducible assumption)) (Nat.le_succ _)))).mono ?_; rintro _ w2 ⟨rfl, b2⟩)
          | (go_at_call 27; refine (awake21 _ (ht.below (b0.trans (Below.mono (And.left (by with_reducible assumption)) (Nat.le_succ _))))).mono ?_; rintro _ w3 ⟨rfl, b3⟩))
      all_goals
        try go_wp2_with fail
        go_ret
        exact ⟨rfl, b0.trans (Below.mono (And.left (by with_reducible assumption)) (Nat.le_succ _))⟩
    · have hni : 500 < (n : Int) := by omega
      go_enter Tryd.func9, Tryd.ntmps9
      go_wp2_with fail
      refine (awake21 _ (ht.below b0)).mono ?_
      rintro _ w1 ⟨rfl, b1⟩
      go_wp2_with fail
      go_ret
      exact ⟨rfl, btr b0 b1 b0.size⟩
  · have hsi : 10 < (sn : Int) := by omega
    go_enter Tryd.func9, Tryd.ntmps9
    go_wp2_with fail
    refine (awake21 _ (ht.below b0)).mono ?_
    rintro _ w1 ⟨rfl, b1⟩
    go_wp2_with fail
    go_ret
    exact ⟨rfl, btr b0 b1 b0.size⟩
end Go.Proofs.YtdcldmblgbefnaaDoor
