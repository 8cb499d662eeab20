/- Walks of layer 8 (notice): Put, Read, and the document's. No conditions but sizes. -/
import Derived.Test.YthgjknmfghjioaaDoorProg
import Derived.WalkKit
import Derived.WalkSpells
import Derived.WalkLawsBesides
import Derived.Outline
import Derived.Deep.QuietTactic
import Derived.BigQuiet
import Derived.Handy
import Derived.Lib.Hide
import Derived.Laws.ResultCell
import Derived.Test.YthgjknmfghjioaaDoorOctBack
import Derived.Test.YthgjknmfghjioaaDoorInts
namespace Go.Proofs.YthgjknmfghjioaaDoor
open Go.RowKit
/-- Two bytes, laid in a block of the call's own. -/
theorem OB.two (w : World) {base : Nat} (x y : Int) (h0 : 0 ≤ x) (h1 : x ≤ 255) (h2 : 0 ≤ y) (h3 : y ≤ 255) (hb : base ≤ w.heap.size) {g : Nat} (hg : g = w.heap.size) : OB (w.alloc (.cells #[.int .u8 x, .int .u8 y] 5)) 5 base (some ⟨g, 0, none⟩) 2 2 [ub x, ub y] := by
  subst hg
  refine ⟨rfl, rfl, .inr ⟨w.heap.size, 2, #[.int .u8 x, .int .u8 y], rfl, hb, Blk.new w _ _, Nat.le_refl _, by unfold maxLen; omega, rfl, ?_⟩⟩
  simp [bv, ub_toNat h0 h1, ub_toNat h2 h3]
def npE (a b : Int) (n : Nat) : Int := if a < 0 ∨ 255 < a ∨ b < 0 ∨ 255 < b then 1 else if 4075 < n then 4 else 0
def npOut (a b : Int) (l : List UInt8) : List UInt8 := if (a < 0 ∨ 255 < a ∨ b < 0 ∨ 255 < b) ∨ 4075 < l.length then [] else ub a :: ub b :: l
def NPut (w : World) (a b : Int) (l : List UInt8) (e : Ending) (w' : World) : Prop := ∃ (A : Option Addr) (n c : Nat), e = .returned (.tuple #[.slice A n c, .int .i64 (npE a b l.length)]) ∧ OB w' 5 w.heap.size A n c (npOut a b l) ∧ Below w.heap.size w w'
set_option maxHeartbeats 1000000 in
set_option maxRecDepth 100000 in
theorem noticePut (a b : Int) (A : Option Addr) (n c : Nat) (l : List UInt8) (w : World) (h : BS w w.heap.size A n l) (hn : n ≤ 100000) :
    Calls Tryd.prog 29 #[.agg #[.int .i64 a, .int .i64 b, .slice A n c]] w (NPut w a b l) := by
  have b0 := (Below.refl w.heap.size w).alloc (Nat.le_refl _) (.cells #[.int .i64 a, .int .i64 b, .slice A n c] 36)
  have HLN := Lib.hid h.len
  have HBad : ∀ x : Int, npE a b l.length = x → npOut a b l = [] → NPut w a b l (.returned (.tuple #[.slice none 0 0, .int .i64 x])) (w.alloc (.cells #[.int .i64 a, .int .i64 b, .slice A n c] 36)) := fun x h1 h2 => ⟨none, 0, 0, by rw [h1], by rw [h2]; exact OB.nil_, b0⟩
  by_cases hbad : a < 0 ∨ 255 < a ∨ b < 0 ∨ 255 < b
  · have HX := Lib.hid (HBad 1 (by rw [npE, if_pos hbad]) (by rw [npOut, if_pos (.inl hbad)]))
    clear HBad
    by_cases h1 : a < 0
    · clear hbad
      go_enter Tryd.func29, Tryd.ntmps29
      go_wp2_with fail
      go_ret2
      exact HX.out
    by_cases h2 : 255 < a
    · clear hbad
      go_enter Tryd.func29, Tryd.ntmps29
      go_wp2_with fail
      go_ret2
      exact HX.out
    by_cases h3 : b < 0
    · clear hbad
      go_enter Tryd.func29, Tryd.ntmps29
      go_wp2_with fail
      go_ret2
      exact HX.out
    have h4 : 255 < b := by omega
    clear hbad
    go_enter Tryd.func29, Tryd.ntmps29
    go_wp2_with fail
    go_ret2
    exact HX.out
  · have ha0 : 0 ≤ a := by omega
    have ha1 : a ≤ 255 := by omega
    have hb0 : 0 ≤ b := by omega
    have hb1 : b ≤ 255 := by omega
    by_cases hbig : 4075 < n
    · have HX := Lib.hid (HBad 4 (by rw [npE, if_neg hbad, if_pos (by rw [← HLN.out]; exact hbig)]) (by rw [npOut, if_pos (.inr (by rw [← HLN.out]; exact hbig))]))
      have hbi : 4075 < (n : Int) := by omega
      clear HBad hbad
      go_enter Tryd.func29, Tryd.ntmps29
      go_wp2_with fail
      go_ret2
      exact HX.out
    · have hbi : (n : Int) ≤ 4075 := by omega
      have HE1 := Lib.hid (show npE a b l.length = 0 by rw [npE, if_neg hbad, if_neg (by rw [← HLN.out]; exact hbig)])
      have HE2 := Lib.hid (show npOut a b l = ub a :: ub b :: l by rw [npOut, if_neg (by rw [← HLN.out]; omega)])
      have hwa : IntKind.u8.wrap a = a := IntWalk.u8_in _ ⟨by omega, by omega⟩
      have hwb : IntKind.u8.wrap b = b := IntWalk.u8_in _ ⟨by omega, by omega⟩
      clear HBad hbad
      go_enter Tryd.func29, Tryd.ntmps29
      go_wp2_with (at_builtin; refine wpl_app rfl (.tmp 34) (.tmp 36) _ rfl 5 Tryd.underlying34 u8info w.heap.size _ 2 2 [ub a, ub b] (by rfl) (OB.two _ a b ha0 ha1 hb0 hb1 b0.size (by simp)) w.heap.size A n c l (by rfl) ((h.alloc (Nat.le_refl _) _).alloc b0.size _) (by rw [← HLN.out]; simp; omega) (by simp; omega) ?_; intro A2 n2 c2 w2 o2 b2 g2)
      go_ret2
      exact ⟨A2, n2, c2, by rw [HE1.out]; rfl, by rw [HE2.out]; exact o2, (b0.alloc b0.size _).trans b2⟩
theorem nil_eq (c : Nat) (W : World) : (binOp .eql 34 (.slice none 0 c) (.slice none 0 0)).run Tryd.prog W = .ok (.bool true) W := by kernel_rfl
theorem nil_ne (A : Addr) (n c : Nat) (W : World) : (binOp .eql 34 (.slice (some A) n c) (.slice none 0 0)).run Tryd.prog W = .ok (.bool false) W := by kernel_rfl
set_option maxHeartbeats 1000000 in
set_option maxRecDepth 100000 in
theorem sliceClone (A : Option Addr) (n c : Nat) (l : List UInt8) (w : World) (h : BS w w.heap.size A n l) (hn : n ≤ 100000) :
    Calls Tryd.prog 72 #[.slice A n c] w fun en w' => ∃ A2 n2 c2, en = .returned (.slice A2 n2 c2) ∧ BS w' w'.heap.size A2 n2 l ∧ Below w.heap.size w w' := by
  rcases A with _ | A
  · have hl : l = [] := by
      rcases Nat.eq_zero_or_pos n with h0 | h0
      · exact List.eq_nil_of_length_eq_zero (h.len.symm.trans h0)
      · obtain ⟨b, off, e, _⟩ := h.form h0
        cases e
    subst hl
    have hb : BS w w.heap.size none n ([] : List UInt8) := h
    have hn0 : n = 0 := h.len
    subst hn0
    have e := nil_eq c
    go_enter Tryd.func72, Tryd.ntmps72
    go_wp2_with fail
    go_ret
    exact ⟨none, 0, 0, rfl, BS.none_, Below.refl _ _⟩
  · have HLN := Lib.hid h.len
    have e := nil_ne A n c
    go_enter Tryd.func72, Tryd.ntmps72
    go_wp2_with (at_builtin; refine wpl_app rfl (.tmp 5) (.tmp 6) _ rfl 5 Tryd.underlying34 u8info w.heap.size _ 0 0 [] (by rfl) (OB.emptyB w (Nat.le_refl _)) w.heap.size (some A) n c l (by rfl) (h.alloc (Nat.le_refl _) _) (by rw [← HLN.out]; simp; omega) (by simp) ?_; intro A2 n2 c2 w2 o2 b2 g2)
    all_goals go_ret
    all_goals exact ⟨A2, n2, c2, rfl, o2.bs, ((Below.refl _ _).alloc (Nat.le_refl _) _).trans b2⟩
end Go.Proofs.YthgjknmfghjioaaDoor
