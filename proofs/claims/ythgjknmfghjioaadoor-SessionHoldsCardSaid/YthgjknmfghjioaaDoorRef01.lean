/- Walks of the document's layer 1 (speculumref01). -/
import Derived.Test.YthgjknmfghjioaaDoorProg
import Derived.WalkKit
import Derived.WalkSpells
import Derived.WalkLawsBesides
import Derived.Outline
import Derived.Deep.QuietTactic
import Derived.BigQuiet
import Derived.Handy
import Derived.Lib.Hide
import Derived.Test.YthgjknmfghjioaaDoorOctet
namespace Go.Proofs.YthgjknmfghjioaaDoor
open Go.RowKit
theorem ref01Same (A A' : Option Addr) (n n' c c' : Nat) (l l' : List UInt8) (w : World) (B B' : Nat) (h : BS w B A n l) (h' : BS w B' A' n' l') :
    Calls Tryd.prog 21 #[.slice A n c, .slice A' n' c'] w fun en w' => en = .returned (.bool (l == l')) ∧ w = w' := by
  have k1 := h.conv (P := Tryd.prog) 34 9 5 c Tryd.underlying34 Tryd.underlying5 Tryd.underlying9
  have k2 := h'.conv (P := Tryd.prog) 34 9 5 c' Tryd.underlying34 Tryd.underlying5 Tryd.underlying9
  go_enter Tryd.func21, Tryd.ntmps21
  go_wp2
  go_ret
  exact ⟨rfl, rfl⟩
/-- The document's Put16, its number brought between 0 and 65535. -/
theorem ref01Put16_core (m r x : Int) (A : Option Addr) (n c : Nat) (l : List UInt8) (w : World) (h : BS w w.heap.size A n l) (hl : l.length ≤ 140737488355320) (hr : m.tmod 65536 = r) (h0 : -65536 < r) (h1 : r < 65536) (hx : x = if r < 0 then r + 65536 else r) :
    Calls Tryd.prog 32 #[.slice A n c, .int .i64 m] w (RetB w 5 (l ++ [ub (x / 256), ub (x % 256)])) := by
  by_cases hneg : r < 0
  all_goals
    simp only [hneg, if_true, if_false] at hx
    subst hx
    go_enter Tryd.func32, Tryd.ntmps32
    go_wp2_with (first
      | (at_builtin; refine appB (.tmp 13) (.tmp 14) rfl rfl w.heap.size (Below.refl _ w) (Nat.le_refl _) none 0 0 [] rfl OB.nil_ w.heap.size A n c l rfl h (by simp; omega) ?_; intro A0 n0 c0 w0 o0 b0 s0; rw [List.nil_append] at o0)
      | (at_builtin; refine appB1 (.tmp 16) (.tmp 20) rfl rfl w.heap.size b0 s0 A0 n0 c0 l _ rfl o0 rfl (by omega) (by omega) (by omega) ?_; intro A1 n1 c1 w1 o1 b1 s1)
      | (at_builtin; refine appB1 (.tmp 22) (.tmp 26) rfl rfl w.heap.size b1 s1 A1 n1 c1 _ _ rfl o1 rfl (by omega) (by omega) (by simp; omega) ?_; intro A2 n2 c2 w2 o2 b2 s2))
    go_ret
    exact ⟨A2, n2, c2, rfl, by simpa using o2, b2⟩
theorem ref01Put16 (A : Option Addr) (n c : Nat) (l : List UInt8) (m : Int) (w : World) (h : BS w w.heap.size A n l) (hl : l.length ≤ 140737488355320) :
    Calls Tryd.prog 32 #[.slice A n c, .int .i64 m] w (RetB w 5 (l ++ b16 m)) := by
  have hm : m.tmod 65536 = if m < 0 then -((-m) % 65536) else m % 65536 := by
    split
    · have h1 : m = -(-m) := by omega
      rw [h1, Int.neg_tmod, Int.tmod_eq_emod_of_nonneg (by omega), Int.neg_neg]
    · exact Int.tmod_eq_emod_of_nonneg (by omega)
  have hx : m % 65536 = if m.tmod 65536 < 0 then m.tmod 65536 + 65536 else m.tmod 65536 := by
    rw [hm]; split <;> split <;> omega
  refine (ref01Put16_core m (m.tmod 65536) (m % 65536) A n c l w h hl rfl (by rw [hm]; split <;> omega) (by rw [hm]; split <;> omega) hx).mono ?_
  have e : m % 65536 % 256 = m % 256 := by omega
  rw [e]
  exact fun _ _ hh => hh
theorem ref01Put32 (A : Option Addr) (n c : Nat) (l : List UInt8) (m : Int) (w : World) (h : BS w w.heap.size A n l) (hl : l.length ≤ 140737488355310) (h0 : 0 ≤ m) (h1 : m < 4294967296) :
    Calls Tryd.prog 33 #[.slice A n c, .int .u32 m] w (RetB w 5 (l ++ b32 m)) := by
  go_enter Tryd.func33, Tryd.ntmps33
  go_wp2_with fail
  refine (ref01Put16 A n c l (m / 65536) _ h (by omega)).mono ?_
  rintro _ w1 ⟨A1, n1, c1, rfl, o1, b1⟩
  go_wp2_with fail
  refine (ref01Put16 A1 n1 c1 (l ++ b16 (m / 65536)) (m % 65536) _ o1.bs (by simp [b16]; omega)).mono ?_
  rintro _ w2 ⟨A2, n2, c2, rfl, o2, b2⟩
  go_wp2_with fail
  go_ret
  have e1 : m / 65536 % 65536 / 256 = m / 16777216 := by omega
  have e3 : m % 65536 / 256 = m / 256 % 256 := by omega
  have e5 : m % 65536 % 65536 = m % 65536 := by omega
  have e4 : m % 65536 % 256 = m % 256 := by omega
  refine ⟨A2, n2, c2, rfl, ?_, b1.trans (b2.mono b1.size)⟩
  have := o2.low b1.size
  simpa [b16, b32, e1, e3, e4, e5] using this
end Go.Proofs.YthgjknmfghjioaaDoor
