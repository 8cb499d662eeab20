/- Walks of layer 23 (session): a message put behind those that were sent. No conditions but the table of lengths. -/
import Derived.Test.YthgjknmfghjioaaDoorProg
import Derived.WalkKit
import Derived.WalkSpells
import Derived.WalkLawsBesides
import Derived.Outline
import Derived.Deep.QuietTactic
import Derived.BigQuiet
import Derived.Handy
import Derived.Lib.Hide
import Derived.Test.YthgjknmfghjioaaDoorSesC
import Derived.Test.YthgjknmfghjioaaDoorFrame
import Derived.Test.YthgjknmfghjioaaDoorInts
namespace Go.Proofs.YthgjknmfghjioaaDoor
open Go.RowKit
set_option linter.unusedSimpArgs false
set_option linter.unusedVariables false
theorem OB.out {w : World} {T base n c : Nat} {A : Option Addr} {l : List UInt8} (h : OB w T base A n c l) {p : Addr} (hp : p.block < base) (v : Value) : OB (w.setCell p v) T base A n c l :=
  ⟨h.1, own_keep h.2 fun k hk => Below.heap_setCell w p v k (by have := (h.2.lt k hk).1; omega)⟩
theorem OI.out {w : World} {base n c : Nat} {A : Option Addr} {l : List Int} (h : OI w base A n c l) {p : Addr} (hp : p.block < base) (v : Value) : OI (w.setCell p v) base A n c l :=
  ⟨h.1, own_keep h.2 fun k hk => Below.heap_setCell w p v k (by have := (h.2.lt k hk).1; omega)⟩
theorem OI.low {w : World} {base base' n c : Nat} {A : Option Addr} {l : List Int} (h : OI w base A n c l) (hb : base' ≤ base) : OI w base' A n c l := by
  refine ⟨h.1, h.2.1, ?_⟩
  rcases h.2.2 with h3 | ⟨g, cap, cur, hv, hg, hh, r⟩
  · exact .inl h3
  · exact .inr ⟨g, cap, cur, hv, Nat.le_trans hb hg, hh, r⟩
set_option maxHeartbeats 4000000 in
set_option maxRecDepth 100000 in
theorem outSend (k : Int) (A : Option Addr) (n c : Nat) (l : List UInt8) (q : Nat) (a0 a1 a2 a4 a5 a6 a8 a9 a10 a11 a12 a13 a14 a15 a16 a17 a18 a19 a20 a21 a22 a23 a24 a25 : Value) (w : World) (ht : LeaTab w) (h : BS w w.heap.size A n l) (hl : n ≤ 100000)
    (hX : Blk w q 48 #[a0, a1, a2, .slice none 0 0, a4, a5, a6, .slice none 0 0, a8, a9, a10, a11, a12, a13, a14, a15, a16, a17, a18, a19, a20, a21, a22, a23, a24, a25]) :
    Calls Tryd.prog 27 #[.pointer (some ⟨q, 0, none⟩), .int .i64 k, .slice A n c] w fun en w' => en = .returned (.tuple #[]) ∧ ∃ (At : Option Addr) (nt ct : Nat) (As : Option Addr) (ns cs : Nat), Blk w' q 48 #[a0, a1, a2, .slice At nt ct, a4, a5, a6, .slice As ns cs, a8, a9, a10, a11, a12, a13, a14, a15, a16, a17, a18, a19, a20, a21, a22, a23, a24, a25] ∧ OI w' w.heap.size At nt ct [k] ∧ OB w' 5 w.heap.size As ns cs (fpOut k l) ∧ Sm w.heap.size [q] w w' := by
  have hql := hX.lt
  have hL := Lib.hid (show (fpOut k l).length ≤ 200000 by
    have := h.len
    unfold fpOut
    split
    · simp
    · simp [b16]; omega)
  go_enter Tryd.func27, Tryd.ntmps27
  go_wp2_with fail
  refine (framePut k A n c l _ ht h hl).mono ?_
  rintro _ w1 ⟨A1, n1, c1, rfl, o1, b1⟩
  have hX1 := hX.below b1 hql
  have hz1 := b1.size
  have d1 := hX1.cell 7
  have f1 := hX1.frozen 7
  have s1 := hX1.cell 3
  go_upto_region 2 with (at_builtin; refine wpl_app rfl (.tmp 18) (.tmp 19) _ rfl 5 Tryd.underlying34 u8info w.heap.size none 0 0 [] (by rfl) OB.nil_ w1.heap.size A1 n1 c1 (fpOut k l) (by rfl) o1.bs (by have := hL.out; simp; omega) (by omega) ?_; intro A2 n2 c2 w2 o2 b2 _; have hX2 := hX1.below b2 hql; have d2 := hX2.cell 7; have f2 := hX2.frozen 7)
  have hX3 := hX2.set_ 7 (.slice A2 n2 c2)
  simp only [List.setIfInBounds_toArray, List.set_cons_succ, List.set_cons_zero] at hX3
  have o3 := o2.out (p := ⟨q, 7, none⟩) hql (.slice A2 n2 c2)
  rw [List.nil_append] at o3
  have m3 := (Sm.of_below (av := [q]) (b1.trans b2) (Nat.le_refl _)).setCell (p := ⟨q, 7, none⟩) (.inr (by simp)) (.slice A2 n2 c2)
  have z3 : w.heap.size ≤ (w2.setCell ⟨q, 7, none⟩ (.slice A2 n2 c2)).heap.size := m3.size
  obtain ⟨w3, hw3⟩ : ∃ w3, w2.setCell ⟨q, 7, none⟩ (.slice A2 n2 c2) = w3 := ⟨_, rfl⟩
  rw [hw3] at hX3 o3 m3 z3
  try rw [hw3]
  have HW3 := Lib.hid hw3
  clear hw3 d1 f1 d2 f2 s1 o2
  have s3 := hX3.cell 3
  go_wp2_with (at_builtin; refine wpl_appI rfl (.tmp 28) (.tmp 30) rfl w3.heap.size none 0 0 [] (by rfl) OI.nil_ (w3.heap.size + 1) (some ⟨w3.heap.size, 0, none⟩) 1 1 [k] (by rfl) (Reads.oneI' _ _ _ (by simp)) (by simp) (by simp) ?_; intro A4 n4 c4 w4 o4 b4; have hX4 := ((hX3.alloc (.cells #[.int .i64 k] 3)).below b4 hX3.lt); have d4 := hX4.cell 3; have f4 := hX4.frozen 3)
  go_returns
  have b34 := ((Below.refl w3.heap.size w3).alloc (Nat.le_refl _) (.cells #[.int .i64 k] 3)).trans b4
  have hX5 := hX4.set_ 3 (.slice A4 n4 c4)
  simp only [List.setIfInBounds_toArray, List.set_cons_succ, List.set_cons_zero] at hX5
  rw [List.nil_append] at o4
  exact ⟨rfl, A4, n4, c4, A2, n2, c2, hX5, (o4.low z3).out (p := ⟨q, 3, none⟩) hql _, (o3.below b34).out (p := ⟨q, 3, none⟩) hql _, (m3.below b34 z3).setCell (p := ⟨q, 3, none⟩) (.inr (by simp)) _⟩
end Go.Proofs.YthgjknmfghjioaaDoor
