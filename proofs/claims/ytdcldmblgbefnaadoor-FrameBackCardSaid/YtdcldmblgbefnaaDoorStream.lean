/- Walks of layer 7 (frame): a stream that is there: Feed. No conditions but sizes. -/
import Derived.Test.YtdcldmblgbefnaaDoorProg
import Derived.WalkKit
import Derived.WalkSpells
import Derived.WalkLawsBesides
import Derived.Outline
import Derived.Deep.QuietTactic
import Derived.BigQuiet
import Derived.Handy
import Derived.Lib.Hide
import Derived.Test.YtdcldmblgbefnaaDoorFrameLaw
namespace Go.Proofs.YtdcldmblgbefnaaDoor
open Go.RowKit
/-- A stream's row: what was not taken, and its fault; what was not taken does not lie in the block 'own'. -/
def SMX (w : World) (g : Nat) (l : List UInt8) (C S : Int) (D : List UInt8) (own : Option Nat) : Prop := ∃ (A : Option Addr) (n c : Nat) (A' : Option Addr) (n' c' : Nat), Blk w g 95 #[.slice A n c, .int .i64 C, .int .i64 S, .slice A' n' c'] ∧ n ≤ c ∧ BS w w.heap.size A n l ∧ BS w w.heap.size A' n' D ∧ (0 < n → ∀ ad, A = some ad → some ad.block ≠ own)
abbrev SM (w : World) (g : Nat) (l : List UInt8) (C S : Int) (D : List UInt8) : Prop := SMX w g l C S D none
theorem SMX.lt {w : World} {g : Nat} {l : List UInt8} {C S : Int} {D : List UInt8} {own : Option Nat} (h : SMX w g l C S D own) : g < w.heap.size := by
  obtain ⟨_, _, _, _, _, _, hb, _⟩ := h; exact hb.lt
theorem far_none {n : Nat} {A : Option Addr} : 0 < n → ∀ ad, A = some ad → some ad.block ≠ none := fun _ _ _ h => by cases h
theorem far_zero {A : Option Addr} {own : Option Nat} : 0 < 0 → ∀ ad, A = some ad → some ad.block ≠ own := fun h => absurd h (Nat.lt_irrefl 0)
theorem sm_no {A A' : Option Addr} {n c n' c' : Nat} {C S : Int} : ∀ (i : Nat) (v : Int), (#[Value.slice A n c, Value.int .i64 C, Value.int .i64 S, Value.slice A' n' c'] : Array Value)[i]? ≠ some (Value.int .u8 v) := by
  intro i v
  rcases i with _ | _ | _ | _ | i
  · simp
  · simp
  · simp
  · simp
  · simp
theorem SMX.call {w w' : World} {g : Nat} {l : List UInt8} {C S : Int} {D : List UInt8} {own : Option Nat} (h : SMX w g l C S D own) (hb : Below w.heap.size w w') : SMX w' g l C S D own := by
  obtain ⟨A, n, c, A', n', c', h1, h2, h3, h4, h5⟩ := h
  exact ⟨A, n, c, A', n', c', h1.below hb h1.lt, h2, h3.call hb, h4.call hb, h5⟩
theorem SMX.row {w : World} {g : Nat} {l : List UInt8} {C S : Int} {D : List UInt8} {own : Option Nat} (h : SMX w g l C S D own) : ∃ cs, Blk w g 95 cs ∧ ∀ (i : Nat) (v : Int), cs[i]? ≠ some (Value.int .u8 v) := by
  obtain ⟨A, n, c, A', n', c', h1, _⟩ := h
  exact ⟨_, h1, sm_no⟩
theorem SMX.any {w : World} {g : Nat} {l : List UInt8} {C S : Int} {D : List UInt8} {own : Option Nat} (h : SMX w g l C S D own) : SM w g l C S D := by
  obtain ⟨A, n, c, A', n', c', h1, h2, h3, h4, _⟩ := h
  exact ⟨A, n, c, A', n', c', h1, h2, h3, h4, far_none⟩
/-- Another block grows, or a new one comes: a stream without a fault stays, if what it holds lies elsewhere. -/
theorem SMX.beside {w w' : World} {g : Nat} {l : List UInt8} {S : Int} {own own' : Option Nat} (h : SMX w g l 0 S [] own) (hg : w.grownBy w' own) (hne : some g ≠ own) (ho : own' = own ∨ own' = some w.heap.size) : SMX w' g l 0 S [] own' := by
  obtain ⟨A, n, c, A', n', c', h1, h2, h3, h4, h5⟩ := h
  have h40 : n' = 0 := h4.len
  subst h40
  refine ⟨A, n, c, A', 0, c', h1.grown hg hne, h2, ⟨h3.1, h3.2.1, fun hn => ?_⟩, ⟨rfl, rfl, fun hn => absurd hn (Nat.lt_irrefl 0)⟩, fun hn ad he => ?_⟩
  · obtain ⟨ad, e, hb, hc⟩ := h3.2.2 hn
    refine ⟨ad, e, Nat.lt_of_lt_of_le hb hg.size, fun j u hu => ?_⟩
    refine (World.cell?_of_block ?_).trans (hc j u hu)
    rw [block_of_add]
    exact hg.block _ hb (h5 hn ad e)
  · rcases ho with rfl | rfl
    · exact h5 hn ad he
    · intro e'
      injection e' with e'
      obtain ⟨ad', e, hb, _⟩ := h3.2.2 hn
      rw [he] at e
      injection e with e
      subst e
      omega
set_option maxHeartbeats 1000000 in
set_option maxRecDepth 100000 in
theorem streamFeed (g : Nat) (l : List UInt8) (S : Int) (D : List UInt8) (A : Option Addr) (n c : Nat) (b : List UInt8) (w : World) (own : Option Nat) (hown : ∀ k, own = some k → k < w.heap.size) (h : SM w g l 0 S D) (hb : BS w w.heap.size A n b) (hl : l.length ≤ 100000) (hn : n ≤ 100000) :
    Calls Tryd.prog 77 #[.pointer (some ⟨g, 0, none⟩), .slice A n c] w fun en w' => en = .returned (.tuple #[]) ∧ SMX w' g (l ++ b) 0 S D own ∧ w.grownBy w' (some g) := by
  obtain ⟨A1, n1, c1, A2, n2, c2, hB, hnc, h1, h2, ho⟩ := h
  have hg := hB.lt
  have e0 := hB.cell 0
  have e1 := hB.cell 1
  have H1 := Lib.hid h1.len
  have H2 := Lib.hid hb.len
  go_enter Tryd.func77, Tryd.ntmps77
  go_wp2_with (first
    | (at_builtin; refine wpl_app rfl (.const (.slice none 0 0)) (.tmp 18) _ rfl 5 Tryd.underlying27 u8info w.heap.size none 0 0 [] rfl OB.nil_ w.heap.size A1 n1 c1 l (by rfl) h1 (by simp; omega) (Nat.le_refl _) ?_; intro A3 n3 c3 w3 o3 b3 g3; rw [List.nil_append] at o3; have s3 := b3.size)
    | (at_builtin; refine wpl_app rfl (.tmp 19) (.tmp 20) _ rfl 5 Tryd.underlying27 u8info w.heap.size A3 n3 c3 l (by rfl) o3 w3.heap.size A n c b (by rfl) (hb.call b3) (by rw [← H2.out]; omega) s3 ?_; intro A4 n4 c4 w4 o4 b4 g4; have b14 := b3.trans b4; have hB4 := hB.below b14 hg; have e4 := hB4.cell 0; have f4 := hB4.frozen 0))
  have hgg := only_setCell (World.grownBy.refl w4 (some g)) (p := ⟨g, 0, none⟩) (.inl rfl) (.slice A4 n4 c4)
  first
    | go_end0
    | go_returns
  have hB5 := hB4.set_ 0 (.slice A4 n4 c4)
  refine ⟨rfl, ⟨A4, n4, c4, A2, n2, c2, by simpa using hB5, o4.cap, o4.bs.grownAt hgg (o4.bs.apart hB4 sm_no), (h2.call b14).grownAt hgg ((h2.call b14).apart hB4 sm_no), fun hn ad he hk => absurd (o4.fresh (Nat.le_refl _) hn ad he) (by have := hown _ hk.symm; omega)⟩, only_setCell (only_of_below b14 _) (.inl rfl) _⟩
/-- Nothing is fed to a stream with a fault. -/
theorem streamFeed_still (g : Nat) (l : List UInt8) (C S : Int) (D : List UInt8) (A : Option Addr) (n c : Nat) (w : World) (own : Option Nat) (h : SMX w g l C S D own) (hC : C ≠ 0) :
    Calls Tryd.prog 77 #[.pointer (some ⟨g, 0, none⟩), .slice A n c] w fun en w' => en = .returned (.tuple #[]) ∧ w = w' := by
  obtain ⟨A1, n1, c1, A2, n2, c2, hB, hnc, h1, h2, ho⟩ := h
  have e1 := hB.cell 1
  have hc : (C != 0) = true := by simpa using hC
  go_enter Tryd.func77, Tryd.ntmps77
  go_wp2_with fail
  go_returns
  exact ⟨rfl, rfl⟩
/-- What a stream hands out next, and what it is then. -/
def snOut (l : List UInt8) : Int × List UInt8 × Bool := if (nextR l).2.2.1 = 0 then (0, [], false) else ((nextR l).1, (nextR l).2.1, true)
theorem nextR_cases (l : List UInt8) : ((nextR l).2.2.2.1 ≠ 0 ∧ (nextR l).2.2.1 = 0) ∨ ((nextR l).2.2.2.1 = 0 ∧ (nextR l).2.2.1 = 0) ∨ ((nextR l).2.2.2.1 = 0 ∧ 19 ≤ (nextR l).2.2.1 ∧ (nextR l).2.2.1 ≤ l.length) := by
  unfold nextR
  split
  · exact .inr (.inl ⟨rfl, rfl⟩)
  · split
    · rename_i h1 h2
      by_cases h : (headR l).2.2.1 = 0
      · exact .inr (.inl ⟨h, rfl⟩)
      · exact .inl ⟨h, rfl⟩
    · rename_i h1 h2
      have h3 : (headR l).2.2.1 = 0 := by
        by_cases h : (headR l).2.2.1 = 0
        · exact h
        · exact absurd (.inl h) h2
      obtain ⟨_, _, h4, _⟩ := headR_ok l h3
      exact .inr (.inr ⟨rfl, h4, by simp only; omega⟩)
set_option maxHeartbeats 1000000 in
set_option maxRecDepth 100000 in
theorem streamNext_still (g : Nat) (l : List UInt8) (C S : Int) (D : List UInt8) (w : World) (own : Option Nat) (h : SMX w g l C S D own) (hC : C ≠ 0) :
    Calls Tryd.prog 78 #[.pointer (some ⟨g, 0, none⟩)] w fun en w' => en = .returned (.tuple #[.int .i64 0, .slice none 0 0, .bool false]) ∧ w = w' := by
  obtain ⟨A1, n1, c1, A2, n2, c2, hB, hnc, h1, h2, ho⟩ := h
  have e1 := hB.cell 1
  have hc : (C != 0) = true := by simpa using hC
  go_enter Tryd.func78, Tryd.ntmps78
  go_wp2_with fail
  go_returns
  exact ⟨rfl, rfl⟩
set_option maxHeartbeats 1000000 in
set_option maxRecDepth 100000 in
theorem streamNext_none (g : Nat) (l : List UInt8) (S : Int) (D : List UInt8) (w : World) (own : Option Nat) (h : SMX w g l 0 S D own) (ht : LeaTab w) (hl : l.length ≤ 100000) (hC : (nextR l).2.2.2.1 = 0) (hM : (nextR l).2.2.1 = 0) :
    Calls Tryd.prog 78 #[.pointer (some ⟨g, 0, none⟩)] w fun en w' => en = .returned (.tuple #[.int .i64 0, .slice none 0 0, .bool false]) ∧ SMX w' g l 0 S D own ∧ w.grownBy w' (some g) := by
  obtain ⟨A1, n1, c1, A2, n2, c2, hB, hnc, h1, h2, ho⟩ := h
  have hg := hB.lt
  have e0 := hB.cell 0
  have e1 := hB.cell 1
  have H1 := Lib.hid h1.len
  obtain ⟨R, hR⟩ : ∃ R, nextR l = R := ⟨_, rfl⟩
  obtain ⟨K, B, M, C, T, E⟩ := R
  rw [hR] at hC hM
  simp only at hC hM
  subst hC hM
  have HR := Lib.hid hR
  clear hR
  go_enter Tryd.func78, Tryd.ntmps78
  go_wp2_with fail
  refine (frameNext A1 n1 c1 l _ ht h1 hnc (by rw [H1.out]; exact hl)).mono ?_
  rintro _ w1 ⟨A3, n3, c3, A4, n4, c4, rfl, hnc3, o3, o4, b1, _⟩
  rw [HR.out] at o3 o4 ⊢
  dsimp only at o3 o4 ⊢
  have hB1 := (hB.below b1 hg).alloc (.cells #[.int .i64 0, .int .i64 T, .slice A4 n4 c4] 29)
  have b2 := b1.alloc b1.size (.cells #[.int .i64 0, .int .i64 T, .slice A4 n4 c4] 29)
  have k2 := (Below.refl w1.heap.size w1).alloc (Nat.le_refl _) (.cells #[.int .i64 0, .int .i64 T, .slice A4 n4 c4] 29)
  have hF := Blk.new w1 29 #[.int .i64 0, .int .i64 T, .slice A4 n4 c4]
  have r3 := o3.call k2
  have r4 := o4.call k2
  have r1 := h1.call b2
  have r2 := h2.call b2
  obtain ⟨W, hW⟩ : ∃ W, w1.alloc (.cells #[.int .i64 0, .int .i64 T, .slice A4 n4 c4] 29) = W := ⟨_, rfl⟩
  rw [hW] at hB1 b2 hF r1 r2 r3 r4
  have k0 := hF.cell 0
  have k1 := hF.cell 1
  have k2' := hF.cell 2
  have m0 := hB1.cell 0
  have m1 := hB1.cell 1
  have m2 := hB1.cell 2
  have m3 := hB1.cell 3
  have f0 := hB1.frozen 0
  have f1 := hB1.frozen 1
  have f2 := hB1.frozen 2
  have f3 := hB1.frozen 3
  have hgne : ¬ w1.heap.size = g := by have := b1.size; omega
  go_wp2_with fail
  try rw [hW]
  clear hW
  go_returns
  exact ⟨rfl, ⟨A1, n1, c1, A2, n2, c2, hB1, hnc, r1, r2, ho⟩, only_of_below b2 _⟩
set_option maxHeartbeats 1000000 in
set_option maxRecDepth 100000 in
theorem streamNext_fault (g : Nat) (l : List UInt8) (S : Int) (D : List UInt8) (w : World) (own : Option Nat) (h : SMX w g l 0 S D own) (ht : LeaTab w) (hl : l.length ≤ 100000) (hC : (nextR l).2.2.2.1 ≠ 0) :
    Calls Tryd.prog 78 #[.pointer (some ⟨g, 0, none⟩)] w fun en w' => en = .returned (.tuple #[.int .i64 0, .slice none 0 0, .bool false]) ∧ SMX w' g [] (nextR l).2.2.2.1 (nextR l).2.2.2.2.1 (nextR l).2.2.2.2.2 own ∧ w.grownBy w' (some g) := by
  obtain ⟨A1, n1, c1, A2, n2, c2, hB, hnc, h1, h2, ho⟩ := h
  have hg := hB.lt
  have e0 := hB.cell 0
  have e1 := hB.cell 1
  have H1 := Lib.hid h1.len
  have hM : (nextR l).2.2.1 = 0 := by
    rcases nextR_cases l with h | h | h
    · exact h.2
    · exact absurd h.1 hC
    · exact absurd h.1 hC
  obtain ⟨R, hR⟩ : ∃ R, nextR l = R := ⟨_, rfl⟩
  obtain ⟨K, B, M, C, T, E⟩ := R
  rw [hR] at hC hM ⊢
  simp only at hC hM ⊢
  subst hM
  have hc : (C != 0) = true := by simpa using hC
  have HR := Lib.hid hR
  clear hR
  go_enter Tryd.func78, Tryd.ntmps78
  go_wp2_with fail
  refine (frameNext A1 n1 c1 l _ ht h1 hnc (by rw [H1.out]; exact hl)).mono ?_
  rintro _ w1 ⟨A3, n3, c3, A4, n4, c4, rfl, hnc3, o3, o4, b1, _⟩
  rw [HR.out] at o3 o4 ⊢
  dsimp only at o3 o4 ⊢
  have hB1 := (hB.below b1 hg).alloc (.cells #[.int .i64 C, .int .i64 T, .slice A4 n4 c4] 29)
  have b2 := b1.alloc b1.size (.cells #[.int .i64 C, .int .i64 T, .slice A4 n4 c4] 29)
  have k2 := (Below.refl w1.heap.size w1).alloc (Nat.le_refl _) (.cells #[.int .i64 C, .int .i64 T, .slice A4 n4 c4] 29)
  have hF := Blk.new w1 29 #[.int .i64 C, .int .i64 T, .slice A4 n4 c4]
  have r3 := o3.call k2
  have r4 := o4.call k2
  have r1 := h1.call b2
  have r2 := h2.call b2
  obtain ⟨W, hW⟩ : ∃ W, w1.alloc (.cells #[.int .i64 C, .int .i64 T, .slice A4 n4 c4] 29) = W := ⟨_, rfl⟩
  rw [hW] at hB1 b2 hF r1 r2 r3 r4
  have k0 := hF.cell 0
  have k1 := hF.cell 1
  have k2' := hF.cell 2
  have m0 := hB1.cell 0
  have m1 := hB1.cell 1
  have m2 := hB1.cell 2
  have m3 := hB1.cell 3
  have f0 := hB1.frozen 0
  have f1 := hB1.frozen 1
  have f2 := hB1.frozen 2
  have f3 := hB1.frozen 3
  have hgne : ¬ w1.heap.size = g := by have := b1.size; omega
  go_wp2_with fail
  try rw [hW]
  clear hW
  have hB2 := (((hB1.set_ 1 (.int .i64 C)).set_ 2 (.int .i64 T)).set_ 3 (.slice A4 n4 c4)).set_ 0 (.slice none 0 0)
  have hg2 := only_setCell (only_setCell (only_setCell (only_setCell (World.grownBy.refl W (some g)) (p := ⟨g, 1, none⟩) (.inl rfl) (.int .i64 C)) (p := ⟨g, 2, none⟩) (.inl rfl) (.int .i64 T)) (p := ⟨g, 3, none⟩) (.inl rfl) (.slice A4 n4 c4)) (p := ⟨g, 0, none⟩) (.inl rfl) (.slice none 0 0)
  have hg3 := only_setCell (only_setCell (only_setCell (only_setCell (only_of_below b2 (some g)) (p := ⟨g, 1, none⟩) (.inl rfl) (.int .i64 C)) (p := ⟨g, 2, none⟩) (.inl rfl) (.int .i64 T)) (p := ⟨g, 3, none⟩) (.inl rfl) (.slice A4 n4 c4)) (p := ⟨g, 0, none⟩) (.inl rfl) (.slice none 0 0)
  go_returns
  exact ⟨rfl, ⟨none, 0, 0, A4, n4, c4, by simpa using hB2, Nat.le_refl _, BS.none_, r4.grownAt hg2 (r4.apart hB1 sm_no), far_zero⟩, hg3⟩
set_option maxHeartbeats 1000000 in
set_option maxRecDepth 100000 in
theorem streamNext_msg (g : Nat) (l : List UInt8) (S : Int) (D : List UInt8) (w : World) (own : Option Nat) (h : SMX w g l 0 S D own) (ht : LeaTab w) (hl : l.length ≤ 100000) (m : Nat) (hM : (nextR l).2.2.1 = (m : Int)) (hm : 1 ≤ m) :
    Calls Tryd.prog 78 #[.pointer (some ⟨g, 0, none⟩)] w fun en w' => ∃ A n c, en = .returned (.tuple #[.int .i64 (nextR l).1, .slice A n c, .bool true]) ∧ n ≤ c ∧ BS w' w'.heap.size A n (nextR l).2.1 ∧ SMX w' g (l.drop m) 0 S D own ∧ w.grownBy w' (some g) ∧ (0 < n → ∀ ad, A = some ad → w.heap.size ≤ ad.block) := by
  obtain ⟨A1, n1, c1, A2, n2, c2, hB, hnc, h1, h2, ho⟩ := h
  have hg := hB.lt
  have e0 := hB.cell 0
  have e1 := hB.cell 1
  have H1 := Lib.hid h1.len
  have hC : (nextR l).2.2.2.1 = 0 ∧ m ≤ l.length := by
    rcases nextR_cases l with h | h | h
    · omega
    · omega
    · omega
  obtain ⟨hC, hml⟩ := hC
  obtain ⟨R, hR⟩ : ∃ R, nextR l = R := ⟨_, rfl⟩
  obtain ⟨K, B, M, C, T, E⟩ := R
  rw [hR] at hC hM ⊢
  simp only at hC hM ⊢
  subst hC hM
  have hm0 : ((m : Int) == 0) = false := by simpa using (by omega : ¬ m = 0)
  have hm1 : ¬ m = 0 := by omega
  have hmn : m ≤ n1 := by rw [H1.out]; exact hml
  have hmni : (m : Int) ≤ n1 := by omega
  have hmci : (m : Int) ≤ c1 := by omega
  have hmn0 : (0 : Int) ≤ m := by omega
  have HR := Lib.hid hR
  clear hR hml
  go_enter Tryd.func78, Tryd.ntmps78
  go_wp2_with fail
  refine (frameNext A1 n1 c1 l _ ht h1 hnc (by rw [H1.out]; exact hl)).mono ?_
  rintro _ w1 ⟨A3, n3, c3, A4, n4, c4, rfl, hnc3, o3, o4, b1, hfr⟩
  rw [HR.out] at o3 o4 ⊢
  dsimp only at o3 o4 ⊢
  have hB1 := (hB.below b1 hg).alloc (.cells #[.int .i64 0, .int .i64 T, .slice A4 n4 c4] 29)
  have b2 := b1.alloc b1.size (.cells #[.int .i64 0, .int .i64 T, .slice A4 n4 c4] 29)
  have k2 := (Below.refl w1.heap.size w1).alloc (Nat.le_refl _) (.cells #[.int .i64 0, .int .i64 T, .slice A4 n4 c4] 29)
  have hF := Blk.new w1 29 #[.int .i64 0, .int .i64 T, .slice A4 n4 c4]
  have r3 := o3.call k2
  have r4 := o4.call k2
  have r1 := h1.call b2
  have r2 := h2.call b2
  obtain ⟨W, hW⟩ : ∃ W, w1.alloc (.cells #[.int .i64 0, .int .i64 T, .slice A4 n4 c4] 29) = W := ⟨_, rfl⟩
  rw [hW] at hB1 b2 hF r1 r2 r3 r4
  have k0 := hF.cell 0
  have k1 := hF.cell 1
  have k2' := hF.cell 2
  have m0 := hB1.cell 0
  have m1 := hB1.cell 1
  have m2 := hB1.cell 2
  have m3 := hB1.cell 3
  have f0 := hB1.frozen 0
  have f1 := hB1.frozen 1
  have f2 := hB1.frozen 2
  have f3 := hB1.frozen 3
  have hgne : ¬ w1.heap.size = g := by have := b1.size; omega
  have rD := r1.drop_ (k := m) hmn hnc
  obtain ⟨b, off, rfl, hbw, _⟩ := r1.form (k := 0) (by omega)
  by_cases hcm : c1 = m
  · rw [if_pos hcm] at rD
    subst hcm
    have hn1 : n1 = c1 := by omega
    subst hn1
    rw [Nat.sub_self] at rD
    go_wp2_with fail
    try rw [hW]
    clear hW
    have hB2 := hB1.set_ 0 (.slice (some ⟨b, off, none⟩) 0 0)
    have hg2 := only_setCell (World.grownBy.refl W (some g)) (p := ⟨g, 0, none⟩) (.inl rfl) (.slice (some ⟨b, off, none⟩) 0 0)
    have hg3 := only_setCell (only_of_below b2 (some g)) (p := ⟨g, 0, none⟩) (.inl rfl) (.slice (some ⟨b, off, none⟩) 0 0)
    go_returns
    exact ⟨_, _, _, rfl, hnc3, r3.grownAt hg2 (r3.apart hB1 sm_no), ⟨_, _, _, A2, n2, c2, by simpa using hB2, by omega, rD.grownAt hg2 (rD.apart hB1 sm_no), r2.grownAt hg2 (r2.apart hB1 sm_no), far_zero⟩, hg3, hfr⟩
  · rw [if_neg hcm] at rD
    have rD : BS W W.heap.size (some ⟨b, off + m, none⟩) (n1 - m) (l.drop m) := by simpa [Addr.add, hm1] using rD
    go_wp2_with fail
    try rw [hW]
    clear hW
    have hB2 := hB1.set_ 0 (.slice (some ⟨b, off + m, none⟩) (n1 - m) (c1 - m))
    have hg2 := only_setCell (World.grownBy.refl W (some g)) (p := ⟨g, 0, none⟩) (.inl rfl) (.slice (some ⟨b, off + m, none⟩) (n1 - m) (c1 - m))
    have hg3 := only_setCell (only_of_below b2 (some g)) (p := ⟨g, 0, none⟩) (.inl rfl) (.slice (some ⟨b, off + m, none⟩) (n1 - m) (c1 - m))
    go_returns
    exact ⟨_, _, _, rfl, hnc3, r3.grownAt hg2 (r3.apart hB1 sm_no), ⟨some ⟨b, off + m, none⟩, n1 - m, c1 - m, A2, n2, c2, by simpa using hB2, by omega, rD.grownAt hg2 (rD.apart hB1 sm_no), r2.grownAt hg2 (r2.apart hB1 sm_no), fun hn ad he => by cases he; exact ho (by omega) ⟨b, off, none⟩ rfl⟩, hg3, hfr⟩
end Go.Proofs.YtdcldmblgbefnaaDoor
