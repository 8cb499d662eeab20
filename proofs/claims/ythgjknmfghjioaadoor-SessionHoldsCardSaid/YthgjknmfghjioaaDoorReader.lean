/- Walks of layer 1 (octet): a reader that is there. Conditions: none but sizes. -/
import Derived.Test.YthgjknmfghjioaaDoorProg
import Derived.WalkKit
import Derived.WalkSpells
import Derived.WalkLawsBesides
import Derived.Outline
import Derived.Deep.QuietTactic
import Derived.BigQuiet
import Derived.Handy
import Derived.Lib.Hide
import Derived.Test.YthgjknmfghjioaaDoorOctetB
namespace Go.Proofs.YthgjknmfghjioaaDoor
open Go.RowKit
/-- What is owned stays owned while one older block changes. -/
theorem OB.grownAt {w w' : World} {T base g n c : Nat} {A : Option Addr} {l : List UInt8} (h : OB w T base A n c l) (hg : w.grownBy w' (some g)) (hlt : g < base) : OB w' T base A n c l := by
  refine ⟨h.1, h.2.1, ?_⟩
  rcases h.2.2 with h2 | ⟨g', cap, cur, hv, hb, hh, r⟩
  · exact .inl h2
  · have hl : g' < w.heap.size := by
      rcases Nat.lt_or_ge g' w.heap.size with hlt | hge
      · exact hlt
      · rw [Array.getElem?_eq_none hge] at hh; cases hh
    exact .inr ⟨g', cap, cur, hv, hb, (hg.block g' hl (fun e => by injection e with e; omega)).trans hh, r⟩
theorem OB.cap {w : World} {T base n c : Nat} {A : Option Addr} {l : List UInt8} (h : OB w T base A n c l) : n ≤ c := by
  rcases h.2.2 with ⟨hv, _⟩ | ⟨g', cap, cur, hv, _, _, hnc, _⟩
  · injection hv with _ h1 h2; omega
  · injection hv with _ _ h2; omega
theorem BS.take_ {w : World} {B n k : Nat} {A : Option Addr} {l : List UInt8} (h : BS w B A n l) (hk : k ≤ n) : BS w B A k (l.take k) := by
  obtain ⟨h1, h2, h3⟩ := h
  refine ⟨by rw [List.length_take]; omega, by rw [bv_length, List.length_take]; omega, fun hn => ?_⟩
  obtain ⟨ad, e, hb, hc⟩ := h3 (by omega)
  refine ⟨ad, e, hb, fun j u hu => hc j u ?_⟩
  rw [bv, List.map_take, List.getElem?_take] at hu
  split at hu
  · exact hu
  · cases hu
theorem BS.drop_ {w : World} {B n k c : Nat} {A : Option Addr} {l : List UInt8} (h : BS w B A n l) (hk : k ≤ n) (hc : n ≤ c) : BS w B (if c = k then A else A.map (·.add k)) (n - k) (l.drop k) := by
  have := Reads.cut h.2 hk hc
  rw [Nat.mul_one] at this
  refine ⟨by rw [List.length_drop, h.1], ?_⟩
  rw [bv, List.map_drop]
  exact this
/-- Bytes lie elsewhere than a row that holds no byte. -/
theorem BS.apart {w : World} {B n g : Nat} {A : Option Addr} {l : List UInt8} {t : TypeId} {cs : Array Value} (h : BS w B A n l) (hb : Blk w g t cs) (hno : ∀ (i : Nat) (v : Int), cs[i]? ≠ some (Value.int .u8 v)) : 0 < n → ∀ ad, A = some ad → ad.block ≠ g := by
  intro hn ad he hg
  obtain ⟨b, off, hA, _, hc⟩ := h.form hn
  rw [he] at hA
  injection hA with hA
  subst hA
  simp only at hg
  subst hg
  rw [hb.cell] at hc
  exact hno _ _ hc
/-- Bytes stay where they are while one other block changes. -/
theorem BS.grownAt {w w' : World} {n g : Nat} {A : Option Addr} {l : List UInt8} (h : BS w w.heap.size A n l) (hg : w.grownBy w' (some g)) (hne : 0 < n → ∀ ad, A = some ad → ad.block ≠ g) : BS w' w'.heap.size A n l := by
  refine ⟨h.1, h.2.1, fun hn => ?_⟩
  obtain ⟨ad, e, hb, hc⟩ := h.2.2 hn
  refine ⟨ad, e, Nat.lt_of_lt_of_le hb hg.size, fun j u hu => ?_⟩
  refine (World.cell?_of_block ?_).trans (hc j u hu)
  rw [block_of_add]
  exact hg.block _ hb (fun e' => by injection e' with e'; exact hne hn _ e e')
/-- A reader's row: what is left, and whether it is short. -/
def RD (w : World) (g : Nat) (l : List UInt8) (s : Bool) : Prop := ∃ (A : Option Addr) (n c : Nat), Blk w g 132 #[.slice A n c, .bool s] ∧ n ≤ c ∧ BS w w.heap.size A n l
theorem RD.lt {w : World} {g : Nat} {l : List UInt8} {s : Bool} (h : RD w g l s) : g < w.heap.size := by
  obtain ⟨_, _, _, hb, _⟩ := h; exact hb.lt
theorem rd_no {A : Option Addr} {n c : Nat} {s : Bool} : ∀ (i : Nat) (v : Int), (#[Value.slice A n c, Value.bool s] : Array Value)[i]? ≠ some (Value.int .u8 v) := by
  intro i v
  rcases i with _ | _ | i
  · simp
  · simp
  · simp
/-- What a call of Take hands back, what is left then, and whether the reader is short then. -/
def tkOut (l : List UInt8) (s : Bool) (k : Int) : List UInt8 := if s = true ∨ k < 0 ∨ (l.length : Int) < k then [] else l.take k.toNat
def tkLeft (l : List UInt8) (s : Bool) (k : Int) : List UInt8 := if s = true ∨ k < 0 ∨ (l.length : Int) < k then l else l.drop k.toNat
def tkShort (l : List UInt8) (s : Bool) (k : Int) : Bool := decide (s = true ∨ k < 0 ∨ (l.length : Int) < k)
/-- What a call of Take does, be it of the program's reader or of the document's. -/
def TkPost (R : World → List UInt8 → Bool → Prop) (g : Nat) (w : World) (l : List UInt8) (s : Bool) (k : Int) (e : Ending) (w' : World) : Prop :=
  ∃ (A : Option Addr) (n c : Nat), e = .returned (.slice A n c) ∧ OB w' 5 w.heap.size A n c (tkOut l s k) ∧ R w' (tkLeft l s k) (tkShort l s k) ∧ w.grownBy w' (some g)
set_option maxHeartbeats 1000000 in
set_option maxRecDepth 100000 in
theorem readerNew (A : Option Addr) (n c : Nat) (l : List UInt8) (w : World) (h : BS w w.heap.size A n l) (hl : n ≤ 100000) :
    Calls Tryd.prog 52 #[.slice A n c] w fun en w' => ∃ g, en = .returned (.pointer (some ⟨g, 0, none⟩)) ∧ w.heap.size ≤ g ∧ RD w' g l false ∧ Below w.heap.size w w' := by
  have hl2 := h.len
  go_enter Tryd.func52, Tryd.ntmps52
  go_wp2_with (at_builtin; refine wpl_app rfl (.const (.slice none 0 0)) (.tmp 3) _ rfl 5 Tryd.underlying34 u8info w.heap.size none 0 0 [] rfl OB.nil_ w.heap.size A n c l rfl h (by simp; omega) (Nat.le_refl _) ?_; intro A0 n0 c0 w0 o0 b0 g0; rw [List.nil_append] at o0)
  go_ret
  exact ⟨_, rfl, b0.size, ⟨A0, n0, c0, Blk.new _ _ _, o0.cap, (o0.alloc _).bs⟩, b0.alloc b0.size _⟩
set_option maxHeartbeats 1000000 in
set_option maxRecDepth 100000 in
theorem readerTake_was (g : Nat) (l : List UInt8) (k : Int) (w : World) (h : RD w g l true) :
    Calls Tryd.prog 59 #[.pointer (some ⟨g, 0, none⟩), .int .i64 k] w (TkPost (fun w' => RD w' g) g w l true k) := by
  have h' := h
  obtain ⟨A, n, c, hb, hnc, hbs⟩ := h
  have hc1 := hb.cell 1
  go_enter Tryd.func59, Tryd.ntmps59
  go_wp2_with fail
  go_ret
  refine ⟨none, 0, 0, rfl, by simpa [tkOut] using OB.nil_, ?_, World.grownBy.refl w _⟩
  simpa [tkLeft, tkShort] using h'
set_option maxHeartbeats 1000000 in
set_option maxRecDepth 100000 in
theorem readerTake_short (g : Nat) (l : List UInt8) (k : Int) (w : World) (h : RD w g l false) (hk : k < 0 ∨ (l.length : Int) < k) :
    Calls Tryd.prog 59 #[.pointer (some ⟨g, 0, none⟩), .int .i64 k] w (TkPost (fun w' => RD w' g) g w l false k) := by
  obtain ⟨A, n, c, hb, hnc, hbs⟩ := h
  have hc0 := hb.cell 0
  have hc1 := hb.cell 1
  have hf1 := hb.frozen 1
  have hn := hbs.len
  have HE := Lib.hid (show TkPost (fun w' => RD w' g) g w l false k (.returned (.slice none 0 0)) (w.setCell ⟨g, 1, none⟩ (.bool true)) from by
    have hor : false = true ∨ k < 0 ∨ (l.length : Int) < k := .inr hk
    refine ⟨none, 0, 0, rfl, by simpa [tkOut, hk] using OB.nil_, ?_, only_setCell (World.grownBy.refl w _) (.inl rfl) _⟩
    have hg := only_setCell (World.grownBy.refl w (some g)) (p := ⟨g, 1, none⟩) (.inl rfl) (.bool true)
    refine ⟨A, n, c, ?_, hnc, ?_⟩
    · have := hb.set_ 1 (.bool true)
      simpa [tkShort, hk] using this
    · rw [tkLeft, if_pos hor]
      exact hbs.grownAt hg (hbs.apart hb rd_no))
  by_cases hk0 : k < 0
  · go_enter Tryd.func59, Tryd.ntmps59
    go_wp2_with fail
    go_ret
    exact HE.out
  · have hk1 : (n : Int) < k := by omega
    go_enter Tryd.func59, Tryd.ntmps59
    go_wp2_with fail
    go_ret
    exact HE.out
set_option maxHeartbeats 1000000 in
set_option maxRecDepth 100000 in
theorem readerTake_ok (g : Nat) (l : List UInt8) (k : Nat) (w : World) (h : RD w g l false) (hk : k ≤ l.length) (hl : l.length ≤ 100000) :
    Calls Tryd.prog 59 #[.pointer (some ⟨g, 0, none⟩), .int .i64 k] w (TkPost (fun w' => RD w' g) g w l false k) := by
  obtain ⟨A, n, c, hb, hnc, hbs⟩ := h
  have hc0 := hb.cell 0
  have hc1 := hb.cell 1
  have hf0 := hb.frozen 0
  have hn := hbs.len
  have hkn : k ≤ n := by omega
  have hkc : k ≤ c := by omega
  have hki : (k : Int) ≤ n := by omega
  have hk0 : (0 : Int) ≤ k := by omega
  have HE := Lib.hid (show ∀ (A0 : Option Addr) (n0 c0 : Nat) (w0 : World) (A' : Option Addr) (n' c' : Nat), OB w0 5 w.heap.size A0 n0 c0 (l.take k) → Below w.heap.size w w0 → A' = (if c = k then A else A.map (·.add k)) → n' = n - k → c' = c - k →
      TkPost (fun w' => RD w' g) g w l false k (.returned (.slice A0 n0 c0)) (w0.setCell ⟨g, 0, none⟩ (.slice A' n' c')) from by
    rintro A0 n0 c0 w0 A' n' c' o0 b0 rfl rfl rfl
    have hor : ¬ (false = true ∨ (k : Int) < 0 ∨ (l.length : Int) < k) := by simp; omega
    have hb0 := hb.below b0 hb.lt
    have hbs0 := hbs.call b0
    have hg0 := World.grownBy.refl w0 (some g)
    have hg1 := only_setCell hg0 (p := ⟨g, 0, none⟩) (.inl rfl) (.slice (if c = k then A else A.map (·.add k)) (n - k) (c - k))
    refine ⟨A0, n0, c0, rfl, ?_, ?_, only_setCell (only_of_below b0 _) (.inl rfl) _⟩
    · rw [tkOut, if_neg hor, Int.toNat_natCast]
      exact o0.grownAt hg1 hb.lt
    · refine ⟨(if c = k then A else A.map (·.add k)), n - k, c - k, ?_, by omega, ?_⟩
      · have := hb0.set_ 0 (.slice (if c = k then A else A.map (·.add k)) (n - k) (c - k))
        rw [tkShort, decide_eq_false hor]
        simpa using this
      · rw [tkLeft, if_neg hor, Int.toNat_natCast]
        exact (hbs0.grownAt hg1 (hbs0.apart hb0 rd_no)).drop_ hkn hnc)
  go_enter Tryd.func59, Tryd.ntmps59
  go_wp2_with (at_builtin; refine wpl_app rfl (.const (.slice none 0 0)) (.tmp 33) _ rfl 5 Tryd.underlying34 u8info w.heap.size none 0 0 [] rfl OB.nil_ w.heap.size A k c (l.take k) (by rfl) (hbs.take_ hkn) (by simp; omega) (Nat.le_refl _) ?_; intro A0 n0 c0 w0 o0 b0 g0; rw [List.nil_append] at o0; have hb0 := hb.below b0 hb.lt; have hc00 := hb0.cell 0; have hf00 := hb0.frozen 0)
  all_goals
    try go_ret
  all_goals
    refine HE.out A0 n0 c0 w0 _ _ _ o0 b0 ?_ ?_ ?_
    · first | (rw [if_pos rfl]) | (rw [if_neg (by assumption)]) | (rw [if_pos (by assumption)])
    · omega
    · omega
end Go.Proofs.YthgjknmfghjioaaDoor
