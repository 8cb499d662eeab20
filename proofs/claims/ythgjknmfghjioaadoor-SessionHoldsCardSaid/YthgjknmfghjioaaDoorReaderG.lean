/- Walks of layer 1 (octet): a reader whose bytes lie below a bound. Conditions: none but sizes. -/
import Derived.Test.YthgjknmfghjioaaDoorProg
import Derived.WalkKit
import Derived.WalkSpells
import Derived.WalkLawsBesides
import Derived.Outline
import Derived.Deep.QuietTactic
import Derived.BigQuiet
import Derived.Handy
import Derived.Lib.Hide
import Derived.Test.YthgjknmfghjioaaDoorReaderB
namespace Go.Proofs.YthgjknmfghjioaaDoor
open Go.RowKit
theorem BS.grownAtB {w w' : World} {B n g : Nat} {A : Option Addr} {l : List UInt8} (h : BS w B A n l) (hB : B ≤ w.heap.size) (hg : w.grownBy w' (some g)) (hne : 0 < n → ∀ ad, A = some ad → ad.block ≠ g) : BS w' B A n l := by
  refine ⟨h.1, h.2.1, fun hn => ?_⟩
  obtain ⟨ad, e, hb, hc⟩ := h.2.2 hn
  refine ⟨ad, e, hb, fun j u hu => ?_⟩
  refine (World.cell?_of_block ?_).trans (hc j u hu)
  rw [block_of_add]
  exact hg.block _ (Nat.lt_of_lt_of_le hb hB) (fun e' => by injection e' with e'; exact hne hn _ e e')
/-- A reader's row; its bytes lie below Bd. -/
def RB (Bd : Nat) (w : World) (g : Nat) (l : List UInt8) (s : Bool) : Prop := ∃ (A : Option Addr) (n c : Nat), Blk w g 132 #[.slice A n c, .bool s] ∧ (n ≤ c ∧ Bd ≤ w.heap.size) ∧ BS w Bd A n l
theorem RB.lt {Bd : Nat} {w : World} {g : Nat} {l : List UInt8} {s : Bool} (h : RB Bd w g l s) : g < w.heap.size := by
  obtain ⟨_, _, _, hb, _⟩ := h; exact hb.lt
theorem RB.blk {Bd : Nat} {w : World} {g : Nat} {l : List UInt8} {s : Bool} (h : RB Bd w g l s) : ∃ cs, Blk w g 132 cs := by
  obtain ⟨_, _, _, hb, _⟩ := h; exact ⟨_, hb⟩
theorem RB.keep {Bd : Nat} {w w' : World} {g : Nat} {l : List UInt8} {s : Bool} (h : RB Bd w g l s) (hz : w.heap.size ≤ w'.heap.size) (hk : ∀ b, b < Bd ∨ b = g → w'.heap[b]? = w.heap[b]?) : RB Bd w' g l s := by
  obtain ⟨A, n, c, hb, ⟨hnc, hBd⟩, hbs⟩ := h
  exact ⟨A, n, c, (hk g (.inr rfl)).trans hb, ⟨hnc, Nat.le_trans hBd hz⟩, hbs.1, hbs.2.keep fun p hp => World.cell?_of_block (hk p.block (.inl hp))⟩
theorem RB.below {Bd B : Nat} {w w' : World} {g : Nat} {l : List UInt8} {s : Bool} (h : RB Bd w g l s) (hb : Below B w w') (hB : Bd ≤ B) (hg : g < B) : RB Bd w' g l s :=
  h.keep hb.size fun b hb' => hb.block b (by rcases hb' with h | h <;> omega)
theorem RB.setCell {Bd : Nat} {w : World} {g : Nat} {l : List UInt8} {s : Bool} (h : RB Bd w g l s) {p : Addr} (hp : Bd ≤ p.block) (hne : p.block ≠ g) (u : Value) : RB Bd (w.setCell p u) g l s :=
  h.keep (by simp [World.setCell]) fun b hb' => Below.heap_setCell w p u b (by rcases hb' with h | h <;> omega)
theorem RB.grown {Bd : Nat} {w w' : World} {g : Nat} {l : List UInt8} {s : Bool} {row : Option Nat} (h : RB Bd w g l s) (hg : w.grownBy w' row) (hr : ∀ k, row = some k → Bd ≤ k ∧ k ≠ g) : RB Bd w' g l s := by
  have hlt := h.lt
  have hBd : Bd ≤ w.heap.size := by obtain ⟨_, _, _, _, ⟨_, h⟩, _⟩ := h; exact h
  exact h.keep hg.size fun b hb' => hg.block b (by rcases hb' with h | h <;> omega) (fun e => by have := hr b e.symm; rcases hb' with h | h <;> omega)
theorem RB.rd {Bd : Nat} {w : World} {g : Nat} {l : List UInt8} {s : Bool} (h : RB Bd w g l s) : RD w g l s := by
  obtain ⟨A, n, c, hb, ⟨hnc, hBd⟩, hbs⟩ := h
  exact ⟨A, n, c, hb, hnc, hbs.more hBd⟩
set_option maxHeartbeats 1000000 in
set_option maxRecDepth 100000 in
theorem rbNew (A : Option Addr) (n c : Nat) (l : List UInt8) (w : World) (h : BS w w.heap.size A n l) (hl : n ≤ 140737488355320) :
    Calls Tryd.prog 52 #[.slice A n c] w fun en w' => ∃ g, en = .returned (.pointer (some ⟨g, 0, none⟩)) ∧ w.heap.size ≤ g ∧ RB w'.heap.size w' g l false ∧ Below w.heap.size w w' := by
  have hl2 := h.len
  go_enter Tryd.func52, Tryd.ntmps52
  go_wp2_with (at_builtin; refine wpl_app rfl (.const (.slice none 0 0)) (.tmp 3) _ rfl 5 Tryd.underlying34 u8info w.heap.size none 0 0 [] rfl OB.nil_ w.heap.size A n c l rfl h (by simp; omega) (Nat.le_refl _) ?_; intro A0 n0 c0 w0 o0 b0 g0; rw [List.nil_append] at o0)
  go_ret
  exact ⟨_, rfl, b0.size, ⟨A0, n0, c0, Blk.new _ _ _, ⟨o0.cap, Nat.le_refl _⟩, (o0.alloc _).bs⟩, b0.alloc b0.size _⟩
set_option maxHeartbeats 1000000 in
set_option maxRecDepth 100000 in
theorem rbTake_was {Bd : Nat} (g : Nat) (l : List UInt8) (k : Int) (w : World) (h : RB Bd w g l true) :
    Calls Tryd.prog 59 #[.pointer (some ⟨g, 0, none⟩), .int .i64 k] w (TkPost (fun w' => RB Bd w' g) g w l true k) := by
  have h' := h
  obtain ⟨A, n, c, hb, ⟨hnc, hBd⟩, hbs⟩ := h
  have hc1 := hb.cell 1
  go_enter Tryd.func59, Tryd.ntmps59
  go_wp2_with fail
  go_ret
  refine ⟨none, 0, 0, rfl, by simpa [tkOut] using OB.nil_, ?_, World.grownBy.refl w _⟩
  simpa [tkLeft, tkShort] using h'
set_option maxHeartbeats 1000000 in
set_option maxRecDepth 100000 in
theorem rbTake_short {Bd : Nat} (g : Nat) (l : List UInt8) (k : Int) (w : World) (h : RB Bd w g l false) (hk : k < 0 ∨ (l.length : Int) < k) :
    Calls Tryd.prog 59 #[.pointer (some ⟨g, 0, none⟩), .int .i64 k] w (TkPost (fun w' => RB Bd w' g) g w l false k) := by
  obtain ⟨A, n, c, hb, ⟨hnc, hBd⟩, hbs⟩ := h
  have hc0 := hb.cell 0
  have hc1 := hb.cell 1
  have hf1 := hb.frozen 1
  have hn := hbs.len
  have HE := Lib.hid (show TkPost (fun w' => RB Bd w' g) g w l false k (.returned (.slice none 0 0)) (w.setCell ⟨g, 1, none⟩ (.bool true)) from by
    have hor : false = true ∨ k < 0 ∨ (l.length : Int) < k := .inr hk
    refine ⟨none, 0, 0, rfl, by simpa [tkOut, hk] using OB.nil_, ?_, only_setCell (World.grownBy.refl w _) (.inl rfl) _⟩
    have hg := only_setCell (World.grownBy.refl w (some g)) (p := ⟨g, 1, none⟩) (.inl rfl) (.bool true)
    refine ⟨A, n, c, ?_, ⟨hnc, by simpa [World.setCell] using hBd⟩, ?_⟩
    · have := hb.set_ 1 (.bool true)
      simpa [tkShort, hk] using this
    · rw [tkLeft, if_pos hor]
      exact hbs.grownAtB hBd hg (hbs.apart hb rd_no))
  by_cases hk0 : k < 0
  · go_enter Tryd.func59, Tryd.ntmps59
    go_wp2_with fail
    go_ret
    exact HE.out
  · have hk1 : (n : Int) < k := by omega
    go_enter Tryd.func59, Tryd.ntmps59
    go_wp2_with fail
    go_ret
    exact HE.out
set_option maxHeartbeats 1000000 in
set_option maxRecDepth 100000 in
theorem rbTake_ok {Bd : Nat} (g : Nat) (l : List UInt8) (k : Nat) (w : World) (h : RB Bd w g l false) (hk : k ≤ l.length) (hl : l.length ≤ 140737488355320) :
    Calls Tryd.prog 59 #[.pointer (some ⟨g, 0, none⟩), .int .i64 k] w (TkPost (fun w' => RB Bd w' g) g w l false k) := by
  obtain ⟨A, n, c, hb, ⟨hnc, hBd⟩, hbs⟩ := h
  have hc0 := hb.cell 0
  have hc1 := hb.cell 1
  have hf0 := hb.frozen 0
  have hn := hbs.len
  have hkn : k ≤ n := by omega
  have hkc : k ≤ c := by omega
  have hki : (k : Int) ≤ n := by omega
  have hk0 : (0 : Int) ≤ k := by omega
  have HE := Lib.hid (show ∀ (A0 : Option Addr) (n0 c0 : Nat) (w0 : World) (A' : Option Addr) (n' c' : Nat), OB w0 5 w.heap.size A0 n0 c0 (l.take k) → Below w.heap.size w w0 → A' = (if c = k then A else A.map (·.add k)) → n' = n - k → c' = c - k →
      TkPost (fun w' => RB Bd w' g) g w l false k (.returned (.slice A0 n0 c0)) (w0.setCell ⟨g, 0, none⟩ (.slice A' n' c')) from by
    rintro A0 n0 c0 w0 A' n' c' o0 b0 rfl rfl rfl
    have hor : ¬ (false = true ∨ (k : Int) < 0 ∨ (l.length : Int) < k) := by simp; omega
    have hb0 := hb.below b0 hb.lt
    have hbs0 := hbs.below (b0.mono hBd)
    have hBd0 := Nat.le_trans hBd b0.size
    have hg0 := World.grownBy.refl w0 (some g)
    have hg1 := only_setCell hg0 (p := ⟨g, 0, none⟩) (.inl rfl) (.slice (if c = k then A else A.map (·.add k)) (n - k) (c - k))
    refine ⟨A0, n0, c0, rfl, ?_, ?_, only_setCell (only_of_below b0 _) (.inl rfl) _⟩
    · rw [tkOut, if_neg hor, Int.toNat_natCast]
      exact o0.grownAt hg1 hb.lt
    · refine ⟨(if c = k then A else A.map (·.add k)), n - k, c - k, ?_, ⟨by omega, by simpa [World.setCell] using hBd0⟩, ?_⟩
      · have := hb0.set_ 0 (.slice (if c = k then A else A.map (·.add k)) (n - k) (c - k))
        rw [tkShort, decide_eq_false hor]
        simpa using this
      · rw [tkLeft, if_neg hor, Int.toNat_natCast]
        exact (hbs0.grownAtB hBd0 hg1 (hbs0.apart hb0 rd_no)).drop_ hkn hnc)
  go_enter Tryd.func59, Tryd.ntmps59
  go_wp2_with (at_builtin; refine wpl_app rfl (.const (.slice none 0 0)) (.tmp 33) _ rfl 5 Tryd.underlying34 u8info w.heap.size none 0 0 [] rfl OB.nil_ w.heap.size A k c (l.take k) (by rfl) ((hbs.more hBd).take_ hkn) (by simp; omega) (Nat.le_refl _) ?_; intro A0 n0 c0 w0 o0 b0 g0; rw [List.nil_append] at o0; have hb0 := hb.below b0 hb.lt; have hc00 := hb0.cell 0; have hf00 := hb0.frozen 0)
  all_goals
    try go_ret
  all_goals
    refine HE.out A0 n0 c0 w0 _ _ _ o0 b0 ?_ ?_ ?_
    · first | (rw [if_pos rfl]) | (rw [if_neg (by assumption)]) | (rw [if_pos (by assumption)])
    · omega
    · omega
theorem rbTake {Bd : Nat} (g : Nat) (l : List UInt8) (s : Bool) (k : Int) (w : World) (h : RB Bd w g l s) (hl : l.length ≤ 140737488355320) :
    Calls Tryd.prog 59 #[.pointer (some ⟨g, 0, none⟩), .int .i64 k] w (TkPost (fun w' => RB Bd w' g) g w l s k) := by
  cases s
  · by_cases hk : k < 0 ∨ (l.length : Int) < k
    · exact rbTake_short g l k w h hk
    · obtain ⟨m, rfl⟩ := Int.eq_ofNat_of_zero_le (show 0 ≤ k by omega)
      exact rbTake_ok g l m w h (by omega) hl
  · exact rbTake_was g l k w h
set_option maxHeartbeats 1000000 in
set_option maxRecDepth 100000 in
theorem rbNumber {Bd : Nat} (g : Nat) (l : List UInt8) (s : Bool) (k : Nat) (w : World) (h : RB Bd w g l s) (hl : l.length ≤ 140737488355320) (hk : k ≤ 4) :
    Calls Tryd.prog 69 #[.pointer (some ⟨g, 0, none⟩), .int .i64 k] w fun en w' => en = .returned (.int .u32 (numL (tkOut l s k))) ∧ RB Bd w' g (tkLeft l s k) (tkShort l s k) ∧ w.grownBy w' (some g) := by
  have hL := tkOut_len l s k
  go_enter Tryd.func69, Tryd.ntmps69
  go_wp2_with fail
  refine (rbTake g l s k _ h hl).mono ?_
  rintro _ w1 ⟨A1, n1, c1, rfl, o1, r1, g1⟩
  obtain ⟨L, HL⟩ : ∃ L, tkOut l s k = L := ⟨_, rfl⟩
  rw [HL] at o1 hL
  have HL' := Lib.hid HL
  clear HL
  have hn1 := o1.1
  go_wp2_with fail
  go_loop [5, 12] (fun x i => ∃ j : Nat, j ≤ n1 ∧ x = .int .u32 (numL (L.take j)) ∧ i = .int .i64 j) (fun _ i => n1 - (intOf i).toNat)
  case atStart => exact ⟨0, by omega, rfl, rfl⟩
  case round =>
    obtain ⟨j, hj, rfl, rfl⟩ := hrel
    by_cases hlt : j < n1
    · obtain ⟨b, off, rfl, hbw, hcw⟩ := o1.bs.form hlt
      have hs := numL_succ L j (by omega)
      have hb := numL_lt L j (by omega)
      have hv := lb_lt L j
      have hpow : 256 ^ j ≤ 256 ^ 3 := Nat.pow_le_pow_right (by omega) (by omega)
      obtain ⟨v, hvv⟩ : ∃ v, lb L j = v := ⟨_, rfl⟩
      obtain ⟨x, hxx⟩ : ∃ x, numL (L.take j) = x := ⟨_, rfl⟩
      rw [hvv] at hcw hv hs
      rw [hxx] at hb hs
      go_wp2_with fail
      go_round
      case rel =>
        refine ⟨j + 1, by omega, ?_, by go_num⟩
        have hx : x < 16777216 := by
          have : (256 : Nat) ^ 3 = 16777216 := by decide
          omega
        rw [hs, u32_or8 x v hx hv]
      case measure => simp [intOf]; omega
    · have hj' : j = n1 := by omega
      go_wp2_with fail
      go_ret
      refine ⟨?_, r1, g1⟩
      rw [HL'.out]
      rfl
set_option maxHeartbeats 1000000 in
set_option maxRecDepth 100000 in
theorem rbByte {Bd : Nat} (g : Nat) (l : List UInt8) (s : Bool) (w : World) (h : RB Bd w g l s) (hl : l.length ≤ 140737488355320) :
    Calls Tryd.prog 53 #[.pointer (some ⟨g, 0, none⟩)] w fun en w' => en = .returned (.int .i64 (numL (tkOut l s (1 : Nat)))) ∧ RB Bd w' g (tkLeft l s (1 : Nat)) (tkShort l s (1 : Nat)) ∧ w.grownBy w' (some g) := by
  have hN := tkOut_num l s 1
  obtain ⟨N, hNN⟩ : ∃ N, numL (tkOut l s (1 : Nat)) = N := ⟨_, rfl⟩
  rw [hNN] at hN
  have HN := Lib.hid hNN
  clear hNN
  go_enter Tryd.func53, Tryd.ntmps53
  go_wp2_with fail
  refine (rbNumber g l s 1 _ h hl (by omega)).mono ?_
  rw [HN.out]
  rintro _ w1 ⟨rfl, r1, g1⟩
  go_wp2_with fail
  go_ret
  exact ⟨by rw [HN.out]; rfl, r1, g1⟩
set_option maxHeartbeats 1000000 in
set_option maxRecDepth 100000 in
theorem rbU16 {Bd : Nat} (g : Nat) (l : List UInt8) (s : Bool) (w : World) (h : RB Bd w g l s) (hl : l.length ≤ 140737488355320) :
    Calls Tryd.prog 54 #[.pointer (some ⟨g, 0, none⟩)] w fun en w' => en = .returned (.int .i64 (numL (tkOut l s (2 : Nat)))) ∧ RB Bd w' g (tkLeft l s (2 : Nat)) (tkShort l s (2 : Nat)) ∧ w.grownBy w' (some g) := by
  have hN := tkOut_num l s 2
  obtain ⟨N, hNN⟩ : ∃ N, numL (tkOut l s (2 : Nat)) = N := ⟨_, rfl⟩
  rw [hNN] at hN
  have HN := Lib.hid hNN
  clear hNN
  go_enter Tryd.func54, Tryd.ntmps54
  go_wp2_with fail
  refine (rbNumber g l s 2 _ h hl (by omega)).mono ?_
  rw [HN.out]
  rintro _ w1 ⟨rfl, r1, g1⟩
  go_wp2_with fail
  go_ret
  exact ⟨by rw [HN.out]; rfl, r1, g1⟩
set_option maxHeartbeats 1000000 in
set_option maxRecDepth 100000 in
theorem rbU32 {Bd : Nat} (g : Nat) (l : List UInt8) (s : Bool) (w : World) (h : RB Bd w g l s) (hl : l.length ≤ 140737488355320) :
    Calls Tryd.prog 55 #[.pointer (some ⟨g, 0, none⟩)] w fun en w' => en = .returned (.int .u32 (numL (tkOut l s (4 : Nat)))) ∧ RB Bd w' g (tkLeft l s (4 : Nat)) (tkShort l s (4 : Nat)) ∧ w.grownBy w' (some g) := by
  have hN := tkOut_num l s 4
  obtain ⟨N, hNN⟩ : ∃ N, numL (tkOut l s (4 : Nat)) = N := ⟨_, rfl⟩
  rw [hNN] at hN
  have HN := Lib.hid hNN
  clear hNN
  go_enter Tryd.func55, Tryd.ntmps55
  go_wp2_with fail
  refine (rbNumber g l s 4 _ h hl (by omega)).mono ?_
  rw [HN.out]
  rintro _ w1 ⟨rfl, r1, g1⟩
  go_wp2_with fail
  go_ret
  exact ⟨by rw [HN.out]; rfl, r1, g1⟩
theorem rbLeft {Bd : Nat} (g : Nat) (l : List UInt8) (s : Bool) (w : World) (h : RB Bd w g l s) :
    Calls Tryd.prog 57 #[.pointer (some ⟨g, 0, none⟩)] w fun en w' => en = .returned (.int .i64 (if s then 0 else l.length : Nat)) ∧ w = w' := readerLeft g l s w h.rd
theorem rbErr {Bd : Nat} (g : Nat) (l : List UInt8) (s : Bool) (w : World) (h : RB Bd w g l s) :
    Calls Tryd.prog 56 #[.pointer (some ⟨g, 0, none⟩)] w fun en w' => en = .returned (.int .i64 (if s then 3 else 0 : Nat)) ∧ w = w' := readerErr g l s w h.rd
end Go.Proofs.YthgjknmfghjioaaDoor
