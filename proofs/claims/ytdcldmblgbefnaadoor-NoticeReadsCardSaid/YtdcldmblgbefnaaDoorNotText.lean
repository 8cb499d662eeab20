/- Walks of layer 8 (notice): texts, and what the example says. Conditions: the table of digits (DigTab). -/
import Derived.Test.YtdcldmblgbefnaaDoorProg
import Derived.WalkKit
import Derived.WalkSpells
import Derived.WalkLawsBesides
import Derived.Outline
import Derived.Deep.QuietTactic
import Derived.BigQuiet
import Derived.Handy
import Derived.Lib.Hide
import Derived.Deep.RegionHeld
import Derived.Test.YtdcldmblgbefnaaDoorNotNameR
import Derived.Test.YtdcldmblgbefnaaDoorNotPut
import Derived.Test.YtdcldmblgbefnaaDoorRefHex
namespace Go.Proofs.YtdcldmblgbefnaaDoor
open Go.RowKit
/-- A fault as a text. -/
def ntText (a b : Int) (l : List UInt8) : List UInt8 := ntName a b ++ (if l = [] then [] else 32 :: hexL l)
theorem ntName_len (n k : Int) (h0 : -9223372036854775808 ≤ k) (h1 : k ≤ 9223372036854775807) : (ntName n k).length ≤ 200 := by
  have a1 := ntCode_len n
  have a2 := ntSub_len n k
  have a3 := decI_len k h0 h1
  unfold ntName
  repeat' split
  all_goals simp
  all_goals omega
section
variable (a b : Int) (A : Option Addr) (n c : Nat) (l : List UInt8) (S : ByteArray) (w : World)
set_option maxHeartbeats 1000000 in
set_option maxRecDepth 100000 in
theorem noticeText (ht : DigTab w) (h : BS w w.heap.size A n l) (hn : n ≤ 500) (h0 : -9223372036854775808 ≤ b) (h1 : b ≤ 9223372036854775807) (hS : Hid (S = ⟨(ntText a b l).toArray⟩)) :
    Calls Tryd.prog 66 #[.agg #[.int .i64 a, .int .i64 b, .slice A n c]] w fun en w' => en = .returned (.string S) ∧ Below w.heap.size w w' := by
  have b0 := (Below.refl w.heap.size w).alloc (Nat.le_refl _) (.cells #[.int .i64 a, .int .i64 b, .slice A n c] 29)
  have hB0 := Blk.new w 29 #[.int .i64 a, .int .i64 b, .slice A n c]
  have HLN := Lib.hid h.len
  obtain ⟨t, htt⟩ : ∃ t : ByteArray, t = ⟨(ntName a b).toArray⟩ := ⟨_, rfl⟩
  have HT := Lib.hid htt
  have htz : t.size ≤ 200 := by rw [htt]; exact ntName_len a b h0 h1
  clear htt
  rcases Nat.eq_zero_or_pos n with hz | hz
  · have hl : l = [] := List.eq_nil_of_length_eq_zero (HLN.out.symm.trans hz)
    have e : t = S := by rw [hS.out, ntText, if_pos hl, List.append_nil, HT.out]
    subst hz
    go_enter Tryd.func66, Tryd.ntmps66
    go_wp2_with fail
    refine (noticeName a b t _ (ht.call b0) h0 h1 HT).mono ?_
    rintro _ w1 ⟨rfl, b1⟩
    have hB1 := hB0.below b1 (by simp)
    have e0 := hB1.cell 2
    have b01 := btr b0 b1 b0.size
    go_wp2_with fail
    go_ret
    exact ⟨rfl, b01⟩
  · have hni : 0 < (n : Int) := by omega
    have hl : l ≠ [] := fun e => by have := HLN.out; rw [e] at this; simp at this; omega
    obtain ⟨x, hx⟩ : ∃ x : ByteArray, x = ⟨(hexL l).toArray⟩ := ⟨_, rfl⟩
    have HX := Lib.hid hx
    have hxz : x.size ≤ 1000 := by
      rw [hx, str_sz, hexL_length]
      have := HLN.out
      omega
    have HE := Lib.hid (show t ++ (⟨#[32]⟩ ++ x) = S by
      rw [hS.out, ntText, if_neg hl, HT.out, hx]
      rw [show (⟨#[32]⟩ : ByteArray) = ⟨[32].toArray⟩ from rfl, bs_app, bs_app]
      simp)
    clear hx hl
    go_enter Tryd.func66, Tryd.ntmps66
    go_wp2_with fail
    refine (noticeName a b t _ (ht.call b0) h0 h1 HT).mono ?_
    rintro _ w1 ⟨rfl, b1⟩
    have hB1 := hB0.below b1 (by simp)
    have e0 := hB1.cell 2
    have b01 := btr b0 b1 b0.size
    go_wp2_with fail
    refine (hex_any A n c l x _ (ht.call b01) (h.call b01) (by omega) HX).mono ?_
    rintro _ w2 ⟨rfl, b2⟩
    go_wp2_with fail
    go_ret
    exact ⟨ret_s HE.out, btr b01 b2 b01.size⟩
theorem keepN {W0 W W' : World} {g : Nat} {x0 x1 x2 : Value} (hsz : W0.heap.size = g + 1) (hb : Below W.heap.size W W') (h : Below (g + 1) W0 W ∧ W.cell? ⟨g, 0, none⟩ = some x0 ∧ W.cell? ⟨g, 1, none⟩ = some x1 ∧ W.cell? ⟨g, 2, none⟩ = some x2) :
    Below (g + 1) W0 W' ∧ W'.cell? ⟨g, 0, none⟩ = some x0 ∧ W'.cell? ⟨g, 1, none⟩ = some x1 ∧ W'.cell? ⟨g, 2, none⟩ = some x2 := by
  obtain ⟨h, c0, c1, c2⟩ := h
  have hs := h.size
  have hl : ∀ j : Nat, (⟨g, j, none⟩ : Addr).block < W.heap.size := fun j => by show g < _; omega
  exact ⟨btr h hb (by omega), (hb.cell (hl 0)).trans c0, (hb.cell (hl 1)).trans c1, (hb.cell (hl 2)).trans c2⟩
set_option maxHeartbeats 1000000 in
set_option maxRecDepth 100000 in
theorem refText8 (h : BS w w.heap.size A n l) (hn : n ≤ 500) (h0 : -9223372036854775808 ≤ b) (h1 : b ≤ 9223372036854775807) (hS : Hid (S = ⟨(ntText a b l).toArray⟩)) :
    Calls Tryd.prog 67 #[.agg #[.int .i64 a, .int .i64 b, .slice A n c]] w fun en w' => en = .returned (.string S) ∧ Below w.heap.size w w' := by
  have b0 := (Below.refl w.heap.size w).alloc (Nat.le_refl _) (.cells #[.int .i64 a, .int .i64 b, .slice A n c] 29)
  have HLN := Lib.hid h.len
  obtain ⟨t, htt⟩ : ∃ t : ByteArray, t = ⟨(ntName a b).toArray⟩ := ⟨_, rfl⟩
  have HT := Lib.hid htt
  have htz : t.size ≤ 200 := by rw [htt]; exact ntName_len a b h0 h1
  clear htt
  rcases Nat.eq_zero_or_pos n with hz | hz
  · have hl : l = [] := List.eq_nil_of_length_eq_zero (HLN.out.symm.trans hz)
    have e : t = S := by rw [hS.out, ntText, if_pos hl, List.append_nil, HT.out]
    subst hz
    go_enter Tryd.func67, Tryd.ntmps67
    go_wp2_with fail
    refine (refName8 a b t _ h0 h1 HT).mono ?_
    rintro _ w1 ⟨rfl, b1⟩
    go_wp2_with fail
    go_ret
    exact ⟨rfl, btr b0 b1 b0.size⟩
  · have hne : ((n : Int) == 0) = false := by simpa using (by omega : ¬ (n : Int) = 0)
    have hl : l ≠ [] := fun e => by have := HLN.out; rw [e] at this; simp at this; omega
    obtain ⟨x, hx⟩ : ∃ x : ByteArray, x = ⟨(hexL l).toArray⟩ := ⟨_, rfl⟩
    have HX := Lib.hid hx
    have hxz : x.size ≤ 1000 := by
      rw [hx, str_sz, hexL_length]
      have := HLN.out
      omega
    have HE := Lib.hid (show t ++ ⟨#[32]⟩ ++ x = S by
      rw [hS.out, ntText, if_neg hl, HT.out, hx]
      rw [show (⟨#[32]⟩ : ByteArray) = ⟨[32].toArray⟩ from rfl, bs_app, bs_app]
      simp)
    have hsz : (w.alloc (.cells #[.int .i64 a, .int .i64 b, .slice A n c] 29)).heap.size = w.heap.size + 1 := by simp
    have hn0 : ¬ n = 0 := by omega
    clear hx hl
    go_enter Tryd.func67, Tryd.ntmps67
    go_wp2_with fail
    go_region_held (fun w' => Below (w.heap.size + 1) (w.alloc (.cells #[.int .i64 a, .int .i64 b, .slice A n c] 29)) w' ∧ w'.cell? ⟨w.heap.size, 0, none⟩ = some (.int .i64 a) ∧ w'.cell? ⟨w.heap.size, 1, none⟩ = some (.int .i64 b) ∧ w'.cell? ⟨w.heap.size, 2, none⟩ = some (.slice A n c))
      (first | (refine keepN hsz b2 ?_; assumption) | (refine keepN hsz b1 ?_; assumption) | ((repeat' apply And.intro) <;> first | (with_reducible exact Below.drew (Below.refl _ _)) | go_keep))
      (first
        | (go_at_call 69; refine (refName8 a b t _ h0 h1 HT).mono ?_; rintro _ w1 ⟨rfl, b1⟩)
        | (go_at_call 40; refine (refHex_any A n c l x _ (h.call (b0.trans (Below.mono (And.left (by with_reducible assumption)) (Nat.le_succ _)))) (by omega) HX).mono ?_; rintro _ w2 ⟨rfl, b2⟩))
    all_goals
      try go_wp2_with fail
      go_ret
      exact ⟨ret_s HE.out, b0.trans (Below.mono (And.left (by with_reducible assumption)) (Nat.le_succ _))⟩
end
end Go.Proofs.YtdcldmblgbefnaaDoor
