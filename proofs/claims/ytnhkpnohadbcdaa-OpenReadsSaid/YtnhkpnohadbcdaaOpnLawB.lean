/- The statement OpenReads: its walk. No conditions but the statement's own. -/
import Derived.Test.YtnhkpnohadbcdaaProg
import Derived.WalkKit
import Derived.WalkSpells
import Derived.WalkLawsBesides
import Derived.Outline
import Derived.Deep.QuietTactic
import Derived.BigQuiet
import Derived.Handy
import Derived.Lib.Hide
import Derived.Test.YtnhkpnohadbcdaaOpnL
import Derived.Test.YtnhkpnohadbcdaaOpnG
namespace Go.Proofs.Ytnhkpnohadbcdaa
open Go.RowKit
set_option linter.unusedSimpArgs false
set_option linter.unusedVariables false
theorem parseP_len : ∀ (N : Nat) (l : List UInt8) (cs : List Cap), l.length ≤ N → parseP l = .inr cs → cs.length ≤ l.length
  | 0, l, cs, hN, h => by
    have : l = [] := List.eq_nil_of_length_eq_zero (by omega)
    subst this
    rw [parseP_nil] at h
    injection h with h
    subst h
    simp
  | N + 1, [], cs, hN, h => by
    rw [parseP_nil] at h
    injection h with h
    subst h
    simp
  | N + 1, [k], cs, hN, h => by rw [parseP_one] at h; cases h
  | N + 1, k :: n :: r, cs, hN, h => by
    by_cases hle : n.toNat ≤ r.length
    · by_cases hk : k = 2
      · rw [parseP, if_pos hle, if_pos hk] at h
        cases hc : parseC (r.take n.toNat) with
        | none => rw [hc] at h; cases h
        | some c1 =>
          rw [hc] at h
          cases hp : parseP (r.drop n.toNat) with
          | inl f => rw [hp] at h; cases h
          | inr ds =>
            rw [hp] at h
            injection h with h
            subst h
            have h1 := parseC_len _ _ c1 (Nat.le_refl _) hc
            have h2 := parseP_len N _ ds (by simp at hN ⊢; omega) hp
            rw [List.length_take] at h1
            rw [List.length_drop] at h2
            simp; omega
      · rw [parseP_kind hle hk] at h; cases h
    · rw [parseP_short (by omega)] at h; cases h
def readV : Sum Nat Opn → Opn
  | .inl _ => ⟨0, 0, 0, 0, []⟩
  | .inr o => o
def readC : Sum Nat Opn → Int
  | .inl _ => 2
  | .inr _ => 0
def readS : Sum Nat Opn → Int
  | .inl f => (f : Nat)
  | .inr _ => 0
theorem readV_len (l : List UInt8) : (readV (readO l)).caps.length ≤ l.length := by
  unfold readO
  by_cases h : headOk l = true
  · rw [if_pos h]
    cases hp : parseP (l.drop 10) with
    | inl f => simp [readV]
    | inr cs =>
      have := parseP_len _ _ cs (Nat.le_refl _) hp
      rw [List.length_drop] at this
      show cs.length ≤ _
      omega
  · rw [if_neg h]; simp [readV]
theorem RetRead.gen {w w' : World} {r : Sum Nat Opn} {e : Ending} (h : RetRead w r e w') : ∃ (A : Option Addr) (n c : Nat), e = .returned (.tuple #[.agg #[.int .i64 (readV r).ver, .int .i64 (readV r).asn, .int .i64 (readV r).hold, .int .u32 (readV r).id, .slice A n c], .agg #[.int .i64 (readC r), .int .i64 (readS r), .slice none 0 0]]) ∧ DL rCap 2 w' (Lo w') A n (readV r).caps ∧ Below w.heap.size w w' := by
  cases r with
  | inl f => exact ⟨none, 0, 0, h.2, DL.none_, h.1⟩
  | inr o =>
    obtain ⟨h0, A, n, c, h1, h2, _⟩ := h
    exact ⟨A, n, c, h1, h2, h0⟩
theorem sameAnyB (v a h : Int) (i : Nat) (A : Option Addr) (n c : Nat) (l : List Cap) (A' : Option Addr) (n' c' : Nat) (w : World) (hd : DL rCap 2 w (Lo w) A n l) (hd' : DL rCap 2 w (Lo w) A' n' l) (hn : n ≤ 100000) :
    Calls Try.prog 13 #[.agg #[.int .i64 v, .int .i64 a, .int .i64 h, .int .u32 i, .slice A n c], .agg #[.int .i64 v, .int .i64 a, .int .i64 h, .int .u32 i, .slice A' n' c']] w fun e w' => e = .returned (.bool true) ∧ Below w.heap.size w w' :=
  (refSame06 v a h i A n c l v a h i A' n' c' l w hd hd' hn).mono fun _ _ ⟨r, h1, h2, h3⟩ => ⟨by rw [h1, h2.2 rfl], h3⟩
theorem sameFltB (a b : Int) (w : World) :
    Calls Try.prog 15 #[.agg #[.int .i64 a, .int .i64 b, .slice none 0 0], .agg #[.int .i64 a, .int .i64 b, .slice none 0 0]] w fun en w' => en = .returned (.bool true) ∧ Below w.heap.size w w' :=
  (sameFault_any a b a b none none 0 0 0 0 [] [] w BS.none_ BS.none_).mono fun _ _ ⟨h1, h2⟩ => ⟨by rw [h1]; simp, h2⟩
set_option maxHeartbeats 4000000 in
set_option maxRecDepth 100000 in
theorem lawOpenReads (w : World) (A : Option Addr) (n c : Nat) (l : List UInt8) (w0 : BS w w.heap.size A n l) (wc : n ≤ c) (wm : c ≤ maxLen) :
    Calls Try.prog 4 #[.slice A n c] w fun en w' => en = .returned (.bool true) ∧ Below w.heap.size w w' := by
  have HWM := Lib.hid wm
  clear wm
  by_cases h1 : 1000 < n
  · have t1 : decide (1000 < (n : Int)) = true := decide_eq_true (by omega)
    go_enter Try.func4, Try.ntmps4
    go_wp2_with fail
    refine (awake06 _).mono ?_
    rintro _ w1 ⟨rfl, b1⟩
    have b01 := b1
    go_wp2_with fail
    go_ret
    exact ⟨rfl, b01⟩
  have t1 : decide (1000 < (n : Int)) = false := decide_eq_false (by omega)
  have hlen := readV_len l
  obtain ⟨r, hr⟩ : ∃ r, readO l = r := ⟨_, rfl⟩
  have HR1 := fun W (h : BS W W.heap.size A n l) => (openRead A n c l W h (by omega)).mono fun _ _ hh => hh.gen
  have HR2 := fun W (h : BS W W.heap.size A n l) => (refRead06 A n c l W h wc (by omega)).mono fun _ _ hh => hh.gen
  rw [hr] at HR1 HR2 hlen
  clear hr
  obtain ⟨o, ho⟩ : ∃ o, readV r = o := ⟨_, rfl⟩
  obtain ⟨kc, hkc⟩ : ∃ o, readC r = o := ⟨_, rfl⟩
  obtain ⟨ks, hks⟩ : ∃ o, readS r = o := ⟨_, rfl⟩
  rw [ho, hkc, hks] at HR1 HR2
  rw [ho] at hlen
  clear ho hkc hks
  obtain ⟨v, a, h, i, caps⟩ := o
  simp only at HR1 HR2 hlen
  have HL := Lib.hid (show caps.length ≤ 1000 by have := w0.len; omega)
  have H1 := Lib.hid HR1
  have H2 := Lib.hid HR2
  clear HR1 HR2 hlen h1
  go_enter Try.func4, Try.ntmps4
  go_wp2_with fail
  refine (H1.out _ w0).mono ?_
  rintro _ w1 ⟨A1, n1, c1, rfl, hd1, b1⟩
  have b01 := b1
  go_upto_region 4 with fail
  obtain ⟨w2, hw2, hX, hF, b2⟩ := boxes2 w1 #[.int .i64 v, .int .i64 a, .int .i64 h, .int .u32 i, .slice A1 n1 c1] #[.int .i64 kc, .int .i64 ks, .slice none 0 0] 25 36
  rw [hw2]
  clear hw2
  have b02 := btr b01 b2 b01.size
  have hd2 := hd1.call rCap_ok b2
  go_wp2_with fail
  refine (H2.out _ (w0.call b02)).mono ?_
  rintro _ w3 ⟨A3, n3, c3, rfl, hd3, b3⟩
  have b03 := btr b02 b3 b02.size
  have hX_3 := hX.below b3 hX.lt
  have hF_3 := hF.below b3 hF.lt
  have hd23 := hd2.call rCap_ok b3
  go_upto_region 5 with fail
  obtain ⟨w4, hw4, hY, hG, b4⟩ := boxes2 w3 #[.int .i64 v, .int .i64 a, .int .i64 h, .int .u32 i, .slice A3 n3 c3] #[.int .i64 kc, .int .i64 ks, .slice none 0 0] 25 36
  rw [hw4]
  clear hw4
  have b04 := btr b03 b4 b03.size
  have hX_4 := hX_3.below b4 hX_3.lt
  clear hX_3
  have hF_4 := hF_3.below b4 hF_3.lt
  clear hF_3
  have hd24 := hd23.call rCap_ok b4
  have hd34 := hd3.call rCap_ok b4
  have hn1 : n1 ≤ 100000 := by have h4 := hd24.len; have h0 := HL.out; omega
  have c_hX0 := hX_4.cell 0
  have c_hX1 := hX_4.cell 1
  have c_hX2 := hX_4.cell 2
  have c_hX3 := hX_4.cell 3
  have c_hX4 := hX_4.cell 4
  have c_hF0 := hF_4.cell 0
  have c_hF1 := hF_4.cell 1
  have c_hF2 := hF_4.cell 2
  have c_hY0 := hY.cell 0
  have c_hY1 := hY.cell 1
  have c_hY2 := hY.cell 2
  have c_hY3 := hY.cell 3
  have c_hY4 := hY.cell 4
  have c_hG0 := hG.cell 0
  have c_hG1 := hG.cell 1
  have c_hG2 := hG.cell 2
  go_wp2_with fail
  refine (sameAnyB v a h i A1 n1 c1 caps A3 n3 c3 _ hd24 hd34 hn1).mono ?_
  rintro _ w5 ⟨rfl, b5⟩
  clear c_hX0 c_hX1 c_hX2 c_hX3 c_hX4 c_hF0 c_hF1 c_hF2 c_hY0 c_hY1 c_hY2 c_hY3 c_hY4 c_hG0 c_hG1 c_hG2
  have b05 := btr b04 b5 b04.size
  have hX_5 := hX_4.below b5 hX_4.lt
  clear hX_4
  have hF_5 := hF_4.below b5 hF_4.lt
  clear hF_4
  have hY_5 := hY.below b5 hY.lt
  have hG_5 := hG.below b5 hG.lt
  have c_hX0 := hX_5.cell 0
  have c_hX1 := hX_5.cell 1
  have c_hX2 := hX_5.cell 2
  have c_hX3 := hX_5.cell 3
  have c_hX4 := hX_5.cell 4
  have c_hF0 := hF_5.cell 0
  have c_hF1 := hF_5.cell 1
  have c_hF2 := hF_5.cell 2
  have c_hY0 := hY_5.cell 0
  have c_hY1 := hY_5.cell 1
  have c_hY2 := hY_5.cell 2
  have c_hY3 := hY_5.cell 3
  have c_hY4 := hY_5.cell 4
  have c_hG0 := hG_5.cell 0
  have c_hG1 := hG_5.cell 1
  have c_hG2 := hG_5.cell 2
  go_wp2_with fail
  refine (sameFltB kc ks _).mono ?_
  rintro _ w6 ⟨rfl, b6⟩
  clear c_hX0 c_hX1 c_hX2 c_hX3 c_hX4 c_hF0 c_hF1 c_hF2 c_hY0 c_hY1 c_hY2 c_hY3 c_hY4 c_hG0 c_hG1 c_hG2
  have b06 := btr b05 b6 b05.size
  have hX_6 := hX_5.below b6 hX_5.lt
  clear hX_5
  have hF_6 := hF_5.below b6 hF_5.lt
  clear hF_5
  have hY_6 := hY_5.below b6 hY_5.lt
  clear hY_5
  have hG_6 := hG_5.below b6 hG_5.lt
  clear hG_5
  have c_hX0 := hX_6.cell 0
  have c_hX1 := hX_6.cell 1
  have c_hX2 := hX_6.cell 2
  have c_hX3 := hX_6.cell 3
  have c_hX4 := hX_6.cell 4
  have c_hF0 := hF_6.cell 0
  have c_hF1 := hF_6.cell 1
  have c_hF2 := hF_6.cell 2
  have c_hY0 := hY_6.cell 0
  have c_hY1 := hY_6.cell 1
  have c_hY2 := hY_6.cell 2
  have c_hY3 := hY_6.cell 3
  have c_hY4 := hY_6.cell 4
  have c_hG0 := hG_6.cell 0
  have c_hG1 := hG_6.cell 1
  have c_hG2 := hG_6.cell 2
  go_wp2_with fail
  refine (awake06 _).mono ?_
  rintro _ w7 ⟨rfl, b7⟩
  clear c_hX0 c_hX1 c_hX2 c_hX3 c_hX4 c_hF0 c_hF1 c_hF2 c_hY0 c_hY1 c_hY2 c_hY3 c_hY4 c_hG0 c_hG1 c_hG2
  have b07 := btr b06 b7 b06.size
  have hX_7 := hX_6.below b7 hX_6.lt
  clear hX_6
  have hF_7 := hF_6.below b7 hF_6.lt
  clear hF_6
  have hY_7 := hY_6.below b7 hY_6.lt
  clear hY_6
  have hG_7 := hG_6.below b7 hG_6.lt
  clear hG_6
  have c_hX0 := hX_7.cell 0
  have c_hX1 := hX_7.cell 1
  have c_hX2 := hX_7.cell 2
  have c_hX3 := hX_7.cell 3
  have c_hX4 := hX_7.cell 4
  have c_hF0 := hF_7.cell 0
  have c_hF1 := hF_7.cell 1
  have c_hF2 := hF_7.cell 2
  have c_hY0 := hY_7.cell 0
  have c_hY1 := hY_7.cell 1
  have c_hY2 := hY_7.cell 2
  have c_hY3 := hY_7.cell 3
  have c_hY4 := hY_7.cell 4
  have c_hG0 := hG_7.cell 0
  have c_hG1 := hG_7.cell 1
  have c_hG2 := hG_7.cell 2
  go_wp2_with fail
  go_ret
  exact ⟨rfl, b07⟩
end Go.Proofs.Ytnhkpnohadbcdaa
