/- The walk of the document's Text. No conditions. -/
import Derived.Test.YtlpkngjeihoknaaDoorProg
import Derived.WalkKit
import Derived.WalkSpells
import Derived.WalkLawsBesides
import Derived.Outline
import Derived.Deep.QuietTactic
import Derived.BigQuiet
import Derived.Handy
import Derived.Lib.Hide
import Derived.Test.YtlpkngjeihoknaaDoorOctInt
namespace Go.Proofs.YtlpkngjeihoknaaDoor
open Go.RowKit
def dig10 : ByteArray := ⟨#[48, 49, 50, 51, 52, 53, 54, 55, 56, 57]⟩
theorem dig10_one (h : Nat) (hh : h < 10) : dig10.extract h (h + 1) = ⟨#[dg h]⟩ := by
  have : ∀ h : Fin 10, dig10.extract h.val (h.val + 1) = ⟨#[dg h.val]⟩ := by decide
  exact this ⟨h, hh⟩
/-- What is written so far, when M is still to be written; nothing is left when M is 0. -/
def RefAt (U M : Nat) (L : List UInt8) : Prop := (M ≠ 0 → decU U = decU M ++ L) ∧ (M = 0 → L = decU U)
theorem RefAt.start (U : Nat) (h : 1 ≤ U) : RefAt U U [] := ⟨fun _ => by simp, fun h0 => by omega⟩
theorem RefAt.last {U M : Nat} {L : List UInt8} (h : RefAt U M L) (h0 : M = 0) : L = decU U := h.2 h0
theorem RefAt.next {U M : Nat} {L : List UInt8} (h : RefAt U M L) (h0 : M ≠ 0) : RefAt U (M / 10) (dg (M % 10) :: L) := by
  have e := h.1 h0
  by_cases h10 : M < 10
  · have hq : M / 10 = 0 := by omega
    have hr : M % 10 = M := by omega
    rw [hq, hr]
    refine ⟨fun hh => absurd rfl hh, fun _ => ?_⟩
    rw [e, decU_small h10]; rfl
  · refine ⟨fun _ => ?_, fun hh => by omega⟩
    rw [e, decU_big h10]; simp
theorem RefAt.size {U M : Nat} {L : List UInt8} (h : RefAt U M L) (hU : U < 10 ^ 20) : (⟨L.toArray⟩ : ByteArray).size ≤ 20 := by
  have h1 := decU_len 19 U hU
  have e : (⟨L.toArray⟩ : ByteArray).size = L.length := rfl
  rw [e]
  by_cases h0 : M = 0
  · rw [h.2 h0]; exact h1
  · have h2 := congrArg List.length (h.1 h0)
    rw [List.length_append] at h2
    omega
set_option maxHeartbeats 4000000 in
set_option maxRecDepth 100000 in
theorem refText_pos (U : Nat) (S : ByteArray) (w : World) (hU1 : 1 ≤ U) (hU : U < 10 ^ 20) (hUb : U ≤ 9223372036854775808) (hS : Hid (S = ⟨(decI ((U : Int))).toArray⟩)) :
    Calls Tryd.prog 63 #[.int .i64 ((U : Int))] w fun en w' => en = .returned (.string S) ∧ Below w.heap.size w w' := by
  have h0 : ((U : Int) == 0) = false := beq_eq_false_iff_ne.2 (by omega)
  have HU := Lib.hid hU
  have HU1 := Lib.hid hU1
  have HUB := Lib.hid hUb
  clear hU hUb
  go_enter Tryd.func63, Tryd.ntmps63
  go_wp2_with fail
  go_loop [3, 4] (fun s m => ∃ (M : Nat) (L : List UInt8) (T : ByteArray), m = .int .i64 (M : Int) ∧ s = .string T ∧ T = ⟨L.toArray⟩ ∧ RefAt U M L ∧ M ≤ U) (fun _ m => (intOf m).natAbs)
  case atStart => exact ⟨U, [], _, rfl, rfl, rfl, RefAt.start U HU1.out, Nat.le_refl _⟩
  case round =>
    obtain ⟨M, L, T, rfl, rfl, hT, hat, hMU⟩ := hrel
    have HT := Lib.hid hT
    have hTs : T.size ≤ 20 := by rw [hT]; exact hat.size HU.out
    have HAT := Lib.hid hat
    have HMU := Lib.hid hMU
    clear hT hat hMU
    by_cases hM : M = 0
    · have hz : ((M : Int) != 0) = false := by rw [hM]; rfl
      have HL := Lib.hid (HAT.out.last hM)
      have HE := Lib.hid (show T = S by
        rw [hS.out, HT.out, HL.out]
        rw [decI_nat])
      have hM0 : M ≤ 0 := by omega
      clear hM
      go_wp2_with fail
      go_ret
      exact ⟨ret_s HE.out, Below.refl _ _⟩
    · have hz : ((M : Int) != 0) = true := by rw [bne_iff_ne]; omega
      have HN := Lib.hid (HAT.out.next hM)
      have hM1 : 1 ≤ M := by omega
      obtain ⟨r, hr⟩ : ∃ r, M % 10 = r := ⟨_, rfl⟩
      obtain ⟨q, hq⟩ : ∃ q, M / 10 = q := ⟨_, rfl⟩
      have hr10 : r < 10 := by omega
      have hqM : q < M := by omega
      have ht1 : (M : Int) % 10 = (r : Int) := by omega
      have ht2 : (M : Int) / 10 = (q : Int) := by omega
      have hw : (M : Int) ≤ 9223372036854775808 := by have := HMU.out; have := HUB.out; omega
      have hq63 : (q : Int) ≤ 922337203685477580 := by omega
      rw [hr, hq] at HN
      have HE := Lib.hid (show dig10.extract r (r + 1) ++ T = ⟨(dg r :: L).toArray⟩ by rw [dig10_one r hr10, HT.out]; exact bs_append [dg r] L)
      have HQ := Lib.hid (show q ≤ U by have := HMU.out; omega)
      clear hr hq hw hM
      have hn3 : ((r : Int) + 1).toNat = r + 1 := by omega
      go_wp2_with fail
      go_round
      case rel => exact ⟨q, _, _, rfl, rfl, HE.out, HN.out, HQ.out⟩
      case measure => simp [intOf]; omega
set_option maxHeartbeats 4000000 in
set_option maxRecDepth 100000 in
theorem refText_neg (U : Nat) (S : ByteArray) (w : World) (hU1 : 1 ≤ U) (hU : U < 10 ^ 20) (hUb : U ≤ 9223372036854775808) (hS : Hid (S = ⟨(decI (-(U : Int))).toArray⟩)) :
    Calls Tryd.prog 63 #[.int .i64 (-(U : Int))] w fun en w' => en = .returned (.string S) ∧ Below w.heap.size w w' := by
  have h0 : (-(U : Int) == 0) = false := beq_eq_false_iff_ne.2 (by omega)
  have HU := Lib.hid hU
  have HU1 := Lib.hid hU1
  have HUB := Lib.hid hUb
  clear hU hUb
  go_enter Tryd.func63, Tryd.ntmps63
  go_wp2_with fail
  go_loop [3, 4] (fun s m => ∃ (M : Nat) (L : List UInt8) (T : ByteArray), m = .int .i64 (-(M : Int)) ∧ s = .string T ∧ T = ⟨L.toArray⟩ ∧ RefAt U M L ∧ M ≤ U) (fun _ m => (intOf m).natAbs)
  case atStart => exact ⟨U, [], _, rfl, rfl, rfl, RefAt.start U HU1.out, Nat.le_refl _⟩
  case round =>
    obtain ⟨M, L, T, rfl, rfl, hT, hat, hMU⟩ := hrel
    have HT := Lib.hid hT
    have hTs : T.size ≤ 20 := by rw [hT]; exact hat.size HU.out
    have HAT := Lib.hid hat
    have HMU := Lib.hid hMU
    clear hT hat hMU
    by_cases hM : M = 0
    · have hz : ((-(M : Int)) != 0) = false := by rw [hM]; rfl
      have HL := Lib.hid (HAT.out.last hM)
      have HE := Lib.hid (show (⟨#[45]⟩ : ByteArray) ++ T = S by
        rw [hS.out, HT.out, HL.out]
        rw [show decI (-(U : Int)) = [45] ++ decU U by unfold decI; rw [if_pos (by have := HU1.out; omega), Int.natAbs_neg]; rfl]
        exact bs_append [45] (decU U))
      have hM0 : M ≤ 0 := by omega
      clear hM
      go_wp2_with fail
      go_ret
      exact ⟨ret_s HE.out, Below.refl _ _⟩
    · have hz : ((-(M : Int)) != 0) = true := by rw [bne_iff_ne]; omega
      have HN := Lib.hid (HAT.out.next hM)
      have hM1 : 1 ≤ M := by omega
      obtain ⟨r, hr⟩ : ∃ r, M % 10 = r := ⟨_, rfl⟩
      obtain ⟨q, hq⟩ : ∃ q, M / 10 = q := ⟨_, rfl⟩
      have hr10 : r < 10 := by omega
      have hqM : q < M := by omega
      have ht1 : (-(M : Int)).tmod 10 = -(r : Int) := by rw [Int.neg_tmod, Int.tmod_eq_emod_of_nonneg (by omega)]; omega
      have ht2 : (-(M : Int)).tdiv 10 = -(q : Int) := by rw [Int.neg_tdiv, Int.tdiv_eq_ediv_of_nonneg (by omega)]; omega
      have hw : (M : Int) ≤ 9223372036854775808 := by have := HMU.out; have := HUB.out; omega
      have hq63 : (q : Int) ≤ 922337203685477580 := by omega
      rw [hr, hq] at HN
      have HE := Lib.hid (show dig10.extract r (r + 1) ++ T = ⟨(dg r :: L).toArray⟩ by rw [dig10_one r hr10, HT.out]; exact bs_append [dg r] L)
      have HQ := Lib.hid (show q ≤ U by have := HMU.out; omega)
      clear hr hq hw hM
      have hn3 : ((r : Int) + 1).toNat = r + 1 := by omega
      by_cases hr0 : r = 0
      · subst hr0
        go_wp2_with fail
        go_round
        case rel => exact ⟨q, _, _, rfl, rfl, HE.out, HN.out, HQ.out⟩
        case measure => simp [intOf]; omega
      · have hr1 : 1 ≤ r := by omega
        clear hr0
        go_wp2_with fail
        go_round
        case rel => exact ⟨q, _, _, rfl, rfl, HE.out, HN.out, HQ.out⟩
        case measure => simp [intOf]; omega
theorem refText_zero (S : ByteArray) (w : World) (hS : Hid (S = ⟨(decI 0).toArray⟩)) :
    Calls Tryd.prog 63 #[.int .i64 0] w fun en w' => en = .returned (.string S) ∧ Below w.heap.size w w' := by
  have HE := Lib.hid (show (⟨#[48]⟩ : ByteArray) = S by rw [hS.out]; unfold decI; rw [if_neg (by omega)]; show _ = (⟨(decU 0).toArray⟩ : ByteArray); rw [decU_small (by omega)]; rfl)
  go_enter Tryd.func63, Tryd.ntmps63
  go_wp2_with fail
  go_ret
  exact ⟨ret_s HE.out, Below.refl _ _⟩
/-- The document's Text, of any number. -/
theorem refText (n : Int) (S : ByteArray) (w : World) (h0 : -9223372036854775808 ≤ n) (h1 : n ≤ 9223372036854775807) (hS : Hid (S = ⟨(decI n).toArray⟩)) :
    Calls Tryd.prog 63 #[.int .i64 n] w fun en w' => en = .returned (.string S) ∧ Below w.heap.size w w' := by
  by_cases hn : n = 0
  · subst hn; exact refText_zero S w hS
  · by_cases hp : 0 < n
    · obtain ⟨U, rfl⟩ := Int.eq_ofNat_of_zero_le (by omega : 0 ≤ n)
      exact refText_pos U S w (by omega) (by omega) (by omega) hS
    · obtain ⟨U, hU⟩ : ∃ U : Nat, -n = (U : Int) := Int.eq_ofNat_of_zero_le (by omega)
      obtain rfl : n = -(U : Int) := by omega
      exact refText_neg U S w (by omega) (by omega) (by omega) hS
end Go.Proofs.YtlpkngjeihoknaaDoor
