/- Walks of the document's reader: numbers, what is left, errors. Conditions: none but sizes. -/
import Derived.Test.YtlpkngjeihoknaaDoorProg
import Derived.WalkKit
import Derived.WalkSpells
import Derived.WalkLawsBesides
import Derived.Outline
import Derived.Deep.QuietTactic
import Derived.BigQuiet
import Derived.Handy
import Derived.Lib.Hide
import Derived.Test.YtlpkngjeihoknaaDoorRefR
namespace Go.Proofs.YtlpkngjeihoknaaDoor
open Go.RowKit
set_option maxHeartbeats 1000000 in
set_option maxRecDepth 100000 in
theorem refNum (g : Nat) (l : List UInt8) (s : Bool) (k : Nat) (w : World) (h : RX w g l s) (hk : k ≤ 4) :
    Calls Tryd.prog 85 #[.pointer (some ⟨g, 0, none⟩), .int .i64 k] w fun en w' => en = .returned (.int .i64 (numL (tkOut l s k))) ∧ RX w' g (tkLeft l s k) (tkShort l s k) ∧ w.grownBy w' (some g) := by
  have hL := tkOut_len l s k
  go_enter Tryd.func85, Tryd.ntmps85
  go_wp2_with fail
  refine (refTake g l s k _ h).mono ?_
  rintro _ w1 ⟨A1, n1, c1, rfl, o1, r1, g1⟩
  obtain ⟨L, HL⟩ : ∃ L, tkOut l s k = L := ⟨_, rfl⟩
  rw [HL] at o1 hL
  have HL' := Lib.hid HL
  clear HL
  have hn1 := o1.1
  go_wp2_with fail
  go_loop [5, 7] (fun x i => ∃ j : Nat, j ≤ n1 ∧ x = .int .i64 (numL (L.take j)) ∧ i = .int .i64 j) (fun _ i => n1 - (intOf i).toNat)
  case atStart => exact ⟨0, by omega, rfl, rfl⟩
  case round =>
    obtain ⟨j, hj, rfl, rfl⟩ := hrel
    by_cases hlt : j < n1
    · obtain ⟨b, off, rfl, hbw, hcw⟩ := o1.bs.form hlt
      have hs := numL_succ L j (by omega)
      have hb := numL_lt L j (by omega)
      have hv := lb_lt L j
      have hpow : 256 ^ j ≤ 256 ^ 3 := Nat.pow_le_pow_right (by omega) (by omega)
      obtain ⟨v, hvv⟩ : ∃ v, lb L j = v := ⟨_, rfl⟩
      obtain ⟨x, hxx⟩ : ∃ x, numL (L.take j) = x := ⟨_, rfl⟩
      rw [hvv] at hcw hv hs
      rw [hxx] at hb hs
      have hx : x < 16777216 := by
        have : (256 : Nat) ^ 3 = 16777216 := by decide
        omega
      clear hb hpow
      have HS := Lib.hid hs
      clear hs
      go_wp2_with fail
      go_round
      case rel =>
        refine ⟨j + 1, by omega, ?_, by go_num⟩
        rw [HS.out]
        go_num
      case measure => simp [intOf]; omega
    · have hj' : j = n1 := by omega
      go_wp2_with fail
      go_ret
      refine ⟨?_, r1, g1⟩
      rw [HL'.out]
      rfl
set_option maxHeartbeats 1000000 in
theorem refLeft (g : Nat) (l : List UInt8) (s : Bool) (w : World) (h : RX w g l s) :
    Calls Tryd.prog 84 #[.pointer (some ⟨g, 0, none⟩)] w fun en w' => en = .returned (.int .i64 (if s then 0 else l.length : Nat)) ∧ ∃ q, w' = w.drewN q := by
  obtain ⟨A, n, c, a, F, hb, han, hbs, hn1, hF⟩ := h
  have hc0 := hb.cell 0
  have hc1 := hb.cell 1
  have hc2 := hb.cell 2
  have hn := hbs.len
  have hll : l.length = n - a := by rw [hF, List.length_drop, hn]
  have hwr : IntKind.i64.wrap ((n : Int) - a) = (n : Int) - a := IntWalk.i64_in _ ⟨by omega, by omega⟩
  have hsub : (n : Int) - a = ((n - a : Nat) : Int) := by omega
  clear hn hF
  cases s
  · go_enter Tryd.func84, Tryd.ntmps84
    go_wp2_with fail
    go_quiet (fail)
    go_wp2_with fail
    go_ret
    exact ⟨rfl, _, rfl⟩
  · go_enter Tryd.func84, Tryd.ntmps84
    go_wp2_with fail
    go_ret
    exact ⟨rfl, 0, rfl⟩
end Go.Proofs.YtlpkngjeihoknaaDoor
