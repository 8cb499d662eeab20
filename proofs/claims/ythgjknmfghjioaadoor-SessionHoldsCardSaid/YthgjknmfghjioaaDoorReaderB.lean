/- Walks of layer 1 (octet): the numbers of a reader that is there. Conditions: none but sizes. -/
import Derived.Test.YthgjknmfghjioaaDoorProg
import Derived.WalkKit
import Derived.WalkSpells
import Derived.WalkLawsBesides
import Derived.Outline
import Derived.Deep.QuietTactic
import Derived.BigQuiet
import Derived.Handy
import Derived.Lib.Hide
import Derived.Test.YthgjknmfghjioaaDoorReader
namespace Go.Proofs.YthgjknmfghjioaaDoor
open Go.RowKit
theorem readerTake (g : Nat) (l : List UInt8) (s : Bool) (k : Int) (w : World) (h : RD w g l s) (hl : l.length ≤ 100000) :
    Calls Tryd.prog 59 #[.pointer (some ⟨g, 0, none⟩), .int .i64 k] w (TkPost (fun w' => RD w' g) g w l s k) := by
  cases s
  · by_cases hk : k < 0 ∨ (l.length : Int) < k
    · exact readerTake_short g l k w h hk
    · obtain ⟨m, rfl⟩ := Int.eq_ofNat_of_zero_le (show 0 ≤ k by omega)
      exact readerTake_ok g l m w h (by omega) hl
  · exact readerTake_was g l k w h
/-- The number of bytes, the highest first. -/
def numL (l : List UInt8) : Nat := l.foldl (fun x b => 256 * x + b.toNat) 0
theorem numL_snoc (l : List UInt8) (b : UInt8) : numL (l ++ [b]) = 256 * numL l + b.toNat := by simp [numL]
theorem numL_succ (l : List UInt8) (k : Nat) (h : k < l.length) : numL (l.take (k + 1)) = 256 * numL (l.take k) + lb l k := by
  rw [List.take_succ_eq_append_getElem h, numL_snoc, lb_eq l k h]
theorem numL_lt (l : List UInt8) : ∀ k, k ≤ l.length → numL (l.take k) < 256 ^ k
  | 0, _ => by simp [numL]
  | k + 1, h => by
    have h1 := numL_lt l k (by omega)
    have h2 := lb_lt l k
    rw [numL_succ l k (by omega), Nat.pow_succ]
    omega
theorem or8 (x v : Nat) (h : v < 256) : 256 * x ||| v = 256 * x + v := by
  have := Nat.two_pow_add_eq_or_of_lt (i := 8) (b := v) (by omega) x
  simpa using this.symm
theorem u32_or8 (x v : Nat) (hx : x < 16777216) (hv : v < 256) : bits .or .u32 ((x : Int) * 256) (v : Int) = ((256 * x + v : Nat) : Int) := by
  have e : (x : Int) * 256 = ((256 * x : Nat) : Int) := by omega
  rw [e]
  first
    | (show IntKind.u32.wrap ((BitVec.ofInt 32 ((256 * x : Nat) : Int) ||| BitVec.ofInt 32 ((v : Nat) : Int)).toNat : Int) = _
       rw [BitVec.toNat_or, BitVec.ofInt_natCast, BitVec.ofInt_natCast, BitVec.toNat_ofNat, BitVec.toNat_ofNat, Nat.mod_eq_of_lt (by omega), Nat.mod_eq_of_lt (by omega), or8 x v hv, IntKind.wrap_u32]
       omega)
    | (show IntKind.u32.wrap ((BitVec.ofInt 64 ((256 * x : Nat) : Int) ||| BitVec.ofInt 64 ((v : Nat) : Int)).toNat : Int) = _
       rw [BitVec.toNat_or, BitVec.ofInt_natCast, BitVec.ofInt_natCast, BitVec.toNat_ofNat, BitVec.toNat_ofNat, Nat.mod_eq_of_lt (by omega), Nat.mod_eq_of_lt (by omega), or8 x v hv, IntKind.wrap_u32]
       omega)
theorem tkOut_len (l : List UInt8) (s : Bool) (k : Nat) : (tkOut l s k).length ≤ k := by
  unfold tkOut
  split
  · simp
  · simp; omega
set_option maxHeartbeats 1000000 in
set_option maxRecDepth 100000 in
theorem readerNumber (g : Nat) (l : List UInt8) (s : Bool) (k : Nat) (w : World) (h : RD w g l s) (hl : l.length ≤ 100000) (hk : k ≤ 4) :
    Calls Tryd.prog 69 #[.pointer (some ⟨g, 0, none⟩), .int .i64 k] w fun en w' => en = .returned (.int .u32 (numL (tkOut l s k))) ∧ RD w' g (tkLeft l s k) (tkShort l s k) ∧ w.grownBy w' (some g) := by
  have hL := tkOut_len l s k
  go_enter Tryd.func69, Tryd.ntmps69
  go_wp2_with fail
  refine (readerTake g l s k _ h hl).mono ?_
  rintro _ w1 ⟨A1, n1, c1, rfl, o1, r1, g1⟩
  obtain ⟨L, HL⟩ : ∃ L, tkOut l s k = L := ⟨_, rfl⟩
  rw [HL] at o1 hL
  have HL' := Lib.hid HL
  clear HL
  have hn1 := o1.1
  go_wp2_with fail
  go_loop [5, 12] (fun x i => ∃ j : Nat, j ≤ n1 ∧ x = .int .u32 (numL (L.take j)) ∧ i = .int .i64 j) (fun _ i => n1 - (intOf i).toNat)
  case atStart => exact ⟨0, by omega, rfl, rfl⟩
  case round =>
    obtain ⟨j, hj, rfl, rfl⟩ := hrel
    by_cases hlt : j < n1
    · obtain ⟨b, off, rfl, hbw, hcw⟩ := o1.bs.form hlt
      have hs := numL_succ L j (by omega)
      have hb := numL_lt L j (by omega)
      have hv := lb_lt L j
      have hpow : 256 ^ j ≤ 256 ^ 3 := Nat.pow_le_pow_right (by omega) (by omega)
      obtain ⟨v, hvv⟩ : ∃ v, lb L j = v := ⟨_, rfl⟩
      obtain ⟨x, hxx⟩ : ∃ x, numL (L.take j) = x := ⟨_, rfl⟩
      rw [hvv] at hcw hv hs
      rw [hxx] at hb hs
      go_wp2_with fail
      go_round
      case rel =>
        refine ⟨j + 1, by omega, ?_, by go_num⟩
        have hx : x < 16777216 := by
          have : (256 : Nat) ^ 3 = 16777216 := by decide
          omega
        rw [hs, u32_or8 x v hx hv]
      case measure => simp [intOf]; omega
    · have hj' : j = n1 := by omega
      go_wp2_with fail
      go_ret
      refine ⟨?_, r1, g1⟩
      rw [HL'.out]
      rfl
theorem tkOut_num (l : List UInt8) (s : Bool) (k : Nat) : numL (tkOut l s k) < 256 ^ k := by
  have h1 := tkOut_len l s k
  have h2 := numL_lt (tkOut l s k) _ (Nat.le_refl _)
  rw [List.take_length] at h2
  exact Nat.lt_of_lt_of_le h2 (Nat.pow_le_pow_right (by omega) h1)
set_option maxHeartbeats 1000000 in
set_option maxRecDepth 100000 in
theorem readerByte (g : Nat) (l : List UInt8) (s : Bool) (w : World) (h : RD w g l s) (hl : l.length ≤ 100000) :
    Calls Tryd.prog 53 #[.pointer (some ⟨g, 0, none⟩)] w fun en w' => en = .returned (.int .i64 (numL (tkOut l s (1 : Nat)))) ∧ RD w' g (tkLeft l s (1 : Nat)) (tkShort l s (1 : Nat)) ∧ w.grownBy w' (some g) := by
  have hN := tkOut_num l s 1
  obtain ⟨N, hNN⟩ : ∃ N, numL (tkOut l s (1 : Nat)) = N := ⟨_, rfl⟩
  rw [hNN] at hN
  have HN := Lib.hid hNN
  clear hNN
  go_enter Tryd.func53, Tryd.ntmps53
  go_wp2_with fail
  refine (readerNumber g l s 1 _ h hl (by omega)).mono ?_
  rw [HN.out]
  rintro _ w1 ⟨rfl, r1, g1⟩
  go_wp2_with fail
  go_ret
  exact ⟨by rw [HN.out]; rfl, r1, g1⟩
set_option maxHeartbeats 1000000 in
set_option maxRecDepth 100000 in
theorem readerU16 (g : Nat) (l : List UInt8) (s : Bool) (w : World) (h : RD w g l s) (hl : l.length ≤ 100000) :
    Calls Tryd.prog 54 #[.pointer (some ⟨g, 0, none⟩)] w fun en w' => en = .returned (.int .i64 (numL (tkOut l s (2 : Nat)))) ∧ RD w' g (tkLeft l s (2 : Nat)) (tkShort l s (2 : Nat)) ∧ w.grownBy w' (some g) := by
  have hN := tkOut_num l s 2
  obtain ⟨N, hNN⟩ : ∃ N, numL (tkOut l s (2 : Nat)) = N := ⟨_, rfl⟩
  rw [hNN] at hN
  have HN := Lib.hid hNN
  clear hNN
  go_enter Tryd.func54, Tryd.ntmps54
  go_wp2_with fail
  refine (readerNumber g l s 2 _ h hl (by omega)).mono ?_
  rw [HN.out]
  rintro _ w1 ⟨rfl, r1, g1⟩
  go_wp2_with fail
  go_ret
  exact ⟨by rw [HN.out]; rfl, r1, g1⟩
set_option maxHeartbeats 1000000 in
set_option maxRecDepth 100000 in
theorem readerU32 (g : Nat) (l : List UInt8) (s : Bool) (w : World) (h : RD w g l s) (hl : l.length ≤ 100000) :
    Calls Tryd.prog 55 #[.pointer (some ⟨g, 0, none⟩)] w fun en w' => en = .returned (.int .u32 (numL (tkOut l s (4 : Nat)))) ∧ RD w' g (tkLeft l s (4 : Nat)) (tkShort l s (4 : Nat)) ∧ w.grownBy w' (some g) := by
  have hN := tkOut_num l s 4
  obtain ⟨N, hNN⟩ : ∃ N, numL (tkOut l s (4 : Nat)) = N := ⟨_, rfl⟩
  rw [hNN] at hN
  have HN := Lib.hid hNN
  clear hNN
  go_enter Tryd.func55, Tryd.ntmps55
  go_wp2_with fail
  refine (readerNumber g l s 4 _ h hl (by omega)).mono ?_
  rw [HN.out]
  rintro _ w1 ⟨rfl, r1, g1⟩
  go_wp2_with fail
  go_ret
  exact ⟨by rw [HN.out]; rfl, r1, g1⟩
set_option maxHeartbeats 1000000 in
theorem readerLeft (g : Nat) (l : List UInt8) (s : Bool) (w : World) (h : RD w g l s) :
    Calls Tryd.prog 57 #[.pointer (some ⟨g, 0, none⟩)] w fun en w' => en = .returned (.int .i64 (if s then 0 else l.length : Nat)) ∧ w = w' := by
  obtain ⟨A, n, c, hb, hnc, hbs⟩ := h
  have hc0 := hb.cell 0
  have hc1 := hb.cell 1
  have hn := hbs.len
  cases s
  all_goals
    go_enter Tryd.func57, Tryd.ntmps57
    go_wp2_with fail
    go_ret
    exact ⟨rfl, rfl⟩
set_option maxHeartbeats 1000000 in
theorem readerErr (g : Nat) (l : List UInt8) (s : Bool) (w : World) (h : RD w g l s) :
    Calls Tryd.prog 56 #[.pointer (some ⟨g, 0, none⟩)] w fun en w' => en = .returned (.int .i64 (if s then 3 else 0 : Nat)) ∧ w = w' := by
  obtain ⟨A, n, c, hb, hnc, hbs⟩ := h
  have hc1 := hb.cell 1
  cases s
  all_goals
    go_enter Tryd.func56, Tryd.ntmps56
    go_wp2_with fail
    go_ret
    exact ⟨rfl, rfl⟩
end Go.Proofs.YthgjknmfghjioaaDoor
