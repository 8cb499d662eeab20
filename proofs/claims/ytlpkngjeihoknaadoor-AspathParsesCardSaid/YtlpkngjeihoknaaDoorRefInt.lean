/- The walk of the document's Int, and of the law OctetDigits. Conditions: the table of digits (DigTab). -/
import Derived.Test.YtlpkngjeihoknaaDoorProg
import Derived.WalkKit
import Derived.WalkSpells
import Derived.WalkLawsBesides
import Derived.Outline
import Derived.Deep.QuietTactic
import Derived.BigQuiet
import Derived.Handy
import Derived.Lib.Hide
import Derived.Test.YtlpkngjeihoknaaDoorRefText
import Derived.Test.YtlpkngjeihoknaaDoorOctLaw
namespace Go.Proofs.YtlpkngjeihoknaaDoor
open Go.RowKit
theorem fold_bd : ∀ (b : List UInt8) (x : Int) (B : Nat), -(B : Int) ≤ x → x ≤ B → -(((B + 23) * 10 ^ b.length : Nat) : Int) ≤ b.foldl (fun n c => 10 * n + ((c.toNat : Int) - 48)) x ∧ b.foldl (fun n c => 10 * n + ((c.toNat : Int) - 48)) x ≤ (((B + 23) * 10 ^ b.length : Nat) : Int)
  | [], x, B, h1, h2 => by simp; omega
  | c :: b, x, B, h1, h2 => by
    have hc : c.toNat < 256 := UInt8.toNat_lt _
    have := fold_bd b (10 * x + ((c.toNat : Int) - 48)) (10 * B + 207) (by omega) (by omega)
    simp only [List.foldl_cons, List.length_cons]
    have e : (10 * B + 207 + 23) * 10 ^ b.length = (B + 23) * 10 ^ (b.length + 1) := by
      rw [Nat.pow_succ, Nat.mul_comm (10 ^ b.length) 10, ← Nat.mul_assoc]
      congr 1
      omega
    rw [e] at this
    exact this
theorem decVal_bd (l : List UInt8) (h : l.length ≤ 12) : -300000000000000 ≤ decVal l ∧ decVal l ≤ 300000000000000 := by
  have h1 := fold_bd l 0 0 (by omega) (by omega)
  have h2 : 10 ^ l.length ≤ 10 ^ 12 := Nat.pow_le_pow_right (by omega) h
  have h3 : (0 + 23) * 10 ^ l.length ≤ 23 * 10 ^ 12 := by omega
  have e : (23 : Nat) * 10 ^ 12 = 23000000000000 := by decide
  unfold decVal
  omega
theorem refInt_no {l : List UInt8} {v : Int} (hv : v = decVal (l.take 12)) (h : v < 0 ∨ 4294967295 < v ∨ decI v ≠ l) : IntAns l 0 false :=
  IntAns.no fun N hN he => by
    have hlen := decU_ten N hN
    rw [he] at hlen
    rw [List.take_of_length_le (by omega), ← he, decVal_of] at hv
    subst hv
    rw [decI_nat] at h
    rcases h with h | h | h
    · omega
    · omega
    · exact h he
set_option maxHeartbeats 4000000 in
set_option maxRecDepth 100000 in
theorem refInt_any (s : ByteArray) (w : World) (hl : s.size ≤ 2000) :
    Calls Tryd.prog 65 #[.string s] w (RetIB w s.data.toList) := by
  have hsz : s.data.toList.length = s.size := rfl
  obtain ⟨l, hL⟩ : ∃ l, s.data.toList = l := ⟨_, rfl⟩
  rw [hL] at hsz ⊢
  have HL := Lib.hid hL
  have HSZ := Lib.hid hsz
  clear hL hsz
  have hs0 : (s.size : Int) ≤ 2000 := by omega
  go_enter Tryd.func65, Tryd.ntmps65
  go_wp2_with fail
  go_loop [4, 5] (fun n i => ∃ (k : Nat) (v : Int), k ≤ s.size ∧ k ≤ 12 ∧ i = .int .i64 (k : Int) ∧ n = .int .i64 v ∧ v = decVal (l.take k)) (fun _ i => s.size - (intOf i).toNat)
  case atStart => exact ⟨0, 0, by omega, by omega, rfl, rfl, rfl⟩
  case round =>
    obtain ⟨k, v, hk, hk12, rfl, rfl, hv⟩ := hrel
    have hvb := decVal_bd (l.take k) (by rw [List.length_take]; omega)
    rw [← hv] at hvb
    obtain ⟨hvb1, hvb2⟩ := hvb
    have HV := Lib.hid hv
    clear hv
    by_cases hlt : k < s.size ∧ k < 12
    · obtain ⟨hlt1, hlt2⟩ := hlt
      have hkl : k < l.length := by rw [HSZ.out]; exact hlt1
      have e0 : s[k].toNat = (l[k]).toNat := by have := HL.out; subst this; rfl
      obtain ⟨x, hx⟩ : ∃ x : Nat, (l[k]).toNat = x := ⟨_, rfl⟩
      have hx256 : x < 256 := by rw [← hx]; exact UInt8.toNat_lt _
      rw [hx] at e0
      have HN := Lib.hid (show 10 * v + (x : Int) - 48 = decVal (l.take (k + 1)) by
        rw [List.take_succ_eq_append_getElem hkl, decVal_snoc, ← HV.out, hx]; omega)
      clear hx
      go_wp2_with fail
      go_round
      case rel => exact ⟨k + 1, 10 * v + (x : Int) - 48, by omega, by omega, by go_num, rfl, HN.out⟩
      case measure => simp [intOf]; omega
    · have HK := Lib.hid (show v = decVal (l.take 12) by
        rw [HV.out]
        by_cases h12 : k = 12
        · rw [h12]
        · rw [List.take_of_length_le (by rw [HSZ.out]; omega), List.take_of_length_le (by rw [HSZ.out]; omega)])
      have key : ∀ b : Bool, (decide ((k : Int) < (s.size : Int)) && decide ((k : Int) < 12)) = b → b = false := fun b hb => by rw [← hb]; simp; omega
      by_cases hk2 : k < s.size
      all_goals
        have hk3 : ¬ k < s.size ∨ ¬ k < 12 := by omega
        clear hlt key
        first | (have hk4 : 12 ≤ k := by omega) | skip
        clear hk3
        by_cases hneg : v < 0
        · have HG := Lib.hid (refInt_no HK.out (.inl hneg))
          go_wp2_with fail
          go_ret2
          exact ⟨0, false, rfl, HG.out, Below.refl _ _⟩
        · by_cases hbig : 4294967295 < v
          · have HG := Lib.hid (refInt_no HK.out (.inr (.inl hbig)))
            go_wp2_with fail
            go_ret2
            exact ⟨0, false, rfl, HG.out, Below.refl _ _⟩
          · obtain ⟨S, hS⟩ : ∃ S : ByteArray, S = ⟨(decI v).toArray⟩ := ⟨_, rfl⟩
            have HS := Lib.hid hS
            have hE : (S.toList == s.toList) = true ↔ decI v = l := by rw [beq_iff_eq, hS, ByteArray.toList_mk, ByteArray.toList_eq, HL.out]
            clear hS
            cases hb : (S.toList == s.toList)
            · have HG := Lib.hid (refInt_no HK.out (.inr (.inr (fun hh => by rw [hE.2 hh] at hb; cases hb))))
              have hb' : (S.toList != s.toList) = true := by unfold bne; rw [hb]; rfl
              clear hE
              go_wp2_with fail
              refine (refText v S _ (by omega) (by omega) HS).mono ?_
              rintro _ w1 ⟨rfl, b1⟩
              go_wp2_with fail
              go_ret2
              exact ⟨0, false, rfl, HG.out, b1⟩
            · have HG := Lib.hid (IntAns.yes (l := l) (by omega) (by omega) (hE.1 hb))
              have hb' : (S.toList != s.toList) = false := by unfold bne; rw [hb]; rfl
              clear hE
              go_wp2_with fail
              refine (refText v S _ (by omega) (by omega) HS).mono ?_
              rintro _ w1 ⟨rfl, b1⟩
              go_wp2_with fail
              go_ret2
              exact ⟨v, true, rfl, HG.out, b1⟩
theorem decI_size (n : Int) (h0 : -9223372036854775808 ≤ n) (h1 : n ≤ 9223372036854775807) : (⟨(decI n).toArray⟩ : ByteArray).size ≤ 2000 := by
  have e : (⟨(decI n).toArray⟩ : ByteArray).size = (decI n).length := rfl
  have h := decU_len 19 n.natAbs (by omega)
  rw [e]
  unfold decI
  rw [List.length_append]
  split <;> simp <;> omega
end Go.Proofs.YtlpkngjeihoknaaDoor
