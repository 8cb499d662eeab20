/- The walks of octet.Int and of the document's Text and Int. Conditions: the table of digits (DigTab). -/
import Derived.Test.YtnhkpnohadbcdaaDoorProg
import Derived.WalkKit
import Derived.WalkSpells
import Derived.WalkLawsBesides
import Derived.Outline
import Derived.Deep.QuietTactic
import Derived.BigQuiet
import Derived.Handy
import Derived.Lib.Hide
import Derived.Test.YtnhkpnohadbcdaaDoorDecPlain
import Derived.Test.YtnhkpnohadbcdaaDoorOctetC
import Derived.Test.YtnhkpnohadbcdaaDoorRefHex
namespace Go.Proofs.YtnhkpnohadbcdaaDoor
open Go.RowKit
/-- A number and a bool are handed back: what the text says. -/
def RetIB (w : World) (l : List UInt8) (e : Ending) (w' : World) : Prop := ∃ (v : Int) (ok : Bool), e = .returned (.tuple #[.int .i64 v, .bool ok]) ∧ IntAns l v ok ∧ Below w.heap.size w w'
set_option maxHeartbeats 4000000 in
set_option maxRecDepth 100000 in
theorem octetInt_any (s : ByteArray) (w : World) (ht : DigTab w) (hl : s.size ≤ 2000) :
    Calls Tryd.prog 86 #[.string s] w (RetIB w s.data.toList) := by
  have hsz : s.data.toList.length = s.size := rfl
  obtain ⟨l, hL⟩ : ∃ l, s.data.toList = l := ⟨_, rfl⟩
  rw [hL] at hsz ⊢
  have HL := Lib.hid hL
  have HSZ := Lib.hid hsz
  clear hL hsz
  have hs0 : (s.size : Int) ≤ 2000 := by omega
  go_enter Tryd.func86, Tryd.ntmps86
  go_wp2_with fail
  go_loop [4, 9] (fun n i => ∃ (k : Nat) (v : Int), k ≤ s.size ∧ i = .int .i64 (k : Int) ∧ n = .int .i64 v ∧ v = decVal (l.take k) ∧ 0 ≤ v ∧ v ≤ 42949672959 ∧ ∀ c ∈ l.take k, valI (c.toNat : Int) ≤ 9) (fun _ i => s.size - (intOf i).toNat)
  case atStart => exact ⟨0, 0, by omega, rfl, rfl, rfl, by omega, by omega, fun c hc => by simp at hc⟩
  case round =>
    obtain ⟨k, v, hk, rfl, rfl, hv, hv0, hv1, hdig⟩ := hrel
    have HV := Lib.hid hv
    have HD := Lib.hid hdig
    clear hv hdig
    by_cases hlt : k < s.size
    · have hkl : k < l.length := by rw [HSZ.out]; exact hlt
      have hin : l[k] ∈ l := List.getElem_mem _
      have e0 : s[k].toNat = (l[k]).toNat := by have := HL.out; subst this; rfl
      obtain ⟨x, hx⟩ : ∃ x : Nat, (l[k]).toNat = x := ⟨_, rfl⟩
      obtain ⟨p, hp⟩ : ∃ p, valI (x : Int) = p := ⟨_, rfl⟩
      rw [hx] at e0
      have hp0 := (valI_range (x : Int)).1
      have hp1 := (valI_range (x : Int)).2
      rw [hp] at hp0 hp1
      have HX := Lib.hid hx
      have HP := Lib.hid hp
      have HIN := Lib.hid hin

      clear hx hin hp
      by_cases hp9 : p ≤ 9
      · by_cases hv2 : v ≤ 4294967295
        · have HN := Lib.hid (show 10 * v + p = decVal (l.take (k + 1)) by
            rw [List.take_succ_eq_append_getElem hkl, decVal_snoc, ← HV.out, HX.out, ← valI_nine (by rw [HP.out]; exact hp9), HP.out])
          have HD2 := Lib.hid (show ∀ c ∈ l.take (k + 1), valI (c.toNat : Int) ≤ 9 from fun c hc => by
            rw [List.take_succ_eq_append_getElem hkl, List.mem_append] at hc
            rcases hc with hc | hc
            · exact HD.out c hc
            · simp at hc; subst hc; rw [HX.out, HP.out]; exact hp9)
          go_wp2_with (go_at_call 114; refine (value_is _ p _ ht HP).mono ?_; rintro _ _ ⟨rfl, rfl⟩)
          go_round
          case rel => exact ⟨k + 1, 10 * v + p, by omega, by go_num, rfl, HN.out, by omega, by omega, HD2.out⟩
          case measure => simp [intOf]; omega
        · have HG := Lib.hid (IntAns.great (l := l) (k := k) (by rw [← HV.out]; omega))
          go_wp2_with (go_at_call 114; refine (value_is _ p _ ht HP).mono ?_; rintro _ _ ⟨rfl, rfl⟩)
          go_ret2
          exact ⟨0, false, rfl, HG.out, Below.refl _ _⟩
      · have HG := Lib.hid (IntAns.letter (l := l) HIN.out (by rw [HX.out, HP.out]; omega))
        go_wp2_with (go_at_call 114; refine (value_is _ p _ ht HP).mono ?_; rintro _ _ ⟨rfl, rfl⟩)
        go_ret2
        exact ⟨0, false, rfl, HG.out, Below.refl _ _⟩
    · have HK := Lib.hid (show v = decVal l by rw [HV.out, List.take_of_length_le (by rw [HSZ.out]; omega)])
      by_cases hv2 : v ≤ 4294967295
      · by_cases he : l = []
        · have hse : s.toList = [] := by rw [ByteArray.toList_eq, HL.out]; exact he
          have hse2 : s.toList.isEmpty = true := by rw [hse]; rfl
          have HG := Lib.hid (IntAns.no (l := l) (fun N _ hN => by rw [he] at hN; exact decU_ne N hN))
          clear he
          go_wp2_with fail
          go_ret2
          exact ⟨0, false, rfl, HG.out, Below.refl _ _⟩
        · have hse2 : s.toList.isEmpty = false := by rw [ByteArray.toList_eq, HL.out]; cases l with | nil => exact absurd rfl he | cons a b => rfl
          have hse : ¬ s.toList = [] := by rw [ByteArray.toList_eq, HL.out]; exact he
          obtain ⟨S, hS⟩ : ∃ S : ByteArray, S = ⟨(decI v).toArray⟩ := ⟨_, rfl⟩
          have HS := Lib.hid hS
          have hE : (S.toList == s.toList) = true ↔ decI v = l := by rw [beq_iff_eq, hS, ByteArray.toList_mk, ByteArray.toList_eq, HL.out]
          clear hS he
          cases hb : (S.toList == s.toList)
          · have HG := Lib.hid (IntAns.no (l := l) (fun N _ hN => by
              have h1 := decVal_of N
              rw [hN, ← HK.out] at h1
              have h2 : decI v = l := by rw [h1, decI_nat]; exact hN
              rw [hE.2 h2] at hb; cases hb))
            have hb' : (S.toList != s.toList) = true := by unfold bne; rw [hb]; rfl
            clear hE
            go_wp2_with fail
            refine (octetText v S _ ht (by omega) (by omega) HS).mono ?_
            rintro _ w1 ⟨rfl, b1⟩
            go_wp2_with fail
            go_ret2
            exact ⟨0, false, rfl, HG.out, b1⟩
          · have HG := Lib.hid (IntAns.yes (l := l) hv0 hv2 (hE.1 hb))
            have hb' : (S.toList != s.toList) = false := by unfold bne; rw [hb]; rfl
            clear hE
            go_wp2_with fail
            refine (octetText v S _ ht (by omega) (by omega) HS).mono ?_
            rintro _ w1 ⟨rfl, b1⟩
            go_wp2_with fail
            go_ret2
            exact ⟨v, true, rfl, HG.out, b1⟩
      · have HG := Lib.hid (IntAns.great (l := l) (k := l.length) (by rw [List.take_length, ← HK.out]; omega))
        cases hse2 : s.toList.isEmpty
        · have hse : ¬ s.toList = [] := by intro hh; rw [hh] at hse2; cases hse2
          go_wp2_with fail
          go_ret2
          exact ⟨0, false, rfl, HG.out, Below.refl _ _⟩
        · have hse : s.toList = [] := List.isEmpty_iff.1 hse2
          go_wp2_with fail
          go_ret2
          exact ⟨0, false, rfl, HG.out, Below.refl _ _⟩
end Go.Proofs.YtnhkpnohadbcdaaDoor
