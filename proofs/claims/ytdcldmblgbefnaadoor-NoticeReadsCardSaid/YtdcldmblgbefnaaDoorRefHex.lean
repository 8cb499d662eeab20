/- The walks of the document's Hex and Unhex. No conditions but sizes. -/
import Derived.Test.YtdcldmblgbefnaaDoorProg
import Derived.WalkKit
import Derived.WalkSpells
import Derived.WalkLawsBesides
import Derived.Outline
import Derived.Deep.QuietTactic
import Derived.BigQuiet
import Derived.Handy
import Derived.Lib.Hide
import Derived.Deep.RegionHeld3
import Derived.Lib.Strings
import Derived.Test.YtdcldmblgbefnaaDoorUnhex
namespace Go.Proofs.YtdcldmblgbefnaaDoor
open Go.RowKit
def digS : ByteArray := ⟨#[48, 49, 50, 51, 52, 53, 54, 55, 56, 57, 97, 98, 99, 100, 101, 102]⟩
theorem digS_one (h : Nat) (hh : h < 16) : digS.extract h (h + 1) = ⟨#[dg h]⟩ := by
  have : ∀ h : Fin 16, digS.extract h.val (h.val + 1) = ⟨#[dg h.val]⟩ := by decide
  exact this ⟨h, hh⟩
theorem bs_append (a b : List UInt8) : (⟨a.toArray⟩ : ByteArray) ++ ⟨b.toArray⟩ = ⟨(a ++ b).toArray⟩ := by
  apply ByteArray.ext
  rw [ByteArray.data_append]
  simp
set_option maxHeartbeats 2000000 in
set_option maxRecDepth 100000 in
theorem refHex_any (A : Option Addr) (n c : Nat) (l : List UInt8) (S : ByteArray) (w : World) (h : BS w w.heap.size A n l) (hl : n ≤ 100000) (hS : Hid (S = ⟨(hexL l).toArray⟩)) :
    Calls Tryd.prog 40 #[.slice A n c] w fun en w' => en = .returned (.string S) ∧ Below w.heap.size w w' := by
  go_enter Tryd.func40, Tryd.ntmps40
  go_wp2_with fail
  go_loopw [3, 4] (fun o i wr => ∃ (k : Nat) (T : ByteArray), k ≤ n ∧ i = .int .i64 k ∧ o = .string T ∧ T = ⟨(hexL (l.take k)).toArray⟩ ∧ Below w.heap.size w wr) (fun _ i _ => n - (intOf i).toNat)
  case atStart => exact ⟨0, _, by omega, rfl, rfl, rfl, Below.refl _ _⟩
  case round =>
    obtain ⟨k, T, hk, rfl, rfl, hT, b1⟩ := hrel
    have HT := Lib.hid hT
    have hTs : T.size = 2 * (l.take k).length := by rw [hT]; exact hexL_length _
    clear hT
    by_cases hlt : k < n
    · obtain ⟨b, off, rfl, hbw, hcw⟩ := h.form hlt
      have hc := (b1.cell (p := ⟨b, off + k, none⟩) hbw).trans hcw
      clear hcw
      have hv := lb_lt l k
      obtain ⟨v, hvv⟩ : ∃ v, lb l k = v := ⟨_, rfl⟩
      rw [hvv] at hc hv
      have HV := Lib.hid hvv
      clear hvv
      have hT2 : T.size ≤ 200000 := by rw [hTs, List.length_take]; omega
      clear hTs
      have hv1 : (0 : Int) ≤ (v : Int) / 16 := by omega
      have hv2 : (v : Int) / 16 < 16 := by omega
      have hv3 : (0 : Int) ≤ (v : Int) % 16 := by omega
      have hv4 : (v : Int) % 16 < 16 := by omega
      have hn1 : ((v : Int) / 16).toNat = v / 16 := by omega
      have hn2 : ((v : Int) % 16).toNat = v % 16 := by omega
      have hn3 : ((v : Int) / 16 + 1).toNat = v / 16 + 1 := by omega
      have hn4 : ((v : Int) % 16 + 1).toNat = v % 16 + 1 := by omega
      have HE := Lib.hid (show T ++ digS.extract (v / 16) (v / 16 + 1) ++ digS.extract (v % 16) (v % 16 + 1) = ⟨(hexL (l.take (k + 1))).toArray⟩ by
        have hkl : k < l.length := by rw [← h.len]; exact hlt
        rw [List.take_succ_eq_append_getElem hkl, hexL_snoc, ← lb_eq l k hkl, HV.out, digS_one _ (by omega), digS_one _ (by omega), HT.out, bs_append _ [dg (v / 16)], bs_append _ [dg (v % 16)]]
        simp)
      go_wp2_with fail
      go_quiet (fail)
      go_wp2_with fail
      go_roundw
      case rel => exact ⟨k + 1, _, by omega, by go_num, rfl, HE.out, below_drewN b1 _⟩
      case measure => simp [intOf]; omega
    · have HE := Lib.hid (show T = S by rw [HT.out, hS.out, List.take_of_length_le (by rw [← h.len]; omega)])
      clear hTs
      go_wp2_with fail
      go_ret
      exact ⟨ret_s HE.out, b1⟩
theorem keepO {w W W' : World} {T n c : Nat} {A : Option Addr} {L : List UInt8} (hb : Below W.heap.size W W') (h : Below w.heap.size w W ∧ OB W T w.heap.size A n c L) : Below w.heap.size w W' ∧ OB W' T w.heap.size A n c L :=
  ⟨h.1.trans (hb.mono h.1.size), h.2.below hb⟩
theorem keepO1 {w W : World} {T n c : Nat} {A : Option Addr} {L : List UInt8} (b : Below w.heap.size w W) (o : OB W T w.heap.size A n c L) : Below w.heap.size w W.drew ∧ OB W.drew T w.heap.size A n c L := ⟨b.drew, o.drew⟩
theorem keepO2 {w W : World} {T n c : Nat} {A : Option Addr} {L : List UInt8} {O : Obj} (b : Below w.heap.size w W) (o : OB W T w.heap.size A n c L) : Below w.heap.size w (W.alloc O).drew ∧ OB (W.alloc O).drew T w.heap.size A n c L := ⟨(b.alloc b.size _).drew, (o.alloc _).drew⟩
theorem one_drew (w : World) (T : Nat) (e : Int) (h0 : 0 ≤ e) (h1 : e ≤ 255) : BS (w.alloc (.cells #[.int .u8 e] T)).drew (w.alloc (.cells #[.int .u8 e] T)).drew.heap.size (some ⟨w.heap.size, 0, none⟩) 1 [ub e] := ((BS.one w T e h0 h1).more (by simp)).drew
theorem pairE (s S : ByteArray) (l : List UInt8) (k j m : Nat) (hL : s.data.toList = l) (hj : j = 2 * k) (h1 : j + 1 < s.size) (hm : m < 256) (hS : S = ⟨(hexL [ub (m : Int)]).toArray⟩) :
    (S.toList == (s.extract j (j + 2)).toList) = true ↔ (pairOK l k = true ∧ pairB l k = ub (m : Int)) := by
  have hlen : l.length = s.size := by rw [← hL]; rfl
  have hu : (ub (m : Int)).toNat = m := by have := ub_toNat (e := (m : Int)) (by omega) (by omega); omega
  rw [← pair_hit l k m hm (by omega), beq_iff_eq, Lib.extract_toList, hL, hS, ByteArray.toList_mk]
  have e1 : hexL [ub (m : Int)] = [dg (m / 16), dg (m % 16)] := by simp [hexL, hu]
  have e2 : (l.drop j).take (j + 2 - j) = [l[2 * k], l[2 * k + 1]] := by
    subst hj
    rw [show 2 * k + 2 - 2 * k = 2 by omega, List.drop_eq_getElem_cons (by omega), List.drop_eq_getElem_cons (by omega)]
    rfl
  rw [e1, e2]
set_option maxHeartbeats 4000000 in
set_option maxRecDepth 100000 in
theorem refUnhex_any (s : ByteArray) (w : World) (hl : s.size ≤ 100000) :
    Calls Tryd.prog 39 #[.string s] w (RetBB w 5 (unhexL s.data.toList)) := by
  have hsz : s.data.toList.length = s.size := rfl
  obtain ⟨l, hL⟩ : ∃ l, s.data.toList = l := ⟨_, rfl⟩
  rw [hL] at hsz ⊢
  have HL := Lib.hid hL
  have HSZ := Lib.hid hsz
  clear hL hsz
  have hs0 : (s.size : Int) ≤ 100000 := by omega
  go_enter Tryd.func39, Tryd.ntmps39
  go_wp2_with fail
  go_loopw [4, 5] (fun o i wr => ∃ (k j : Nat) (A1 : Option Addr) (n1 c1 : Nat), j = 2 * k ∧ j ≤ s.size ∧ i = .int .i64 (j : Int) ∧ o = .slice A1 n1 c1 ∧ OB wr 5 w.heap.size A1 n1 c1 (found l k) ∧ Below w.heap.size w wr) (fun _ i _ => s.size - (intOf i).toNat)
  case atStart => exact ⟨0, 0, none, 0, 0, rfl, by omega, rfl, rfl, OB.nil_, Below.refl _ _⟩
  case round =>
    obtain ⟨k, j, A1, n1, c1, hjk, hk, rfl, rfl, o1, b1⟩ := hrel
    obtain ⟨wo, rfl⟩ : ∃ wo : World, wo = wr := ⟨_, rfl⟩
    have HJ := Lib.hid hjk
    clear hjk
    by_cases hi1 : j + 1 < s.size
    · have hj0 : (0 : Int) ≤ (j : Int) := by omega
      have hj2 : (j : Int) + 1 < (s.size : Int) := by omega
      have hd1 : decide ((j : Int) + 1 < (s.size : Int)) = true := by simp; omega
      go_wp2_with fail
      go_loopw [4, 6] (fun o i wr => ∃ (m : Nat) (A2 : Option Addr) (n2 c2 : Nat), m ≤ 256 ∧ i = .int .i64 (m : Int) ∧ o = .slice A2 n2 c2 ∧ OB wr 5 w.heap.size A2 n2 c2 (found l k ++ part l k m) ∧ Below w.heap.size w wr) (fun _ i _ => 256 - (intOf i).toNat)
      case atStart => exact ⟨0, A1, n1, c1, by omega, rfl, rfl, by rw [part_zero, List.append_nil]; exact o1, b1⟩
      case round =>
        obtain ⟨m, A2, n2, c2, hm, rfl, rfl, o2, b2⟩ := hrel
        by_cases hlt : m < 256
        · have hm1 : (m : Int) ≤ 255 := by omega
          obtain ⟨S, hS⟩ : ∃ S : ByteArray, S = ⟨(hexL [ub (m : Int)]).toArray⟩ := ⟨_, rfl⟩
          have HS := Lib.hid hS
          clear hS
          have hn3 : ((j : Int) + 2).toNat = j + 2 := by omega
          have hw1 : IntKind.u8.wrap (m : Int) = (m : Int) := IntWalk.u8_in _ ⟨by omega, by omega⟩
          have hw2 : IntKind.i64.wrap ((j : Int) + 2) = (j : Int) + 2 := IntWalk.i64_in _ ⟨by omega, by omega⟩
          have hj3 : (j : Int) + 2 ≤ (s.size : Int) := by omega
          have hj4 : (0 : Int) ≤ (j : Int) + 2 := by omega
          have hj5 : (j : Int) ≤ (j : Int) + 2 := by omega
          have hdm : decide ((m : Int) < 256) = true := by simp; omega
          go_wp2_with fail
          go_region_held3 (fun w' => Below w.heap.size w w' ∧ OB w' 5 w.heap.size A2 n2 c2 (found l k ++ part l k m))
            (first | (with_reducible apply keepO <;> with_reducible assumption) | (with_reducible exact keepO2 b2 o2) | (with_reducible exact keepO1 b2 o2))
            ((go_at_call 40; refine (refHex_any _ 1 1 [ub (m : Int)] S _ (one_drew wr 5 (m : Int) (by omega) hm1) (by omega) HS).mono ?_; rintro _ w3 ⟨rfl, b3⟩))
          obtain ⟨b3', o3⟩ : Below w.heap.size w w3 ∧ OB w3 5 w.heap.size A2 n2 c2 (found l k ++ part l k m) := by with_reducible assumption
          have hE := pairE s S l k j m HL.out HJ.out hi1 hlt HS.out
          cases hb : (S.toList == (s.extract j (j + 2)).toList)
          · have HN := Lib.hid (part_miss l k m (fun hh => by rw [hE.2 hh] at hb; cases hb))
            clear hE
            go_wp2_with fail
            go_roundw
            case rel => exact ⟨m + 1, A2, n2, c2, by omega, by go_num, rfl, by rw [HN.out]; exact o3, b3'⟩
            case measure => simp [intOf]; omega
          · have HN := Lib.hid (part_hit l k m hlt (hE.1 hb))
            have HLN := Lib.hid (show (found l k ++ part l k m).length ≤ 140737488355327 by
              have h1 := found_le l k
              have h2 : (part l k m).length ≤ 1 := by unfold part; split <;> simp
              have := HJ.out
              rw [List.length_append]; omega)
            clear hE
            go_wp2_with (at_builtin; refine appB1 (.tmp 28) (.tmp 31) rfl rfl w.heap.size b3' b3'.size A2 n2 c2 _ (m : Int) rfl o3 rfl (by omega) (by omega) HLN.out ?_; intro A4 n4 c4 w4 o4 b4 s4)
            go_roundw
            case rel => exact ⟨m + 1, A4, n4, c4, by omega, by go_num, rfl, by rw [HN.out, ← List.append_assoc]; exact o4, b4⟩
            case measure => simp [intOf]; omega
        · have HM := Lib.hid (show m = 256 by omega)
          have HF := Lib.hid (show found l k ++ part l k m = found l (k + 1) by rw [found_succ, HM.out, part_all])
          have hdm : decide ((m : Int) < 256) = false := by simp; omega
          go_wp2_with fail
          go_roundw
          case rel => exact ⟨k + 1, j + 2, A2, n2, c2, by have := HJ.out; omega, by omega, by go_num, rfl, by rw [← HF.out]; exact o2, b2⟩
          case measure => simp [intOf]; omega
    · have HK := Lib.hid (show k = l.length / 2 by rw [HSZ.out]; have := HJ.out; omega)
      obtain ⟨S, hS⟩ : ∃ S : ByteArray, S = ⟨(hexL (found l k)).toArray⟩ := ⟨_, rfl⟩
      have HS := Lib.hid hS
      clear hS
      have HFL := found_le l k
      have hd1 : decide ((j : Int) + 1 < (s.size : Int)) = false := by simp; omega
      go_wp2_with fail
      refine (refHex_any A1 n1 c1 (found l k) S _ o1.bs (by have := o1.1; have := HJ.out; omega) HS).mono ?_
      rintro _ w3 ⟨rfl, b3⟩
      have b3' : Below w.heap.size w w3 := b1.trans (b3.mono b1.size)
      have hE : (S.toList == s.toList) = true ↔ hexL (found l k) = l := by
        rw [beq_iff_eq, HS.out, ByteArray.toList_mk, ByteArray.toList_eq, HL.out]
      have HU := Lib.hid (found_same l)
      cases hb : (S.toList == s.toList)
      · have HN := Lib.hid (show unhexL l = none by rw [HU.out, ← HK.out, if_neg (fun hh => by rw [hE.2 hh] at hb; cases hb)])
        clear hE
        have hb' : (S.toList != s.toList) = true := by unfold bne; rw [hb]; rfl
        go_wp2_with fail
        go_ret2
        rw [HN.out]
        exact RetBB.none_ b3'
      · have HN := Lib.hid (show unhexL l = some (found l k) by rw [HU.out, ← HK.out, if_pos (hE.1 hb)])
        clear hE
        have hb' : (S.toList != s.toList) = false := by unfold bne; rw [hb]; rfl
        go_wp2_with fail
        go_ret2
        rw [HN.out]
        exact ⟨A1, n1, c1, rfl, o1.below b3, b3'⟩
end Go.Proofs.YtdcldmblgbefnaaDoor
