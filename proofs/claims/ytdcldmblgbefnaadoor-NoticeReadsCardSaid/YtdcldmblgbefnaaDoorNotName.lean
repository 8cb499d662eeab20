/- Walks of layer 8 (notice): names. Conditions: the table of digits (DigTab). -/
import Derived.Test.YtdcldmblgbefnaaDoorProg
import Derived.WalkKit
import Derived.WalkSpells
import Derived.WalkLawsBesides
import Derived.Outline
import Derived.Deep.QuietTactic
import Derived.BigQuiet
import Derived.Handy
import Derived.Lib.Hide
import Derived.Test.YtdcldmblgbefnaaDoorNotWords
import Derived.Test.YtdcldmblgbefnaaDoorOctetC
namespace Go.Proofs.YtdcldmblgbefnaaDoor
open Go.RowKit
theorem bs_app (a b : List UInt8) : (⟨a.toArray⟩ : ByteArray) ++ ⟨b.toArray⟩ = ⟨(a ++ b).toArray⟩ := by
  apply ByteArray.ext
  rw [ByteArray.data_append]
  simp
theorem str_ne {L : List UInt8} (h : L ≠ []) : ¬ (⟨L.toArray⟩ : ByteArray).toList = [] := by rw [ByteArray.toList_mk]; simpa using h
theorem str_sz (L : List UInt8) : (⟨L.toArray⟩ : ByteArray).size = L.length := rfl
/-- A fault's name. -/
def ntName (n k : Int) : List UInt8 := if ntCode n = [] then [] else if ntSub n k = [] then (if k = 0 then ntCode n else ntCode n ++ (47 :: decI k)) else ntCode n ++ (47 :: ntSub n k)
theorem ntCode_len (n : Int) : (ntCode n).length ≤ 6 := by
  unfold ntCode
  repeat' split
  all_goals simp
theorem ntSubs_len (n : Int) : ∀ l ∈ ntSubs n, l.length ≤ 12 := by
  unfold ntSubs
  repeat' split
  all_goals decide
theorem ntSub_len (n k : Int) : (ntSub n k).length ≤ 12 := by
  unfold ntSub
  split
  · simp
  · rcases h : (ntSubs n)[(k - 1).toNat]? with _ | l
    · simp
    · exact ntSubs_len n l (List.mem_of_getElem? h)
theorem decI_len (k : Int) (h0 : -9223372036854775808 ≤ k) (h1 : k ≤ 9223372036854775807) : (decI k).length ≤ 100 := by
  have h := decU_size k.natAbs (by omega)
  rw [str_sz] at h
  unfold decI
  split
  · have := decU_len 18 k.natAbs (by omega)
    simp
    omega
  · exact h
set_option maxHeartbeats 1000000 in
set_option maxRecDepth 100000 in
theorem noticeName (n k : Int) (S : ByteArray) (w : World) (ht : DigTab w) (h0 : -9223372036854775808 ≤ k) (h1 : k ≤ 9223372036854775807) (hS : Hid (S = ⟨(ntName n k).toArray⟩)) :
    Calls Tryd.prog 68 #[.int .i64 n, .int .i64 k] w fun en w' => en = .returned (.string S) ∧ Below w.heap.size w w' := by
  have HB := Lib.hid (ntSub_len n k)
  have HA := Lib.hid (ntCode_len n)
  have HD := Lib.hid (decI_len k h0 h1)
  by_cases hc : ntCode n = []
  · have e : S = ⟨#[]⟩ := by rw [hS.out, ntName, if_pos hc]
    obtain ⟨b, hb⟩ : ∃ b : ByteArray, ⟨(ntSub n k).toArray⟩ = b := ⟨_, rfl⟩
    have HX := Lib.hid hb
    have HC := Lib.hid (show (⟨(ntCode n).toArray⟩ : ByteArray) = ⟨#[]⟩ by rw [hc])
    clear hc hb hS
    subst e
    go_enter Tryd.func68, Tryd.ntmps68
    go_wp2_with fail
    refine (noticeCode n _).mono ?_
    rw [HC.out]
    rintro _ _ ⟨rfl, rfl⟩
    go_wp2_with fail
    refine (noticeSub n k _).mono ?_
    rw [HX.out]
    rintro _ w1 ⟨rfl, b1⟩
    go_wp2_with fail
    go_ret
    exact ⟨rfl, b1⟩
  · obtain ⟨a, ha⟩ : ∃ a : ByteArray, ⟨(ntCode n).toArray⟩ = a := ⟨_, rfl⟩
    have ha1 := str_ne hc
    have ha2 := HA.out
    rw [← str_sz] at ha2
    rw [ha] at ha1 ha2
    have ha3 : a.toList.isEmpty = false := by simpa using ha1
    have HAa := Lib.hid ha
    clear ha
    by_cases hs : ntSub n k = []
    · have HC := Lib.hid (show (⟨(ntSub n k).toArray⟩ : ByteArray) = ⟨#[]⟩ by rw [hs])
      by_cases hk : k = 0
      · have e : a = S := by rw [hS.out, ntName, if_neg hc, if_pos hs, if_pos hk]; exact HAa.out.symm
        have hk1 : (k != 0) = false := by simpa using hk
        subst e
        clear hk hc hs hS
        go_enter Tryd.func68, Tryd.ntmps68
        go_wp2_with fail
        refine (noticeCode n _).mono ?_
        rw [HAa.out]
        rintro _ _ ⟨rfl, rfl⟩
        go_wp2_with fail
        refine (noticeSub n k _).mono ?_
        rw [HC.out]
        rintro _ w1 ⟨rfl, b1⟩
        go_wp2_with fail
        go_ret
        exact ⟨rfl, b1⟩
      · obtain ⟨t, htt⟩ : ∃ t : ByteArray, t = ⟨(decI k).toArray⟩ := ⟨_, rfl⟩
        have HT := Lib.hid htt
        have htz : t.size ≤ 100 := by rw [htt]; exact HD.out
        have HE := Lib.hid (show a ++ ⟨#[47]⟩ ++ t = S by
          rw [hS.out, ntName, if_neg hc, if_pos hs, if_neg hk, ← HAa.out, htt]
          rw [show (⟨#[47]⟩ : ByteArray) = ⟨[47].toArray⟩ from rfl, bs_app, bs_app]
          simp) 
        have hk1 : (k != 0) = true := by simpa using hk
        clear htt hk hc hs hS
        go_enter Tryd.func68, Tryd.ntmps68
        go_wp2_with fail
        refine (noticeCode n _).mono ?_
        rw [HAa.out]
        rintro _ _ ⟨rfl, rfl⟩
        go_wp2_with fail
        refine (noticeSub n k _).mono ?_
        rw [HC.out]
        rintro _ w1 ⟨rfl, b1⟩
        go_wp2_with fail
        refine (octetText k t _ (ht.call b1) h0 h1 HT).mono ?_
        rintro _ w2 ⟨rfl, b2⟩
        go_wp2_with fail
        go_ret
        exact ⟨ret_s HE.out, btr b1 b2 b1.size⟩
    · obtain ⟨b, hb⟩ : ∃ b : ByteArray, ⟨(ntSub n k).toArray⟩ = b := ⟨_, rfl⟩
      have hb1 := str_ne hs
      have hb2 := HB.out
      rw [← str_sz] at hb2
      rw [hb] at hb1 hb2
      have hb3 : b.toList.isEmpty = false := by simpa using hb1
      have HBb := Lib.hid hb
      clear hb
      have HE := Lib.hid (show a ++ ⟨#[47]⟩ ++ b = S by
        rw [hS.out, ntName, if_neg hc, if_neg hs, ← HAa.out, ← HBb.out]
        rw [show (⟨#[47]⟩ : ByteArray) = ⟨[47].toArray⟩ from rfl, bs_app, bs_app]
        simp)
      clear hc hs hS
      go_enter Tryd.func68, Tryd.ntmps68
      go_wp2_with fail
      refine (noticeCode n _).mono ?_
      rw [HAa.out]
      rintro _ _ ⟨rfl, rfl⟩
      go_wp2_with fail
      refine (noticeSub n k _).mono ?_
      rw [HBb.out]
      rintro _ w1 ⟨rfl, b1⟩
      go_wp2_with fail
      go_ret
      exact ⟨ret_s HE.out, b1⟩
end Go.Proofs.YtdcldmblgbefnaaDoor
