/- Walks of layer 8 (notice): the document's names; whether a name is known. No conditions. -/
import Derived.Test.YtdcldmblgbefnaaDoorProg
import Derived.WalkKit
import Derived.WalkSpells
import Derived.WalkLawsBesides
import Derived.Outline
import Derived.Deep.QuietTactic
import Derived.BigQuiet
import Derived.Handy
import Derived.Lib.Hide
import Derived.Test.YtdcldmblgbefnaaDoorNotName
import Derived.Test.YtdcldmblgbefnaaDoorNotRefW
import Derived.Test.YtdcldmblgbefnaaDoorRefText
namespace Go.Proofs.YtdcldmblgbefnaaDoor
open Go.RowKit
theorem ntCode_in {n : Int} (h0 : 1 ≤ n) (h1 : n ≤ 6) : ntCode n ≠ [] := by
  have h : n = 1 ∨ n = 2 ∨ n = 3 ∨ n = 4 ∨ n = 5 ∨ n = 6 := by omega
  rcases h with rfl | rfl | rfl | rfl | rfl | rfl <;> decide
theorem ntCode_out {n : Int} (h : n < 1 ∨ 6 < n) : ntCode n = [] := by rw [ntCode, if_neg (by omega), if_neg (by omega), if_neg (by omega), if_neg (by omega), if_neg (by omega), if_neg (by omega)]
theorem ntSubs_short (n : Int) : (ntSubs n).length ≤ 11 := by
  unfold ntSubs
  repeat' split
  all_goals decide
theorem ntSub_out {n k : Int} (h : n < 1 ∨ 6 < n ∨ k < 1 ∨ 99 < k) : ntSub n k = [] := by
  have hl := ntSubs_short n
  rw [ntSub]
  split
  · rfl
  · have h2 : n < 1 ∨ 6 < n := by omega
    rw [ntSubs, if_neg (by omega), if_neg (by omega), if_neg (by omega), if_neg (by omega)]
    rfl
theorem word_sub' {n k : Int} (h0 : 1 ≤ n) (h1 : n ≤ 6) (h2 : 1 ≤ k) (h3 : k ≤ 99) : wordN (100 * n + k) = ntSub n k := by
  have := word_sub ⟨(n - 1).toNat, by omega⟩ ⟨(k - 1).toNat, by omega⟩
  have e1 : (((n - 1).toNat : Nat) : Int) + 1 = n := by omega
  have e2 : (((k - 1).toNat : Nat) : Int) + 1 = k := by omega
  simp only [e1, e2] at this
  exact this
theorem word_code' {n : Int} (h0 : 1 ≤ n) (h1 : n ≤ 6) : wordN (100 * n) = ntCode n := by
  have := word_code ⟨(n - 1).toNat, by omega⟩
  have e1 : (((n - 1).toNat : Nat) : Int) + 1 = n := by omega
  simp only [e1] at this
  exact this
set_option maxHeartbeats 1000000 in
set_option maxRecDepth 100000 in
theorem refBelow (n k : Int) (w : World) : Calls Tryd.prog 97 #[.int .i64 n, .int .i64 k] w fun en w' => en = .returned (.string ⟨(ntSub n k).toArray⟩) ∧ w = w' := by
  by_cases hin : n < 1 ∨ 6 < n ∨ k < 1 ∨ 99 < k
  · rw [ntSub_out hin]
    by_cases h1 : n < 1
    · clear hin
      go_enter Tryd.func97, Tryd.ntmps97
      go_wp2_with fail
      go_ret
      exact ⟨rfl, rfl⟩
    by_cases h2 : 6 < n
    · clear hin
      go_enter Tryd.func97, Tryd.ntmps97
      go_wp2_with fail
      go_ret
      exact ⟨rfl, rfl⟩
    by_cases h3 : k < 1
    · clear hin
      go_enter Tryd.func97, Tryd.ntmps97
      go_wp2_with fail
      go_ret
      exact ⟨rfl, rfl⟩
    have h4 : 99 < k := by omega
    clear hin
    go_enter Tryd.func97, Tryd.ntmps97
    go_wp2_with fail
    go_ret
    exact ⟨rfl, rfl⟩
  · have h1 : 1 ≤ n := by omega
    have h2 : n ≤ 6 := by omega
    have h3 : 1 ≤ k := by omega
    have h4 : k ≤ 99 := by omega
    have hw1 : IntKind.i64.wrap (100 * n) = 100 * n := IntWalk.i64_in _ ⟨by omega, by omega⟩
    have hw2 : IntKind.i64.wrap (100 * n + k) = 100 * n + k := IntWalk.i64_in _ ⟨by omega, by omega⟩
    have HX := Lib.hid (word_sub' h1 h2 h3 h4)
    have HW1 := Lib.hid hw1
    have HW2 := Lib.hid hw2
    clear hin hw1 hw2
    go_enter Tryd.func97, Tryd.ntmps97
    go_wp2_with fail
    refine (refWord8 n k _ _ HW1.out HW2.out).mono ?_
    rw [HX.out]
    rintro _ _ ⟨rfl, rfl⟩
    go_wp2_with fail
    go_ret
    exact ⟨rfl, rfl⟩
theorem refCode (n : Int) (h1 : 1 ≤ n) (h2 : n ≤ 6) (w : World) : Calls Tryd.prog 96 #[.int .i64 n, .int .i64 0] w fun en w' => en = .returned (.string ⟨(ntCode n).toArray⟩) ∧ w = w' := by
  rw [← word_code' h1 h2]
  exact refWord8 n 0 (100 * n) w (IntWalk.i64_in _ ⟨by omega, by omega⟩) (by rw [Int.add_zero]; exact IntWalk.i64_in _ ⟨by omega, by omega⟩)
set_option maxHeartbeats 1000000 in
set_option maxRecDepth 100000 in
theorem refName8 (n k : Int) (S : ByteArray) (w : World) (h0 : -9223372036854775808 ≤ k) (h1 : k ≤ 9223372036854775807) (hS : Hid (S = ⟨(ntName n k).toArray⟩)) :
    Calls Tryd.prog 69 #[.int .i64 n, .int .i64 k] w fun en w' => en = .returned (.string S) ∧ Below w.heap.size w w' := by
  have HB := Lib.hid (ntSub_len n k)
  have HA := Lib.hid (ntCode_len n)
  have HD := Lib.hid (decI_len k h0 h1)
  by_cases hout : n < 1 ∨ 6 < n
  · have e : S = ⟨#[]⟩ := by rw [hS.out, ntName, if_pos (ntCode_out hout)]
    subst e
    clear hS
    by_cases h2 : n < 1
    · clear hout
      go_enter Tryd.func69, Tryd.ntmps69
      go_wp2_with fail
      go_ret
      exact ⟨rfl, Below.refl _ _⟩
    · have h3 : 6 < n := by omega
      clear hout
      go_enter Tryd.func69, Tryd.ntmps69
      go_wp2_with fail
      go_ret
      exact ⟨rfl, Below.refl _ _⟩
  · have hn1 : 1 ≤ n := by omega
    have hn2 : n ≤ 6 := by omega
    have hc := ntCode_in hn1 hn2
    clear hout
    obtain ⟨a, ha⟩ : ∃ a : ByteArray, ⟨(ntCode n).toArray⟩ = a := ⟨_, rfl⟩
    have ha2 := HA.out
    rw [← str_sz] at ha2
    rw [ha] at ha2
    have HAa := Lib.hid ha
    clear ha
    by_cases hs : ntSub n k = []
    · have HC := Lib.hid (show (⟨(ntSub n k).toArray⟩ : ByteArray) = ⟨#[]⟩ by rw [hs])
      by_cases hk : k = 0
      · have e : a = S := by rw [hS.out, ntName, if_neg hc, if_pos hs, if_pos hk]; exact HAa.out.symm
        have hk1 : (k != 0) = false := by simpa using hk
        subst e
        clear hk hc hs hS
        go_enter Tryd.func69, Tryd.ntmps69
        go_wp2_with fail
        refine (refCode n hn1 hn2 _).mono ?_
        rw [HAa.out]
        rintro _ _ ⟨rfl, rfl⟩
        go_wp2_with fail
        refine (refBelow n k _).mono ?_
        rw [HC.out]
        rintro _ _ ⟨rfl, rfl⟩
        go_wp2_with fail
        go_ret
        exact ⟨rfl, Below.refl _ _⟩
      · obtain ⟨t, htt⟩ : ∃ t : ByteArray, t = ⟨(decI k).toArray⟩ := ⟨_, rfl⟩
        have HT := Lib.hid htt
        have htz : t.size ≤ 100 := by rw [htt]; exact HD.out
        have HE := Lib.hid (show a ++ ⟨#[47]⟩ ++ t = S by
          rw [hS.out, ntName, if_neg hc, if_pos hs, if_neg hk, ← HAa.out, htt]
          rw [show (⟨#[47]⟩ : ByteArray) = ⟨[47].toArray⟩ from rfl, bs_app, bs_app]
          simp)
        have hk1 : (k != 0) = true := by simpa using hk
        clear htt hk hc hs hS
        go_enter Tryd.func69, Tryd.ntmps69
        go_wp2_with fail
        refine (refCode n hn1 hn2 _).mono ?_
        rw [HAa.out]
        rintro _ _ ⟨rfl, rfl⟩
        go_wp2_with fail
        refine (refBelow n k _).mono ?_
        rw [HC.out]
        rintro _ _ ⟨rfl, rfl⟩
        go_wp2_with fail
        refine (refText k t _ h0 h1 HT).mono ?_
        rintro _ w2 ⟨rfl, b2⟩
        go_wp2_with fail
        go_ret
        exact ⟨ret_s HE.out, b2⟩
    · obtain ⟨b, hb⟩ : ∃ b : ByteArray, ⟨(ntSub n k).toArray⟩ = b := ⟨_, rfl⟩
      have hb1 := str_ne hs
      have hb2 := HB.out
      rw [← str_sz] at hb2
      rw [hb] at hb1 hb2
      have hb3 : b.toList.isEmpty = false := by simpa using hb1
      have HBb := Lib.hid hb
      clear hb
      have HE := Lib.hid (show a ++ ⟨#[47]⟩ ++ b = S by
        rw [hS.out, ntName, if_neg hc, if_neg hs, ← HAa.out, ← HBb.out]
        rw [show (⟨#[47]⟩ : ByteArray) = ⟨[47].toArray⟩ from rfl, bs_app, bs_app]
        simp)
      clear hc hs hS
      go_enter Tryd.func69, Tryd.ntmps69
      go_wp2_with fail
      refine (refCode n hn1 hn2 _).mono ?_
      rw [HAa.out]
      rintro _ _ ⟨rfl, rfl⟩
      go_wp2_with fail
      refine (refBelow n k _).mono ?_
      rw [HBb.out]
      rintro _ _ ⟨rfl, rfl⟩
      go_wp2_with fail
      refine (refBelow n k _).mono ?_
      rw [HBb.out]
      rintro _ _ ⟨rfl, rfl⟩
      go_wp2_with fail
      go_ret
      exact ⟨ret_s HE.out, Below.refl _ _⟩
def ntKnown (n k : Int) : Bool := !(ntCode n).isEmpty && (k == 0 || !(ntSub n k).isEmpty)
set_option maxHeartbeats 1000000 in
set_option maxRecDepth 100000 in
theorem noticeKnown (n k : Int) (w : World) : Calls Tryd.prog 70 #[.int .i64 n, .int .i64 k] w fun en w' => en = .returned (.bool (ntKnown n k)) ∧ Below w.heap.size w w' := by
  by_cases hc : ntCode n = []
  · have HC := Lib.hid (show (⟨(ntCode n).toArray⟩ : ByteArray) = ⟨#[]⟩ by rw [hc])
    have e : ntKnown n k = false := by simp [ntKnown, hc]
    rw [e]
    clear hc e
    go_enter Tryd.func70, Tryd.ntmps70
    go_wp2_with fail
    refine (noticeCode n _).mono ?_
    rw [HC.out]
    rintro _ _ ⟨rfl, rfl⟩
    go_wp2_with fail
    go_ret
    exact ⟨rfl, Below.refl _ _⟩
  · obtain ⟨a, ha⟩ : ∃ a : ByteArray, ⟨(ntCode n).toArray⟩ = a := ⟨_, rfl⟩
    have ha1 := str_ne hc
    rw [ha] at ha1
    have ha3 : a.toList.isEmpty = false := by simpa using ha1
    have HAa := Lib.hid ha
    clear ha
    by_cases hk : k = 0
    · have e : ntKnown n k = true := by simp [ntKnown, hc, hk]
      rw [e]
      have hk1 : (k == 0) = true := by simpa using hk
      subst hk
      clear hc e
      go_enter Tryd.func70, Tryd.ntmps70
      go_wp2_with fail
      refine (noticeCode n _).mono ?_
      rw [HAa.out]
      rintro _ _ ⟨rfl, rfl⟩
      go_wp2_with fail
      go_ret
      exact ⟨rfl, Below.refl _ _⟩
    · have hk1 : (k == 0) = false := by simpa using hk
      by_cases hs : ntSub n k = []
      · have HB := Lib.hid (show (⟨(ntSub n k).toArray⟩ : ByteArray) = ⟨#[]⟩ by rw [hs])
        have e : ntKnown n k = false := by simp [ntKnown, hs, hk]
        rw [e]
        clear hc e hs hk
        go_enter Tryd.func70, Tryd.ntmps70
        go_wp2_with fail
        refine (noticeCode n _).mono ?_
        rw [HAa.out]
        rintro _ _ ⟨rfl, rfl⟩
        go_wp2_with fail
        refine (noticeSub n k _).mono ?_
        rw [HB.out]
        rintro _ w1 ⟨rfl, b1⟩
        go_wp2_with fail
        go_ret
        exact ⟨rfl, b1⟩
      · obtain ⟨b, hb⟩ : ∃ b : ByteArray, ⟨(ntSub n k).toArray⟩ = b := ⟨_, rfl⟩
        have hb1 := str_ne hs
        rw [hb] at hb1
        have hb3 : b.toList.isEmpty = false := by simpa using hb1
        have HBb := Lib.hid hb
        have e : ntKnown n k = true := by simp [ntKnown, hc, hs]
        rw [e]
        clear hc e hs hk hb
        go_enter Tryd.func70, Tryd.ntmps70
        go_wp2_with fail
        refine (noticeCode n _).mono ?_
        rw [HAa.out]
        rintro _ _ ⟨rfl, rfl⟩
        go_wp2_with fail
        refine (noticeSub n k _).mono ?_
        rw [HBb.out]
        rintro _ w1 ⟨rfl, b1⟩
        go_wp2_with fail
        go_ret
        exact ⟨rfl, b1⟩
set_option maxHeartbeats 1000000 in
set_option maxRecDepth 100000 in
theorem refKnown (n k : Int) (w : World) : Calls Tryd.prog 71 #[.int .i64 n, .int .i64 k] w fun en w' => en = .returned (.bool (ntKnown n k)) ∧ w = w' := by
  by_cases hout : n < 1 ∨ 6 < n
  · have e : ntKnown n k = false := by simp [ntKnown, ntCode_out hout]
    rw [e]
    clear e
    by_cases h2 : n < 1
    · clear hout
      go_enter Tryd.func71, Tryd.ntmps71
      go_wp2_with fail
      go_ret
      exact ⟨rfl, rfl⟩
    · have h3 : 6 < n := by omega
      clear hout
      go_enter Tryd.func71, Tryd.ntmps71
      go_wp2_with fail
      go_ret
      exact ⟨rfl, rfl⟩
  · have hn1 : 1 ≤ n := by omega
    have hn2 : n ≤ 6 := by omega
    have hc := ntCode_in hn1 hn2
    clear hout
    by_cases hk : k = 0
    · have e : ntKnown n k = true := by simp [ntKnown, hc, hk]
      rw [e]
      subst hk
      clear hc e
      go_enter Tryd.func71, Tryd.ntmps71
      go_wp2_with fail
      go_ret
      exact ⟨rfl, rfl⟩
    · have hk1 : (k == 0) = false := by simpa using hk
      by_cases hs : ntSub n k = []
      · have HB := Lib.hid (show (⟨(ntSub n k).toArray⟩ : ByteArray) = ⟨#[]⟩ by rw [hs])
        have e : ntKnown n k = false := by simp [ntKnown, hs, hk]
        rw [e]
        clear hc e hs hk
        go_enter Tryd.func71, Tryd.ntmps71
        go_wp2_with fail
        refine (refBelow n k _).mono ?_
        rw [HB.out]
        rintro _ _ ⟨rfl, rfl⟩
        go_wp2_with fail
        go_ret
        exact ⟨rfl, rfl⟩
      · obtain ⟨b, hb⟩ : ∃ b : ByteArray, ⟨(ntSub n k).toArray⟩ = b := ⟨_, rfl⟩
        have hb1 := str_ne hs
        rw [hb] at hb1
        have hb3 : b.toList.isEmpty = false := by simpa using hb1
        have HBb := Lib.hid hb
        have e : ntKnown n k = true := by simp [ntKnown, hc, hs]
        rw [e]
        clear hc e hs hk hb
        go_enter Tryd.func71, Tryd.ntmps71
        go_wp2_with fail
        refine (refBelow n k _).mono ?_
        rw [HBb.out]
        rintro _ _ ⟨rfl, rfl⟩
        go_wp2_with fail
        go_ret
        exact ⟨rfl, rfl⟩
end Go.Proofs.YtdcldmblgbefnaaDoor
