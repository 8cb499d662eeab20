/- The walk of octet.Unhex. Conditions: the table of digits (DigTab). -/
import Derived.Test.YtdcldmblgbefnaaDoorProg
import Derived.WalkKit
import Derived.WalkSpells
import Derived.WalkLawsBesides
import Derived.Outline
import Derived.Deep.QuietTactic
import Derived.BigQuiet
import Derived.Handy
import Derived.Lib.Hide
import Derived.Test.YtdcldmblgbefnaaDoorHexPlain
namespace Go.Proofs.YtdcldmblgbefnaaDoor
open Go.RowKit
theorem value_is (c r : Int) (w : World) (ht : DigTab w) (hr : Hid (valI c = r)) :
    Calls Tryd.prog 88 #[.int .u8 c] w fun en w' => en = .returned (.int .u8 r) ∧ w = w' := by
  rw [← hr.out]; exact value_any c w ht
theorem DigTab.drewN {w : World} (h : DigTab w) (n : Nat) : DigTab (w.drewN n) := h
theorem DigTab.drew {w : World} (h : DigTab w) : DigTab w.drew := h
set_option maxHeartbeats 2000000 in
set_option maxRecDepth 100000 in
theorem unhex_any (s : ByteArray) (w : World) (ht : DigTab w) (hl : s.size ≤ 100000) :
    Calls Tryd.prog 38 #[.string s] w (RetBB w 5 (unhexL s.data.toList)) := by
  have hsz : s.data.toList.length = s.size := rfl
  obtain ⟨l, hL⟩ : ∃ l, s.data.toList = l := ⟨_, rfl⟩
  rw [hL] at hsz ⊢
  have HL := Lib.hid hL
  have HSZ := Lib.hid hsz
  clear hL hsz
  by_cases hpar : s.size % 2 = 0
  · obtain ⟨m, hm⟩ : ∃ m, s.size = 2 * m := ⟨s.size / 2, by omega⟩
    have hm1 : m = s.size / 2 := by omega
    have hq : ((s.size : Int) % 2 != 0) = false := by simp; omega
    have HM := Lib.hid hm
    clear hm hm1
    have hs0 : (s.size : Int) ≤ 100000 := by omega
    go_enter Tryd.func38, Tryd.ntmps38
    go_wp2_with fail
    go_loopw [4, 5] (fun o i wr => ∃ (k j : Nat) (A1 : Option Addr) (n1 c1 : Nat), j = 2 * k ∧ j ≤ s.size ∧ i = .int .i64 (j : Int) ∧ o = .slice A1 n1 c1 ∧ OB wr 5 w.heap.size A1 n1 c1 (pairs l k) ∧ (∀ j, j < k → pairOK l j = true) ∧ Below w.heap.size w wr) (fun _ i _ => s.size - (intOf i).toNat)
    case atStart => exact ⟨0, 0, none, 0, 0, rfl, by omega, rfl, rfl, OB.nil_, fun j hj => absurd hj (by omega), Below.refl _ _⟩
    case round =>
      obtain ⟨k, j, A1, n1, c1, hjk, hk, rfl, rfl, o1, hok, b1⟩ := hrel
      have HJ := Lib.hid hjk
      clear hjk
      have HOK := Lib.hid hok
      clear hok
      have ht1 := ht.call b1
      by_cases hi0 : j < s.size
      · have hi1 : j + 1 < s.size := by have := HM.out; have := HJ.out; omega
        have hj0 : (0 : Int) ≤ (j : Int) := by omega
        have hj1 : (j : Int) < (s.size : Int) := by omega
        have hj2 : (j : Int) + 1 < (s.size : Int) := by omega
        have e0 : s[j].toNat = lb l (2 * k) := by have hh := HJ.out; subst hh; rw [lb_eq _ _ (by rw [HSZ.out]; exact hi0)]; have := HL.out; subst this; rfl
        have e1 : s[j + 1].toNat = lb l (2 * k + 1) := by have hh := HJ.out; subst hh; rw [lb_eq _ _ (by rw [HSZ.out]; exact hi1)]; have := HL.out; subst this; rfl
        obtain ⟨x, hx⟩ : ∃ x, lb l (2 * k) = x := ⟨_, rfl⟩
        obtain ⟨y, hy⟩ : ∃ y, lb l (2 * k + 1) = y := ⟨_, rfl⟩
        obtain ⟨p, hp⟩ : ∃ p, valI (x : Int) = p := ⟨_, rfl⟩
        obtain ⟨q, hq'⟩ : ∃ q, valI (y : Int) = q := ⟨_, rfl⟩
        rw [hx] at e0
        rw [hy] at e1
        have hp0 := (valI_range (x : Int)).1
        have hp1 := (valI_range (x : Int)).2
        have hq0 := (valI_range (y : Int)).1
        have hq1 := (valI_range (y : Int)).2
        rw [hp] at hp0 hp1
        rw [hq'] at hq0 hq1
        have HP := Lib.hid hp
        have HQ := Lib.hid hq'
        have HOKK := Lib.hid (show pairOK l k = (decide (p ≤ 15) && decide (q ≤ 15)) by unfold pairOK; rw [hx, hy, hp, hq'])
        have HB := Lib.hid (show pairB l k = ub (16 * p + q) by unfold pairB; rw [hx, hy, hp, hq'])
        clear hx hy HP HQ
        go_wp2_with fail
        go_quiet ((go_at_call 88; exact quiet_left (value_any _ _ ht1)))
        rename_i nq
        have bq : Below w.heap.size w (wr.drewN nq) := below_drewN b1 nq
        have oq : OB (wr.drewN nq) 5 w.heap.size A1 n1 c1 (pairs l k) := o1
        have sq := bq.size
        by_cases hp15 : p ≤ 15
        · by_cases hq15 : q ≤ 15
          · have hor := or_nib p q hp0 hp15 hq0 hq15
            go_wp2_with (at_builtin; refine appB1 (.tmp 33) (.tmp 38) rfl rfl w.heap.size bq sq A1 n1 c1 _ (16 * p + q) rfl oq rfl (by omega) (by omega) (by rw [pairs_length]; have := HJ.out; omega) ?_; intro A2 n2 c2 w2 o2 b2 s2)
            go_roundw
            case rel =>
              refine ⟨k + 1, j + 2, A2, n2, c2, by have := HJ.out; omega, by omega, by go_num, rfl, ?_, ?_, b2⟩
              · rw [pairs_succ, HB.out]; exact o2
              · intro i hi
                rcases Nat.lt_or_ge i k with h1 | h1
                · exact HOK.out i h1
                · obtain rfl : i = k := by omega
                  rw [HOKK.out]; simp; omega
            case measure => simp [intOf]; omega
          · have HN := Lib.hid (unhexL_bad (l := l) (k := k) (by rw [HSZ.out]; have := HJ.out; omega) (by rw [HOKK.out]; simp; omega))
            go_wp2_with fail
            go_ret2
            rw [HN.out]
            exact RetBB.none_ bq
        · have HN := Lib.hid (unhexL_bad (l := l) (k := k) (by rw [HSZ.out]; have := HJ.out; omega) (by rw [HOKK.out]; simp; omega))
          go_wp2_with fail
          go_ret2
          rw [HN.out]
          exact RetBB.none_ bq
      · have HN := Lib.hid (unhexL_ok (l := l) (by rw [HSZ.out]; exact hpar) (fun i hi => HOK.out i (by rw [HSZ.out] at hi; have := HJ.out; omega)))
        have HK := Lib.hid (show k = l.length / 2 by rw [HSZ.out]; have := HJ.out; omega)
        go_wp2_with fail
        go_ret2
        rw [HN.out, ← HK.out]
        exact ⟨A1, n1, c1, rfl, o1, b1⟩
  · have hq : ((s.size : Int) % 2 != 0) = true := by simp; omega
    have HN := Lib.hid (unhexL_odd (l := l) (by rw [HSZ.out]; exact hpar))
    go_enter Tryd.func38, Tryd.ntmps38
    go_wp2_with fail
    go_ret2
    rw [HN.out]
    exact RetBB.none_ (Below.refl _ _)
end Go.Proofs.YtdcldmblgbefnaaDoor
