/- More walks of layer 21 (joined to XFsm's). -/
import Derived.Test.YtdcldmblgbefnaaDoorProg
import Derived.WalkKit
import Derived.WalkSpells
import Derived.WalkLawsBesides
import Derived.Outline
import Derived.Deep.QuietTactic
import Derived.BigQuiet
import Derived.Handy
import Derived.Lib.Hide
import Derived.Test.YtdcldmblgbefnaaDoorFsm
namespace Go.Proofs.YtdcldmblgbefnaaDoor
open Go.RowKit
set_option maxHeartbeats 1000000 in
theorem refStep_word (s e : Nat) (wd : ByteArray) (w : World) (h : s < 6) (he : e < 16) (h1 : 1 ≤ wd.size) (h8 : wd.size ≤ 8) (hwd : (⟨(refWord s e).toArray⟩ : ByteArray) = wd)
    (hto : (wd[0].toNat : Int) - 48 = fsmTo s e) (hdo : refAcc wd wd.size = fsmDo s e) :
    Calls Tryd.prog 24 #[.int .i64 s, .int .i64 e] w fun en w' => en = .returned (.tuple #[.int .i64 (fsmTo s e), .int .i64 (fsmDo s e)]) ∧ Below w.heap.size w w' := by
  have hb0 := wd[0].toNat_lt
  have Hwd := Lib.hid hwd
  have Hto := Lib.hid hto
  have Hdo := Lib.hid hdo
  have H1 := Lib.hid (refAcc_one wd)
  clear hwd hto hdo
  go_enter Tryd.func24, Tryd.ntmps24
  go_wp2_with (go_at_call 84; refine (refRow_any s e _ h he).mono ?_; rintro _ w1 ⟨rfl, hc, hb⟩; rw [Hwd.out] at hc)
  go_loop [8, 9] (fun n i => ∃ k : Nat, 1 ≤ k ∧ k ≤ wd.size ∧ i = .int .i64 k ∧ n = .int .i64 (refAcc wd k)) (fun _ i => wd.size - (intOf i).toNat)
  case atStart => exact ⟨1, Nat.le_refl _, h1, rfl, by rw [H1.out]⟩
  case round =>
    obtain ⟨k, hk1, hk, rfl, rfl⟩ := hrel
    have hs := refAcc_bd wd k
    by_cases hlt : k < wd.size
    · have HS := Lib.hid (refAcc_step wd k hk1 hlt)
      have hbit := refBit_le (wd[k].toNat : Int)
      go_wp2_with (go_at_call 85; refine (refBit_any _ _).mono ?_; rintro e w' ⟨rfl, rfl⟩)
      go_round
      case rel => exact ⟨k + 1, by omega, by omega, by go_num, by rw [HS.out]⟩
      case measure => simp [intOf]; omega
    · have Hend := Lib.hid (show k = wd.size by omega)
      go_wp2
      go_ret2
      exact ⟨ret_ii Hto.out (by rw [Hend.out]; exact Hdo.out), hb⟩
theorem refStep_out (s e : Int) (w : World) (h : ¬ (0 ≤ s ∧ s < 6 ∧ 0 ≤ e ∧ e < 16)) :
    Calls Tryd.prog 24 #[.int .i64 s, .int .i64 e] w fun en w' => en = .returned (.tuple #[.int .i64 0, .int .i64 0]) ∧ Below w.heap.size w w' := by
  by_cases he : 0 ≤ e ∧ e < 16
  · obtain ⟨m, rfl⟩ := Int.eq_ofNat_of_zero_le he.1
    by_cases h1 : s < 0
    · go_enter Tryd.func24, Tryd.ntmps24
      go_wp2_with (go_at_call 84; refine (refRow_any 0 m _ (by omega) (by omega)).mono ?_; rintro _ w1 ⟨rfl, hc, hb⟩)
      go_ret2
      exact ⟨rfl, hb⟩
    · have h2 : 5 < s := by omega
      go_enter Tryd.func24, Tryd.ntmps24
      go_wp2_with (go_at_call 84; refine (refRow_any 0 m _ (by omega) (by omega)).mono ?_; rintro _ w1 ⟨rfl, hc, hb⟩)
      go_ret2
      exact ⟨rfl, hb⟩
  · have he' : e < 0 ∨ 15 < e := by omega
    clear he
    by_cases h1 : s < 0
    · go_enter Tryd.func24, Tryd.ntmps24
      go_wp2_with (go_at_call 84; refine (refRow_out e _ he').mono ?_; rintro _ w1 ⟨rfl, rfl⟩)
      go_ret2
      exact ⟨rfl, Below.refl _ _⟩
    by_cases h2 : 5 < s
    · go_enter Tryd.func24, Tryd.ntmps24
      go_wp2_with (go_at_call 84; refine (refRow_out e _ he').mono ?_; rintro _ w1 ⟨rfl, rfl⟩)
      go_ret2
      exact ⟨rfl, Below.refl _ _⟩
    go_enter Tryd.func24, Tryd.ntmps24
    go_wp2_with (go_at_call 84; refine (refRow_out e _ he').mono ?_; rintro _ w1 ⟨rfl, rfl⟩)
    go_ret2
    exact ⟨rfl, Below.refl _ _⟩
/-- The document's Step, at any state and event. -/
theorem refStep (s e : Int) (w : World) :
    Calls Tryd.prog 24 #[.int .i64 s, .int .i64 e] w fun en w' => en = .returned (.tuple #[.int .i64 (fsmTo s e), .int .i64 (fsmDo s e)]) ∧ Below w.heap.size w w' := by
  by_cases h : 0 ≤ s ∧ s < 6 ∧ 0 ≤ e ∧ e < 16
  · obtain ⟨h1, h2, h3, h4⟩ := h
    obtain ⟨n, rfl⟩ := Int.eq_ofNat_of_zero_le h1
    obtain ⟨m, rfl⟩ := Int.eq_ofNat_of_zero_le h3
    have hn : n < 6 := by omega
    have hm : m < 16 := by omega
    obtain ⟨r1, r2, r3⟩ := rows_say ⟨n, hn⟩ ⟨m, hm⟩
    simp only at r1 r2 r3
    have hsz : (⟨(refWord n m).toArray⟩ : ByteArray).size = (refWord n m).length := rfl
    have hd : (⟨(refWord n m).toArray⟩ : ByteArray).data.toList = refWord n m := rfl
    match hw : refWord n m, r2 with
    | c :: l, r2 =>
      rw [hw] at hsz hd r1 r3
      simp only [List.head?_cons, Option.map_some, Option.some.injEq] at r2
      refine refStep_word n m ⟨(c :: l).toArray⟩ w hn hm (by rw [hsz]; simp) (by rw [hsz]; exact r3) (by rw [hw]) ?_ ?_
      · rw [fsmTo_in n m hn hm]
        have hz : 0 < (⟨(c :: l).toArray⟩ : ByteArray).size := by rw [hsz]; simp
        have : (⟨(c :: l).toArray⟩ : ByteArray)[0]'hz = c := rfl
        rw [this]; omega
      · rw [refAcc_end, hd, r1, fsmDo_in n m hn hm]
  · refine (refStep_out s e w h).mono ?_
    rintro en w' ⟨rfl, hb⟩
    exact ⟨by rw [fsmTo_out s e h, fsmDo_out s e h], hb⟩
/-- fsm.Name. -/
theorem fsmName_any (s : Int) (w : World) : Calls Tryd.prog 25 #[.int .i64 s] w fun en w' => en = .returned (.string (fsmName s)) ∧ Below w.heap.size w w' := by
  by_cases h : 0 ≤ s ∧ s < 6
  · have : s = 0 ∨ s = 1 ∨ s = 2 ∨ s = 3 ∨ s = 4 ∨ s = 5 := by omega
    rcases this with rfl | rfl | rfl | rfl | rfl | rfl
    all_goals
      go_enter Tryd.func25, Tryd.ntmps25
      go_wp2
      go_ret
      exact ⟨rfl, (by repeat' (first | (with_reducible exact Below.refl _ _) | (with_reducible assumption) | (with_reducible refine below_drewN ?_ _) | (with_reducible refine Below.drew ?_) | (with_reducible refine Below.alloc ?_ ?_ _) | (with_reducible refine Below.setCell ?_ ?_ _) | go_size))⟩
  · have HN := Lib.hid (show fsmName s = ⟨#[]⟩ by unfold fsmName; rw [if_neg h])
    by_cases h1 : s < 0
    · go_enter Tryd.func25, Tryd.ntmps25
      go_wp2
      go_ret
      exact ⟨ret_s HN.out.symm, (by repeat' (first | (with_reducible exact Below.refl _ _) | (with_reducible assumption) | (with_reducible refine below_drewN ?_ _) | (with_reducible refine Below.drew ?_) | (with_reducible refine Below.alloc ?_ ?_ _) | (with_reducible refine Below.setCell ?_ ?_ _) | go_size))⟩
    · have h2 : 5 < s := by omega
      go_enter Tryd.func25, Tryd.ntmps25
      go_wp2
      go_ret
      exact ⟨ret_s HN.out.symm, (by repeat' (first | (with_reducible exact Below.refl _ _) | (with_reducible assumption) | (with_reducible refine below_drewN ?_ _) | (with_reducible refine Below.drew ?_) | (with_reducible refine Below.alloc ?_ ?_ _) | (with_reducible refine Below.setCell ?_ ?_ _) | go_size))⟩
/-- The document's Name. -/
theorem refName_any (s : Int) (w : World) : Calls Tryd.prog 26 #[.int .i64 s] w fun en w' => en = .returned (.string (fsmName s)) ∧ w = w' := by
  by_cases h : 0 ≤ s ∧ s < 6
  · have : s = 0 ∨ s = 1 ∨ s = 2 ∨ s = 3 ∨ s = 4 ∨ s = 5 := by omega
    rcases this with rfl | rfl | rfl | rfl | rfl | rfl
    all_goals
      go_enter Tryd.func26, Tryd.ntmps26
      go_wp2
      go_ret
      exact ⟨rfl, rfl⟩
  · have HN := Lib.hid (show fsmName s = ⟨#[]⟩ by unfold fsmName; rw [if_neg h])
    have h' : s < 0 ∨ 5 < s := by omega
    clear h
    rcases h' with h | h
    all_goals
      go_enter Tryd.func26, Tryd.ntmps26
      go_wp2
      go_ret
      exact ⟨ret_s HN.out.symm, rfl⟩
/-- A fault without data. -/
def flt (c s : Int) : Value := .agg #[.int .i64 c, .int .i64 s, .slice none 0 0]
/-- What a NOTIFICATION says. -/
def fsmFault (e : Int) (f : Value) : Value := if e == 8 || e == 9 || e == 14 then f else if e == 5 then flt 4 0 else if e == 1 then flt 6 2 else if e == 10 then flt 6 7 else if e == 15 then flt 6 1 else flt 5 0
theorem cease_any (k : Int) (w : World) : Calls Tryd.prog 72 #[.int .i64 k] w fun en w' => en = .returned (flt 6 k) ∧ Below w.heap.size w w' := by
  go_enter Tryd.func72, Tryd.ntmps72
  go_wp2
  go_returns
  exact ⟨rfl, (by repeat' (first | (with_reducible exact Below.refl _ _) | (with_reducible assumption) | (with_reducible refine below_drewN ?_ _) | (with_reducible refine Below.drew ?_) | (with_reducible refine Below.alloc ?_ ?_ _) | (with_reducible refine Below.setCell ?_ ?_ _) | go_size))⟩
end Go.Proofs.YtdcldmblgbefnaaDoor
