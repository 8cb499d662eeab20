/- Walks of layer 8 (notice): the words. No conditions. -/
import Derived.Test.YtdcldmblgbefnaaDoorProg
import Derived.WalkKit
import Derived.WalkSpells
import Derived.WalkLawsBesides
import Derived.Outline
import Derived.Deep.QuietTactic
import Derived.BigQuiet
import Derived.Handy
import Derived.Lib.Hide
import Derived.Test.YtdcldmblgbefnaaDoorBase
namespace Go.Proofs.YtdcldmblgbefnaaDoor
open Go.RowKit
/-- A code's word. -/
def ntCode (n : Int) : List UInt8 := if n = 1 then [104, 101, 97, 100, 101, 114] else if n = 2 then [111, 112, 101, 110] else if n = 3 then [117, 112, 100, 97, 116, 101] else if n = 4 then [104, 111, 108, 100] else if n = 5 then [115, 116, 97, 116, 101] else if n = 6 then [99, 101, 97, 115, 101] else []
/-- The words below a code. -/
def ntSubs (n : Int) : List (List UInt8) := if n = 1 then [[115, 121, 110, 99], [108, 101, 110, 103, 116, 104], [116, 121, 112, 101]] else if n = 2 then [[118, 101, 114, 115, 105, 111, 110], [112, 101, 101, 114], [105, 100], [112, 97, 114, 97, 109], [], [104, 111, 108, 100]] else if n = 3 then [[108, 105, 115, 116], [117, 110, 107, 110, 111, 119, 110], [109, 105, 115, 115, 105, 110, 103], [102, 108, 97, 103, 115], [115, 105, 122, 101], [111, 114, 105, 103, 105, 110], [], [110, 101, 120, 116], [111, 112, 116, 105, 111, 110], [112, 114, 101, 102, 105, 120], [112, 97, 116, 104]] else if n = 6 then [[108, 105, 109, 105, 116], [115, 104, 117, 116, 100, 111, 119, 110], [100, 101, 99, 111, 110, 102, 105, 103, 117, 114, 101, 100], [114, 101, 115, 101, 116], [114, 101, 106, 101, 99, 116, 101, 100], [99, 104, 97, 110, 103, 101, 100], [99, 111, 108, 108, 105, 115, 105, 111, 110], [114, 101, 115, 111, 117, 114, 99, 101, 115]] else []
def ntSub (n k : Int) : List UInt8 := if k < 1 ∨ ((ntSubs n).length : Int) < k then [] else (ntSubs n)[(k - 1).toNat]?.getD []
/-- The document's words. -/
def wordN (x : Int) : List UInt8 := if x = 100 then [104, 101, 97, 100, 101, 114] else if x = 101 then [115, 121, 110, 99] else if x = 102 then [108, 101, 110, 103, 116, 104] else if x = 103 then [116, 121, 112, 101] else if x = 200 then [111, 112, 101, 110] else if x = 201 then [118, 101, 114, 115, 105, 111, 110] else if x = 202 then [112, 101, 101, 114] else if x = 203 then [105, 100] else if x = 204 then [112, 97, 114, 97, 109] else if x = 206 then [104, 111, 108, 100] else if x = 300 then [117, 112, 100, 97, 116, 101] else if x = 301 then [108, 105, 115, 116] else if x = 302 then [117, 110, 107, 110, 111, 119, 110] else if x = 303 then [109, 105, 115, 115, 105, 110, 103] else if x = 304 then [102, 108, 97, 103, 115] else if x = 305 then [115, 105, 122, 101] else if x = 306 then [111, 114, 105, 103, 105, 110] else if x = 308 then [110, 101, 120, 116] else if x = 309 then [111, 112, 116, 105, 111, 110] else if x = 310 then [112, 114, 101, 102, 105, 120] else if x = 311 then [112, 97, 116, 104] else if x = 400 then [104, 111, 108, 100] else if x = 500 then [115, 116, 97, 116, 101] else if x = 600 then [99, 101, 97, 115, 101] else if x = 601 then [108, 105, 109, 105, 116] else if x = 602 then [115, 104, 117, 116, 100, 111, 119, 110] else if x = 603 then [100, 101, 99, 111, 110, 102, 105, 103, 117, 114, 101, 100] else if x = 604 then [114, 101, 115, 101, 116] else if x = 605 then [114, 101, 106, 101, 99, 116, 101, 100] else if x = 606 then [99, 104, 97, 110, 103, 101, 100] else if x = 607 then [99, 111, 108, 108, 105, 115, 105, 111, 110] else if x = 608 then [114, 101, 115, 111, 117, 114, 99, 101, 115] else []
theorem word_sub : ∀ c : Fin 6, ∀ s : Fin 99, wordN (100 * ((c.val : Int) + 1) + ((s.val : Int) + 1)) = ntSub ((c.val : Int) + 1) ((s.val : Int) + 1) := by decide +kernel
theorem word_code : ∀ c : Fin 6, wordN (100 * ((c.val : Int) + 1)) = ntCode ((c.val : Int) + 1) := by decide +kernel
set_option maxHeartbeats 1000000 in
set_option maxRecDepth 100000 in
theorem noticeCode (n : Int) (w : World) : Calls Tryd.prog 94 #[.int .i64 n] w fun en w' => en = .returned (.string ⟨(ntCode n).toArray⟩) ∧ w = w' := by
  by_cases h : n = 1 ∨ n = 2 ∨ n = 3 ∨ n = 4 ∨ n = 5 ∨ n = 6
  · rcases h with rfl | rfl | rfl | rfl | rfl | rfl
    all_goals
      go_enter Tryd.func94, Tryd.ntmps94
      go_wp2_with fail
      go_ret
      exact ⟨(show _ = _ by kernel_rfl), rfl⟩
  · have e : ntCode n = [] := by rw [ntCode, if_neg (by omega), if_neg (by omega), if_neg (by omega), if_neg (by omega), if_neg (by omega), if_neg (by omega)]
    rw [e]
    have e1 : (n == 1) = false := by simpa using (by omega : ¬ n = 1)
    have e2 : (n == 2) = false := by simpa using (by omega : ¬ n = 2)
    have e3 : (n == 3) = false := by simpa using (by omega : ¬ n = 3)
    have e4 : (n == 4) = false := by simpa using (by omega : ¬ n = 4)
    have e5 : (n == 5) = false := by simpa using (by omega : ¬ n = 5)
    have e6 : (n == 6) = false := by simpa using (by omega : ¬ n = 6)
    clear h
    go_enter Tryd.func94, Tryd.ntmps94
    go_wp2_with fail
    go_ret
    exact ⟨rfl, rfl⟩
set_option maxHeartbeats 4000000 in
set_option maxRecDepth 100000 in
theorem noticeSub (n k : Int) (w : World) : Calls Tryd.prog 95 #[.int .i64 n, .int .i64 k] w fun en w' => en = .returned (.string ⟨(ntSub n k).toArray⟩) ∧ Below w.heap.size w w' := by
  by_cases h1 : n = 1 ∨ n = 2 ∨ n = 3 ∨ n = 6
  · by_cases h2 : k < 1 ∨ ((ntSubs n).length : Int) < k
    · have e : ntSub n k = [] := by rw [ntSub, if_pos h2]
      rw [e]
      clear e
      rcases h1 with rfl | rfl | rfl | rfl
      · have h3 : k < 1 ∨ 3 < k := h2
        clear h2
        by_cases h4 : k < 1
        · go_enter Tryd.func95, Tryd.ntmps95
          go_wp2_with fail
          go_ret
          exact ⟨rfl, (by repeat' (first | (with_reducible exact Below.refl _ _) | (with_reducible assumption) | (with_reducible refine below_drewN ?_ _) | (with_reducible refine Below.drew ?_) | (with_reducible refine Below.alloc ?_ ?_ _) | (with_reducible refine Below.setCell ?_ ?_ _) | go_size))⟩
        · have h5 : 3 < k := by omega
          clear h3
          go_enter Tryd.func95, Tryd.ntmps95
          go_wp2_with fail
          go_ret
          exact ⟨rfl, (by repeat' (first | (with_reducible exact Below.refl _ _) | (with_reducible assumption) | (with_reducible refine below_drewN ?_ _) | (with_reducible refine Below.drew ?_) | (with_reducible refine Below.alloc ?_ ?_ _) | (with_reducible refine Below.setCell ?_ ?_ _) | go_size))⟩
      · have h3 : k < 1 ∨ 6 < k := h2
        clear h2
        by_cases h4 : k < 1
        · go_enter Tryd.func95, Tryd.ntmps95
          go_wp2_with fail
          go_ret
          exact ⟨rfl, (by repeat' (first | (with_reducible exact Below.refl _ _) | (with_reducible assumption) | (with_reducible refine below_drewN ?_ _) | (with_reducible refine Below.drew ?_) | (with_reducible refine Below.alloc ?_ ?_ _) | (with_reducible refine Below.setCell ?_ ?_ _) | go_size))⟩
        · have h5 : 6 < k := by omega
          clear h3
          go_enter Tryd.func95, Tryd.ntmps95
          go_wp2_with fail
          go_ret
          exact ⟨rfl, (by repeat' (first | (with_reducible exact Below.refl _ _) | (with_reducible assumption) | (with_reducible refine below_drewN ?_ _) | (with_reducible refine Below.drew ?_) | (with_reducible refine Below.alloc ?_ ?_ _) | (with_reducible refine Below.setCell ?_ ?_ _) | go_size))⟩
      · have h3 : k < 1 ∨ 11 < k := h2
        clear h2
        by_cases h4 : k < 1
        · go_enter Tryd.func95, Tryd.ntmps95
          go_wp2_with fail
          go_ret
          exact ⟨rfl, (by repeat' (first | (with_reducible exact Below.refl _ _) | (with_reducible assumption) | (with_reducible refine below_drewN ?_ _) | (with_reducible refine Below.drew ?_) | (with_reducible refine Below.alloc ?_ ?_ _) | (with_reducible refine Below.setCell ?_ ?_ _) | go_size))⟩
        · have h5 : 11 < k := by omega
          clear h3
          go_enter Tryd.func95, Tryd.ntmps95
          go_wp2_with fail
          go_ret
          exact ⟨rfl, (by repeat' (first | (with_reducible exact Below.refl _ _) | (with_reducible assumption) | (with_reducible refine below_drewN ?_ _) | (with_reducible refine Below.drew ?_) | (with_reducible refine Below.alloc ?_ ?_ _) | (with_reducible refine Below.setCell ?_ ?_ _) | go_size))⟩
      · have h3 : k < 1 ∨ 8 < k := h2
        clear h2
        by_cases h4 : k < 1
        · go_enter Tryd.func95, Tryd.ntmps95
          go_wp2_with fail
          go_ret
          exact ⟨rfl, (by repeat' (first | (with_reducible exact Below.refl _ _) | (with_reducible assumption) | (with_reducible refine below_drewN ?_ _) | (with_reducible refine Below.drew ?_) | (with_reducible refine Below.alloc ?_ ?_ _) | (with_reducible refine Below.setCell ?_ ?_ _) | go_size))⟩
        · have h5 : 8 < k := by omega
          clear h3
          go_enter Tryd.func95, Tryd.ntmps95
          go_wp2_with fail
          go_ret
          exact ⟨rfl, (by repeat' (first | (with_reducible exact Below.refl _ _) | (with_reducible assumption) | (with_reducible refine below_drewN ?_ _) | (with_reducible refine Below.drew ?_) | (with_reducible refine Below.alloc ?_ ?_ _) | (with_reducible refine Below.setCell ?_ ?_ _) | go_size))⟩
    · rcases h1 with rfl | rfl | rfl | rfl
      · have h3 : ¬ (k < 1 ∨ 3 < k) := h2
        have h4 : k = 1 ∨ k = 2 ∨ k = 3 := by omega
        clear h2 h3
        rcases h4 with rfl | rfl | rfl
        all_goals
          go_enter Tryd.func95, Tryd.ntmps95
          go_wp2_with fail
          go_ret
          exact ⟨(show _ = _ by kernel_rfl), (by repeat' (first | (with_reducible exact Below.refl _ _) | (with_reducible assumption) | (with_reducible refine below_drewN ?_ _) | (with_reducible refine Below.drew ?_) | (with_reducible refine Below.alloc ?_ ?_ _) | (with_reducible refine Below.setCell ?_ ?_ _) | go_size))⟩
      · have h3 : ¬ (k < 1 ∨ 6 < k) := h2
        have h4 : k = 1 ∨ k = 2 ∨ k = 3 ∨ k = 4 ∨ k = 5 ∨ k = 6 := by omega
        clear h2 h3
        rcases h4 with rfl | rfl | rfl | rfl | rfl | rfl
        all_goals
          go_enter Tryd.func95, Tryd.ntmps95
          go_wp2_with fail
          go_ret
          exact ⟨(show _ = _ by kernel_rfl), (by repeat' (first | (with_reducible exact Below.refl _ _) | (with_reducible assumption) | (with_reducible refine below_drewN ?_ _) | (with_reducible refine Below.drew ?_) | (with_reducible refine Below.alloc ?_ ?_ _) | (with_reducible refine Below.setCell ?_ ?_ _) | go_size))⟩
      · have h3 : ¬ (k < 1 ∨ 11 < k) := h2
        have h4 : k = 1 ∨ k = 2 ∨ k = 3 ∨ k = 4 ∨ k = 5 ∨ k = 6 ∨ k = 7 ∨ k = 8 ∨ k = 9 ∨ k = 10 ∨ k = 11 := by omega
        clear h2 h3
        rcases h4 with rfl | rfl | rfl | rfl | rfl | rfl | rfl | rfl | rfl | rfl | rfl
        all_goals
          go_enter Tryd.func95, Tryd.ntmps95
          go_wp2_with fail
          go_ret
          exact ⟨(show _ = _ by kernel_rfl), (by repeat' (first | (with_reducible exact Below.refl _ _) | (with_reducible assumption) | (with_reducible refine below_drewN ?_ _) | (with_reducible refine Below.drew ?_) | (with_reducible refine Below.alloc ?_ ?_ _) | (with_reducible refine Below.setCell ?_ ?_ _) | go_size))⟩
      · have h3 : ¬ (k < 1 ∨ 8 < k) := h2
        have h4 : k = 1 ∨ k = 2 ∨ k = 3 ∨ k = 4 ∨ k = 5 ∨ k = 6 ∨ k = 7 ∨ k = 8 := by omega
        clear h2 h3
        rcases h4 with rfl | rfl | rfl | rfl | rfl | rfl | rfl | rfl
        all_goals
          go_enter Tryd.func95, Tryd.ntmps95
          go_wp2_with fail
          go_ret
          exact ⟨(show _ = _ by kernel_rfl), (by repeat' (first | (with_reducible exact Below.refl _ _) | (with_reducible assumption) | (with_reducible refine below_drewN ?_ _) | (with_reducible refine Below.drew ?_) | (with_reducible refine Below.alloc ?_ ?_ _) | (with_reducible refine Below.setCell ?_ ?_ _) | go_size))⟩
  · have e0 : ntSubs n = [] := by rw [ntSubs, if_neg (by omega), if_neg (by omega), if_neg (by omega), if_neg (by omega)]
    have e : ntSub n k = [] := by
      rw [ntSub, e0]
      split
      · rfl
      · rfl
    rw [e]
    have e1 : (n == 1) = false := by simpa using (by omega : ¬ n = 1)
    have e2 : (n == 2) = false := by simpa using (by omega : ¬ n = 2)
    have e3 : (n == 3) = false := by simpa using (by omega : ¬ n = 3)
    have e6 : (n == 6) = false := by simpa using (by omega : ¬ n = 6)
    clear h1 e e0
    by_cases h4 : k < 1
    · go_enter Tryd.func95, Tryd.ntmps95
      go_wp2_with fail
      go_ret
      exact ⟨rfl, (by repeat' (first | (with_reducible exact Below.refl _ _) | (with_reducible assumption) | (with_reducible refine below_drewN ?_ _) | (with_reducible refine Below.drew ?_) | (with_reducible refine Below.alloc ?_ ?_ _) | (with_reducible refine Below.setCell ?_ ?_ _) | go_size))⟩
    · have h5 : 0 < k := by omega
      go_enter Tryd.func95, Tryd.ntmps95
      go_wp2_with fail
      go_ret
      exact ⟨rfl, (by repeat' (first | (with_reducible exact Below.refl _ _) | (with_reducible assumption) | (with_reducible refine below_drewN ?_ _) | (with_reducible refine Below.drew ?_) | (with_reducible refine Below.alloc ?_ ?_ _) | (with_reducible refine Below.setCell ?_ ?_ _) | go_size))⟩
end Go.Proofs.YtdcldmblgbefnaaDoor
