/- Walks of layer 8 (notice): the document's words. No conditions. -/
import Derived.Test.YtdcldmblgbefnaaDoorProg
import Derived.WalkKit
import Derived.WalkSpells
import Derived.WalkLawsBesides
import Derived.Outline
import Derived.Deep.QuietTactic
import Derived.BigQuiet
import Derived.Handy
import Derived.Lib.Hide
import Derived.Test.YtdcldmblgbefnaaDoorNotWords
namespace Go.Proofs.YtdcldmblgbefnaaDoor
open Go.RowKit
set_option maxHeartbeats 4000000 in
set_option maxRecDepth 100000 in
theorem refWord8 (c s x : Int) (w : World) (h1 : IntKind.i64.wrap (100 * c) = 100 * c) (h2 : IntKind.i64.wrap (100 * c + s) = x) : Calls Tryd.prog 96 #[.int .i64 c, .int .i64 s] w fun en w' => en = .returned (.string ⟨(wordN x).toArray⟩) ∧ w = w' := by
  by_cases h : x = 100 ∨ x = 101 ∨ x = 102 ∨ x = 103 ∨ x = 200 ∨ x = 201 ∨ x = 202 ∨ x = 203 ∨ x = 204 ∨ x = 206 ∨ x = 300 ∨ x = 301 ∨ x = 302 ∨ x = 303 ∨ x = 304 ∨ x = 305 ∨ x = 306 ∨ x = 308 ∨ x = 309 ∨ x = 310 ∨ x = 311 ∨ x = 400 ∨ x = 500 ∨ x = 600 ∨ x = 601 ∨ x = 602 ∨ x = 603 ∨ x = 604 ∨ x = 605 ∨ x = 606 ∨ x = 607 ∨ x = 608
  · rcases h with rfl | rfl | rfl | rfl | rfl | rfl | rfl | rfl | rfl | rfl | rfl | rfl | rfl | rfl | rfl | rfl | rfl | rfl | rfl | rfl | rfl | rfl | rfl | rfl | rfl | rfl | rfl | rfl | rfl | rfl | rfl | rfl
    all_goals
      go_enter Tryd.func96, Tryd.ntmps96
      go_wp2_with fail
      go_ret
      exact ⟨(show _ = _ by kernel_rfl), rfl⟩
  · have e : wordN x = [] := by rw [wordN, if_neg (by omega), if_neg (by omega), if_neg (by omega), if_neg (by omega), if_neg (by omega), if_neg (by omega), if_neg (by omega), if_neg (by omega), if_neg (by omega), if_neg (by omega), if_neg (by omega), if_neg (by omega), if_neg (by omega), if_neg (by omega), if_neg (by omega), if_neg (by omega), if_neg (by omega), if_neg (by omega), if_neg (by omega), if_neg (by omega), if_neg (by omega), if_neg (by omega), if_neg (by omega), if_neg (by omega), if_neg (by omega), if_neg (by omega), if_neg (by omega), if_neg (by omega), if_neg (by omega), if_neg (by omega), if_neg (by omega), if_neg (by omega)]
    rw [e]
    have e100 : (x == 100) = false := by simpa using (by omega : ¬ x = 100)
    have e101 : (x == 101) = false := by simpa using (by omega : ¬ x = 101)
    have e102 : (x == 102) = false := by simpa using (by omega : ¬ x = 102)
    have e103 : (x == 103) = false := by simpa using (by omega : ¬ x = 103)
    have e200 : (x == 200) = false := by simpa using (by omega : ¬ x = 200)
    have e201 : (x == 201) = false := by simpa using (by omega : ¬ x = 201)
    have e202 : (x == 202) = false := by simpa using (by omega : ¬ x = 202)
    have e203 : (x == 203) = false := by simpa using (by omega : ¬ x = 203)
    have e204 : (x == 204) = false := by simpa using (by omega : ¬ x = 204)
    have e206 : (x == 206) = false := by simpa using (by omega : ¬ x = 206)
    have e300 : (x == 300) = false := by simpa using (by omega : ¬ x = 300)
    have e301 : (x == 301) = false := by simpa using (by omega : ¬ x = 301)
    have e302 : (x == 302) = false := by simpa using (by omega : ¬ x = 302)
    have e303 : (x == 303) = false := by simpa using (by omega : ¬ x = 303)
    have e304 : (x == 304) = false := by simpa using (by omega : ¬ x = 304)
    have e305 : (x == 305) = false := by simpa using (by omega : ¬ x = 305)
    have e306 : (x == 306) = false := by simpa using (by omega : ¬ x = 306)
    have e308 : (x == 308) = false := by simpa using (by omega : ¬ x = 308)
    have e309 : (x == 309) = false := by simpa using (by omega : ¬ x = 309)
    have e310 : (x == 310) = false := by simpa using (by omega : ¬ x = 310)
    have e311 : (x == 311) = false := by simpa using (by omega : ¬ x = 311)
    have e400 : (x == 400) = false := by simpa using (by omega : ¬ x = 400)
    have e500 : (x == 500) = false := by simpa using (by omega : ¬ x = 500)
    have e600 : (x == 600) = false := by simpa using (by omega : ¬ x = 600)
    have e601 : (x == 601) = false := by simpa using (by omega : ¬ x = 601)
    have e602 : (x == 602) = false := by simpa using (by omega : ¬ x = 602)
    have e603 : (x == 603) = false := by simpa using (by omega : ¬ x = 603)
    have e604 : (x == 604) = false := by simpa using (by omega : ¬ x = 604)
    have e605 : (x == 605) = false := by simpa using (by omega : ¬ x = 605)
    have e606 : (x == 606) = false := by simpa using (by omega : ¬ x = 606)
    have e607 : (x == 607) = false := by simpa using (by omega : ¬ x = 607)
    have e608 : (x == 608) = false := by simpa using (by omega : ¬ x = 608)
    clear h e
    go_enter Tryd.func96, Tryd.ntmps96
    go_wp2_with fail
    go_ret
    exact ⟨rfl, rfl⟩
end Go.Proofs.YtdcldmblgbefnaaDoor
