/- Walks of layer 13 (lex): whether all runes of a text may be, by the document. No conditions but sizes. -/
import Derived.Test.YtnhkpnohadbcdaaDoorProg
import Derived.WalkKit
import Derived.WalkSpells
import Derived.WalkLawsBesides
import Derived.Outline
import Derived.Deep.QuietTactic
import Derived.BigQuiet
import Derived.Handy
import Derived.Lib.Hide
import Derived.Lib.RuneCount
import Derived.Test.YtnhkpnohadbcdaaDoorLexQ
namespace Go.Proofs.YtnhkpnohadbcdaaDoor
open Go.RowKit
set_option linter.unusedSimpArgs false
set_option linter.unusedVariables false
theorem width_le4 (s : ByteArray) (pos : Nat) : (Utf8.decode s pos).2 ≤ 4 := by
  simp only [Utf8.decode]
  repeat' split
  all_goals simp [Utf8.runeError]
set_option maxHeartbeats 2000000 in
set_option maxRecDepth 100000 in
theorem refRight13 (s : ByteArray) (w : World) (hs : s.size ≤ 100000) : Calls Tryd.prog 103 #[.string s] w fun e w' => e = .returned (.bool (rightS s)) ∧ Below w.heap.size w w' := by
  have hs0 : (s.size : Int) ≤ 100000 := by omega
  go_enter Tryd.func103, Tryd.ntmps103
  go_wp2_with fail
  go_loopw [3] (fun v wr => ∃ f pos : Nat, v = .int .i64 (pos : Int) ∧ s.size ≤ pos + f ∧ pos ≤ s.size + 4 ∧ Below w.heap.size w wr ∧ Hid (rightS s = rightF s f pos)) (fun v _ => s.size - (intOf v).toNat)
  case atStart => exact ⟨s.size, 0, rfl, by omega, by omega, Below.refl _ _, Lib.hid rfl⟩
  case round =>
    obtain ⟨f, pos, rfl, hf, hp4, hb, HR⟩ := hrel
    by_cases hlt : pos < s.size
    · obtain ⟨f, rfl⟩ : ∃ f', f = f' + 1 := ⟨f - 1, by omega⟩
      have d0 : decide ((pos : Int) < (s.size : Int)) = true := decide_eq_true (by omega)
      have hR := HR.out
      rw [rightF, if_pos hlt] at hR
      have hw1 := Lib.decode_width_pos s pos hlt
      have hw4 := width_le4 s pos
      have hZ : sizeT s pos = plainN (Utf8.decode s pos) := rfl
      obtain ⟨c, k, hd⟩ : ∃ c k, Utf8.decode s pos = (c, k) := ⟨_, _, rfl⟩
      rw [hd] at hR hw1 hw4 hZ
      simp only at hR hw1 hw4
      have hzc := refSize13 s pos
      rw [hZ] at hzc
      cases hpl : plainB c k
      · have e : plainN (c, k) = 0 := by unfold plainN; simp only; rw [hpl]; rfl
        rw [e] at hzc
        have HN := Lib.hid (show rightS s = false by rw [hR, hpl]; rfl)
        have HC := Lib.hid hzc
        clear hzc hZ hd hR e
        go_wp2_with fail
        refine (HC.out _ hlt hs).mono ?_
        rintro _ w2 ⟨rfl, b2⟩
        go_wp2_with fail
        go_ret
        exact ⟨by rw [HN.out]; rfl, btr hb b2 hb.size⟩
      · have e : plainN (c, k) = k := by unfold plainN; simp only; rw [hpl]; rfl
        rw [e] at hzc
        have HN := Lib.hid (show rightS s = rightF s f (pos + k) by rw [hR, hpl]; rfl)
        have HC := Lib.hid hzc
        have hk0 : ((k : Int) == 0) = false := by simp; omega
        have wj : IntKind.i64.wrap ((pos : Int) + (k : Int)) = (pos : Int) + (k : Int) := IntWalk.i64_in _ ⟨by omega, by omega⟩
        clear hzc hZ hd hR e
        go_wp2_with fail
        refine (HC.out _ hlt hs).mono ?_
        rintro _ w2 ⟨rfl, b2⟩
        go_wp2_with fail
        go_roundw
        case rel => exact ⟨f, pos + k, by go_num, by omega, by omega, btr hb b2 hb.size, HN⟩
        case measure => simp [intOf]; omega
    · have d0 : decide ((pos : Int) < (s.size : Int)) = false := decide_eq_false (by omega)
      have HN := Lib.hid (show rightS s = true by rw [HR.out]; exact rightF_end s f pos hlt)
      go_wp2_with fail
      go_ret
      exact ⟨by rw [HN.out]; rfl, hb⟩
end Go.Proofs.YtnhkpnohadbcdaaDoor
