/- Walks of layer 13 (lex): which runes may be, and whether all of a text's may. No conditions but the library's two tables. -/
import Derived.Test.YtnhkpnohadbcdaaDoorProg
import Derived.WalkKit
import Derived.WalkSpells
import Derived.WalkLawsBesides
import Derived.Outline
import Derived.Deep.QuietTactic
import Derived.BigQuiet
import Derived.Handy
import Derived.Lib.Hide
import Derived.Lib.OthersKept
import Derived.Lib.RuneCount
import Derived.Lib.RuneCountTail
import Derived.Laws.RangeAny
import Derived.Test.YtnhkpnohadbcdaaDoorDeep
import Derived.Test.YtnhkpnohadbcdaaDoorLexS
namespace Go.Proofs.YtnhkpnohadbcdaaDoor
open Go.RowKit
set_option linter.unusedSimpArgs false
set_option linter.unusedVariables false
/-- The library's two tables are there. -/
abbrev UT (w : World) : Prop := Lib.Utf8Tabs 1 2 w
theorem UT.call {w w' : World} (h : UT w) (hb : Below w.heap.size w w') : UT w' :=
  ⟨fun c hc => (hb.cell (lt_of_cell (h.1 c hc))).trans (h.1 c hc), fun i hi => ⟨(hb.cell (lt_of_cell (h.2 i hi).1)).trans (h.2 i hi).1, (hb.cell (lt_of_cell (h.2 i hi).2)).trans (h.2 i hi).2⟩⟩
def plainB (c k : Nat) : Bool := decide (32 ≤ c) && !(c == 127) && (!(c == 65533) || decide (1 < k))
set_option maxHeartbeats 1000000 in
set_option maxRecDepth 100000 in
theorem lexPlain (c k : Nat) (w : World) : Calls Tryd.prog 119 #[.int .i32 (c : Int), .int .i64 (k : Int)] w fun e w' => e = .returned (.bool (plainB c k)) ∧ Below w.heap.size w w' := by
  by_cases h1 : 32 ≤ c
  case neg =>
    have t1 : decide ((32 : Int) ≤ (c : Int)) = false := decide_eq_false (by omega)
    have HG := Lib.hid (show plainB c k = false by unfold plainB; rw [decide_eq_false h1]; rfl)
    go_enter Tryd.func119, Tryd.ntmps119
    go_wp2_with fail
    go_ret
    exact ⟨by rw [HG.out]; rfl, Below.refl _ _⟩
  have t1 : decide ((32 : Int) ≤ (c : Int)) = true := decide_eq_true (by omega)
  by_cases h2 : c = 127
  · have t2 : ((c : Int) != 127) = false := by simp; omega
    have HG := Lib.hid (show plainB c k = false by unfold plainB; rw [h2]; simp)
    clear h2
    go_enter Tryd.func119, Tryd.ntmps119
    go_wp2_with fail
    go_ret
    exact ⟨by rw [HG.out]; rfl, Below.refl _ _⟩
  have t2 : ((c : Int) != 127) = true := by simp; omega
  by_cases h3 : c = 65533
  case neg =>
    have t3 : ((c : Int) != 65533) = true := by simp; omega
    have HG := Lib.hid (show plainB c k = true by unfold plainB; rw [decide_eq_true h1]; simp [h2, h3])
    clear h2 h3
    go_enter Tryd.func119, Tryd.ntmps119
    go_wp2_with fail
    go_ret
    exact ⟨by rw [HG.out]; rfl, Below.refl _ _⟩
  have t3 : ((c : Int) != 65533) = false := by simp; omega
  by_cases h4 : 1 < k
  · have t4 : decide ((1 : Int) < (k : Int)) = true := decide_eq_true (by omega)
    have HG := Lib.hid (show plainB c k = true by unfold plainB; rw [decide_eq_true h1, decide_eq_true h4]; simp [h2])
    clear h2 h3
    go_enter Tryd.func119, Tryd.ntmps119
    go_wp2_with fail
    go_ret
    exact ⟨by rw [HG.out]; rfl, Below.refl _ _⟩
  · have t4 : decide ((1 : Int) < (k : Int)) = false := decide_eq_false (by omega)
    have HG := Lib.hid (show plainB c k = false by unfold plainB; rw [decide_eq_false h4, h3]; simp)
    clear h2 h3
    go_enter Tryd.func119, Tryd.ntmps119
    go_wp2_with fail
    go_ret
    exact ⟨by rw [HG.out]; rfl, Below.refl _ _⟩
/-- May all runes of a text be? -/
def rightF (s : ByteArray) : Nat → Nat → Bool
  | 0, _ => true
  | f + 1, pos => if pos < s.size then plainB (Utf8.decode s pos).1 (Utf8.decode s pos).2 && rightF s f (pos + (Utf8.decode s pos).2) else true
def rightS (s : ByteArray) : Bool := rightF s s.size 0
theorem rightF_end (s : ByteArray) (f pos : Nat) (h : ¬ pos < s.size) : rightF s f pos = true := by
  cases f with
  | zero => rfl
  | succ f => rw [rightF, if_neg h]
theorem decodeGo_at (s : ByteArray) (pos : Nat) (h : pos < s.size) : Lib.decodeGo (s.extract pos s.size) = Utf8.decode s pos := by
  unfold Lib.decodeGo
  rw [if_neg (by rw [ByteArray.size_extract]; omega), Lib.tail_decode, Nat.add_zero]
set_option maxHeartbeats 2000000 in
set_option maxRecDepth 100000 in
theorem lexRight (s : ByteArray) (w : World) (hT : UT w) (hs : s.size ≤ 100000) : Calls Tryd.prog 102 #[.string s] w fun e w' => e = .returned (.bool (rightS s)) ∧ Below w.heap.size w w' := by
  go_enter Tryd.func102, Tryd.ntmps102
  go_wp2_with fail
  go_loopw [3] (fun _ w' => ∃ f pos : Nat, s.size ≤ pos + f ∧ w'.heap[w.heap.size]? = some (.stringIter s pos) ∧ Below w.heap.size w w' ∧ Hid (rightS s = rightF s f pos)) (fun _ w' => s.size - w'.iterPos w.heap.size)
  case atStart => exact ⟨s.size, 0, by omega, World.iter_heap _ _ _, (Below.refl w.heap.size w).alloc (Nat.le_refl _) _, Lib.hid rfl⟩
  case round =>
    obtain ⟨f, pos, hf, hk, hb, HR⟩ := hrel
    by_cases hlt : pos < s.size
    · obtain ⟨f, rfl⟩ : ∃ f', f = f' + 1 := ⟨f - 1, by omega⟩
      have hnx := fun ty => Lib.run_next_any_at (P := Tryd.prog) wr w.heap.size s pos ty hk hlt
      have hwd := Lib.decode_width_pos s pos hlt
      have hR := HR.out
      rw [rightF, if_pos hlt] at hR
      have hdg := decodeGo_at s pos hlt
      obtain ⟨c, k, hd⟩ : ∃ c k, Utf8.decode s pos = (c, k) := ⟨_, _, rfl⟩
      rw [hd] at hnx hwd hR hdg
      simp only at hnx hwd hR
      have HG := Lib.hid hdg
      have HRR := Lib.hid hR
      have HP := Lib.hid (show wr.iterPos w.heap.size = pos by unfold World.iterPos; rw [hk])
      have hk1 := Lib.iterAt_heap wr w.heap.size s pos (pos + k) hk
      have hb1 := Lib.below_iterAt hb (k := w.heap.size) (Nat.le_refl _) s (pos + k)
      obtain ⟨w1, hw1⟩ : ∃ W, wr.iterAt w.heap.size s (pos + k) = W := ⟨_, rfl⟩
      rw [hw1] at hk1 hb1
      simp only [hw1] at hnx
      have hp2 : (pos : Int) ≤ (s.size : Int) := by omega
      have hp3 : (0 : Int) ≤ (pos : Int) := by omega
      have hlt1 : w.heap.size < w1.heap.size := (Array.getElem?_eq_some_iff.1 hk1).1
      clear hR hdg hd hw1 hk
      go_wp2_with fail
      refine (Tryd.utf8_DecodeRuneInString (s.extract pos s.size) _ (hT.call hb1)).mono ?_
      rw [HG.out]
      rintro _ w2 ⟨rfl, b2⟩
      have hb2 := btr hb1 b2 hb1.size
      have hk2 := (b2.block _ hlt1).trans hk1
      go_wp2_with fail
      refine (lexPlain c k _).mono ?_
      rintro _ w3 ⟨rfl, b3⟩
      have hb3 := btr hb2 b3 hb2.size
      have hk3 := (b3.block _ (Nat.lt_of_lt_of_le hlt1 b2.size)).trans hk2
      cases hpl : plainB c k
      · have HN := Lib.hid (show rightS s = false by rw [HRR.out, hpl]; rfl)
        go_wp2_with fail
        go_ret
        exact ⟨by rw [HN.out]; rfl, hb3⟩
      · have HN := Lib.hid (show rightS s = rightF s f (pos + k) by rw [HRR.out, hpl]; rfl)
        go_wp2_with fail
        go_roundw
        case rel => exact ⟨f, pos + k, by omega, hk3, hb3, HN⟩
        case measure =>
          rw [HP.out, show w3.iterPos w.heap.size = pos + k by unfold World.iterPos; rw [hk3]]
          omega
    · have hnx := fun ty => Lib.run_next_end_at (P := Tryd.prog) wr w.heap.size s pos ty hk hlt
      have HN := Lib.hid (show rightS s = true by rw [HR.out]; exact rightF_end s f pos hlt)
      go_wp2_with fail
      go_ret
      exact ⟨by rw [HN.out]; rfl, hb⟩
end Go.Proofs.YtnhkpnohadbcdaaDoor
