/- The statement LexScans: its walk. Conditions: the tables. -/
import Derived.Test.YtnhkpnohadbcdaaDoorProg
import Derived.WalkKit
import Derived.WalkSpells
import Derived.WalkLawsBesides
import Derived.Outline
import Derived.Deep.QuietTactic
import Derived.BigQuiet
import Derived.Handy
import Derived.Lib.Hide
import Derived.RegionTactic
import Derived.Test.YtnhkpnohadbcdaaDoorLexZ
import Derived.Test.YtnhkpnohadbcdaaDoorLexLawB
namespace Go.Proofs.YtnhkpnohadbcdaaDoor
open Go.RowKit
set_option linter.unusedSimpArgs false
set_option linter.unusedVariables false
theorem stepB_len (s : ByteArray) (i : Nat) (st : Bc) (b : UInt8) : (stepB s i st b).out.length ≤ st.out.length + 1 := by
  unfold stepB inB outB
  repeat' split
  all_goals simp
  all_goals (split <;> simp)
theorem runL_len (s : ByteArray) (l : List UInt8) (i : Nat) (st : Bc) : (runL s l i st).out.length ≤ st.out.length + l.length := by
  induction l generalizing i st with
  | nil => exact Nat.le_refl _
  | cons b l ih =>
    have h1 := ih (i + 1) (stepB s i st b)
    have h2 := stepB_len s i st b
    rw [List.length_cons]
    show (runL s l (i + 1) (stepB s i st b)).out.length ≤ _
    omega
theorem scanB_len (s : ByteArray) : (scanB s).1.length ≤ 201 := by
  unfold scanB finB
  split
  · simp
  · rename_i h
    split
    · simp
    · have h1 := runL_len s s.data.toList 0 initB
      have h2 : s.data.toList.length = s.size := rfl
      have h3 : initB.out.length = 0 := rfl
      split
      · simp
      · simp only [List.length_append]
        split
        · simp; omega
        · simp; omega
theorem scanB_err (s : ByteArray) : (scanB s).2 = 0 ∨ (scanB s).2 = 4 ∨ (scanB s).2 = 5 := by
  unfold scanB finB
  repeat' split
  all_goals simp
set_option maxHeartbeats 4000000 in
set_option maxRecDepth 100000 in
theorem lawLexScans (w : World) (s : ByteArray) (ws : s.size ≤ maxLen) (ht : DigTab w) (hT : UT w) :
    Calls Tryd.prog 15 #[.string s] w fun en w' => en = .returned (.bool true) ∧ Below w.heap.size w w' := by
  clear ws
  by_cases h2 : 500 < s.size
  · have t2 : decide ((500 : Int) < (s.size : Int)) = true := decide_eq_true (by omega)
    go_enter Tryd.func15, Tryd.ntmps15
    go_wp2_with fail
    refine (awake13 _ ht hT).mono ?_
    rintro _ w1 ⟨rfl, b1⟩
    have b01 := b1
    go_wp2_with fail
    go_ret
    exact ⟨rfl, b01⟩
  have t2 : decide ((500 : Int) < (s.size : Int)) = false := decide_eq_false (by omega)
  have HQ := lexScan s w ht hT (by omega)
  have HZ := fun w => refScan13 s w (by omega)
  have hlen := scanB_len s
  have herr := scanB_err s
  rw [scan_join] at HQ
  obtain ⟨r, hr⟩ : ∃ r, scanB s = r := ⟨_, rfl⟩
  rw [hr] at HQ hlen herr
  simp only [hr] at HZ
  obtain ⟨ts, k⟩ := r
  simp only at hlen herr
  have tk : (k == k) = true := by simp
  have HQ2 : Calls Tryd.prog 74 #[.string s] w fun e w' => ∃ (A : Option Addr) (n c : Nat), e = .returned (.tuple #[.slice A n c, .int .i64 k]) ∧ w'.ownsRow w.heap.size 20 1 (.slice A n c) n (ts.map Tk.v) ∧ Below w.heap.size w w' := HQ.mono fun _ _ h => h
  have HZ2 : ∀ w, Calls Tryd.prog 75 #[.string s] w fun e w' => ∃ (A : Option Addr) (n c : Nat), e = .returned (.tuple #[.slice A n c, .int .i64 k]) ∧ w'.ownsRow w.heap.size 90 3 (.slice A n c) n (toksC (ts.map tokT)) ∧ Below w.heap.size w w' := fun w => (HZ w).mono fun _ _ h => h
  have HQ3 := Lib.hid HQ2
  have HZ3 := Lib.hid HZ2
  clear hr h2 herr HQ HZ HQ2 HZ2
  go_enter Tryd.func15, Tryd.ntmps15
  go_wp2_with fail
  refine HQ3.out.mono ?_
  rintro _ w1 ⟨A1, n1, c1, rfl, o1, b1⟩
  have HN1 := Lib.hid (show n1 = ts.length by have := o1.1; simp at this; omega)
  go_wp2_with fail
  refine (HZ3.out _).mono ?_
  rintro _ w2 ⟨A2, n2, c2, rfl, o2, b2⟩
  obtain rfl : n2 = n1 := by have h1 := HN1.out; have h2 := o2.1; rw [toksC_len, List.length_map] at h2; omega
  have o12 := own_below o1 b2
  have b02 := btr b1 b2 b1.size
  have hn : n2 ≤ 1000 := by have h1 := HN1.out; omega
  have HTS := Lib.hid hlen
  clear hlen
  go_wp2_with fail
  refine (lexTokens A1 n2 c1 ts _ (Rw.of_reads (Reads.of_own o12) (by omega) (fun b hb => hb)) hn).mono ?_
  rintro _ w3 ⟨A3, c3, rfl, o3, b3⟩
  have o23 := own_below o2 b3
  have b03 := btr b02 b3 b02.size
  go_wp2_with fail
  refine (sameTok A3 A2 n2 c3 c2 _ _ (Rw.of_reads (Reads.of_own o3) (by omega) (fun b hb => hb)) (Rw.of_reads (Reads.of_own o23) (by omega) (fun b hb => hb)) hn).mono ?_
  rintro _ w4 ⟨rfl, b4⟩
  have b04 := btr b03 b4 b03.size
  go_wp2_with fail
  refine (awake13 _ (ht.call b04) (hT.call b04)).mono ?_
  rintro _ w5 ⟨rfl, b5⟩
  go_wp2_with fail
  go_ret
  exact ⟨rfl, btr b04 b5 b04.size⟩
end Go.Proofs.YtnhkpnohadbcdaaDoor
