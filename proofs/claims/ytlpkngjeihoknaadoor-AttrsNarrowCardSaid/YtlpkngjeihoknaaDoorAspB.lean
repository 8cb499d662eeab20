/- Walks of layer 3 (paths): whether one may be, how long it counts, its first number; the document's. No conditions but sizes. -/
import Derived.Test.YtlpkngjeihoknaaDoorProg
import Derived.WalkKit
import Derived.WalkSpells
import Derived.WalkLawsBesides
import Derived.Outline
import Derived.Deep.QuietTactic
import Derived.BigQuiet
import Derived.Handy
import Derived.Lib.Hide
import Derived.Test.YtlpkngjeihoknaaDoorAspA
namespace Go.Proofs.YtlpkngjeihoknaaDoor
open Go.RowKit
set_option linter.unusedSimpArgs false
set_option linter.unusedVariables false
def okSeg (x : Seg) : Bool := decide ((x.1 = 1 ∨ x.1 = 2) ∧ x.2.length ≠ 0 ∧ x.2.length ≤ 64)
def rightA (l : List Seg) : Bool := l.all okSeg && decide (sumN l ≤ 64 ∧ l.length ≤ 8)
theorem rightA_bad {l : List Seg} {j : Nat} {x : Seg} (h : l[j]? = some x) (hx : ¬ ((x.1 = 1 ∨ x.1 = 2) ∧ x.2.length ≠ 0 ∧ x.2.length ≤ 64)) : rightA l = false := by
  unfold rightA
  rw [List.all_eq_false.2 ⟨x, List.mem_of_getElem? h, by simp only [okSeg, decide_eq_false hx]; simp⟩, Bool.false_and]
theorem rightA_sum {l : List Seg} (h : 64 < sumN l) : rightA l = false := by
  unfold rightA
  rw [decide_eq_false (by omega), Bool.and_false]
theorem rightA_long {l : List Seg} (h : 8 < l.length) : rightA l = false := by
  unfold rightA
  rw [decide_eq_false (by omega), Bool.and_false]
theorem rightA_yes {l : List Seg} (h : l.all okSeg = true) (h1 : sumN l ≤ 64) (h2 : l.length ≤ 8) : rightA l = true := by
  unfold rightA
  rw [h, decide_eq_true (And.intro h1 h2)]; rfl
theorem rightA_of {l : List Seg} (h : rightA l = true) : l.all okSeg = true ∧ sumN l ≤ 64 ∧ l.length ≤ 8 := by
  unfold rightA at h
  simpa using h
theorem okSeg_take {l : List Seg} {j : Nat} {x : Seg} (h : (l.take j).all okSeg = true) (hx : l[j]? = some x) (hk : (x.1 = 1 ∨ x.1 = 2) ∧ x.2.length ≠ 0 ∧ x.2.length ≤ 64) : (l.take (j + 1)).all okSeg = true := by
  rw [take_snoc hx, List.all_append, h, Bool.true_and]
  simp only [List.all_cons, List.all_nil, okSeg, decide_eq_true hk, Bool.and_self]
def countA : List Seg → Nat
  | [] => 0
  | x :: l => (if x.1 = 1 then 1 else x.2.length) + countA l
theorem countA_app (a b : List Seg) : countA (a ++ b) = countA a + countA b := by
  induction a with
  | nil => simp [countA]
  | cons x a ih => rw [List.cons_append, countA, countA, ih]; omega
theorem countA_take {l : List Seg} {j : Nat} {x : Seg} (h : l[j]? = some x) : countA (l.take (j + 1)) = countA (l.take j) + (if x.1 = 1 then 1 else x.2.length) := by
  rw [take_snoc h, countA_app]; simp [countA]
theorem countA_bd (l : List Seg) : countA l ≤ l.length + sumN l := by
  induction l with
  | nil => simp [countA]
  | cons x l ih =>
    rw [countA, sumN, List.length_cons]
    split <;> omega
theorem countA_le (l : List Seg) (j : Nat) : countA (l.take j) ≤ countA l := by
  have := countA_app (l.take j) (l.drop j)
  rw [List.take_append_drop] at this
  omega
/-- The first number of a path that begins with a sequence. -/
def firstA : List Seg → Int × Bool
  | (2, x :: _) :: _ => (x, true)
  | _ => (0, false)
def RetI (w : World) (v : Int) (e : Ending) (w' : World) : Prop := e = .returned (.int .i64 v) ∧ Below w.heap.size w w'

set_option maxHeartbeats 2000000 in
set_option maxRecDepth 100000 in
theorem aspCount (A : Option Addr) (n c : Nat) (l : List Seg) (w : World) (hd : DL rSeg 2 w (Lo w) A n l) (hn : n ≤ 100000) (hs : Hid (sumN l ≤ big32)) :
    Calls Tryd.prog 28 #[.slice A n c] w (RetI w (countA l)) := by
  have HN := Lib.hid hd.len
  have HBD := Lib.hid (show countA l ≤ 100000 + big32 by have := countA_bd l; have := hs.out; have := HN.out; omega)
  go_enter Tryd.func28, Tryd.ntmps28
  go_wp2_with fail
  go_loopw [3, 8] (fun s i wr => ∃ j t : Nat, j ≤ n ∧ i = .int .i64 j ∧ s = .int .i64 t ∧ Hid (t = countA (l.take j)) ∧ Below w.heap.size w wr) (fun _ i _ => n - (intOf i).toNat)
  case atStart => exact ⟨0, 0, by omega, rfl, rfl, Lib.hid (by simp [countA]), Below.refl _ _⟩
  case round =>
    obtain ⟨j, t, hj, rfl, rfl, HT, hb⟩ := hrel
    by_cases hlt : j < n
    · obtain ⟨x, hx⟩ := getS HN.out hlt
      have e2 : decide ((j : Int) < n) = true := decide_eq_true (by omega)
      have hlti : (j : Int) < n := by omega
      obtain ⟨b, off, A', n', c', rfl, hbl, k0, k1, hnf, hnc'⟩ := (hd.keep rSeg_ok (Kp.call hb)).segAt hx
      have HL := Lib.hid hnf.1
      have HCT := Lib.hid (countA_take hx)
      have HCL := Lib.hid (countA_le l (j + 1))
      have wj : IntKind.i64.wrap ((j : Int) + 1) = (j : Int) + 1 := IntWalk.i64_in _ ⟨by omega, by omega⟩
      clear hx hnf
      have b1 := hb.alloc hb.size (.cells #[.int .i64 x.1, .slice A' n' c'] 73)
      have hX := Blk.new wr 73 #[.int .i64 x.1, .slice A' n' c']
      have x0 := hX.cell 0
      have x1 := hX.cell 1
      by_cases hk : x.1 = 1
      · have t1 : (x.1 == 1) = true := by simpa using hk
        have HS := Lib.hid (show t + 1 = countA (l.take (j + 1)) by have := HT.out; have := HCT.out; rw [if_pos hk] at this; omega)
        have wt : IntKind.i64.wrap ((t : Int) + 1) = (t : Int) + 1 := IntWalk.i64_in _ ⟨by omega, by have := HS.out; have := HCL.out; have := HBD.out; unfold big32 at this; omega⟩
        clear hk
        go_wp2_with fail
        go_roundw
        case rel => exact ⟨j + 1, t + 1, by omega, by go_num, by go_num, HS, b1⟩
        case measure => simp [intOf]; omega
      · have t1 : (x.1 == 1) = false := by simpa using hk
        have HS := Lib.hid (show t + n' = countA (l.take (j + 1)) by have := HT.out; have := HCT.out; have := HL.out; rw [if_neg hk] at *; omega)
        have wt : IntKind.i64.wrap ((t : Int) + n') = (t : Int) + n' := IntWalk.i64_in _ ⟨by omega, by have := HS.out; have := HCL.out; have := HBD.out; unfold big32 at this; omega⟩
        clear hk
        go_wp2_with fail
        go_roundw
        case rel => exact ⟨j + 1, t + n', by omega, by go_num, by go_num, HS, b1⟩
        case measure => simp [intOf]; omega
    · have e2 : decide ((j : Int) < n) = false := decide_eq_false (by omega)
      have HF := Lib.hid (show (t : Int) = countA l by have h1 := HN.out; have h2 := HT.out; rw [List.take_of_length_le (by omega)] at h2; omega)
      go_wp2_with fail
      go_ret
      exact ⟨by rw [HF.out] <;> rfl, hb⟩
set_option maxHeartbeats 2000000 in
set_option maxRecDepth 100000 in
theorem refCount03 (A : Option Addr) (n c : Nat) (l : List Seg) (w : World) (hd : DL rSeg 2 w (Lo w) A n l) (hn : n ≤ 100000) (hs : Hid (sumN l ≤ big32)) :
    Calls Tryd.prog 29 #[.slice A n c] w (RetI w (countA l)) := by
  have HN := Lib.hid hd.len
  have HBD := Lib.hid (show countA l ≤ 100000 + big32 by have := countA_bd l; have := hs.out; have := HN.out; omega)
  go_enter Tryd.func29, Tryd.ntmps29
  go_wp2_with fail
  go_loopw [3, 4] (fun s i wr => ∃ j t : Nat, j ≤ n ∧ i = .int .i64 j ∧ s = .int .i64 t ∧ Hid (t = countA (l.take j)) ∧ Below w.heap.size w wr) (fun _ i _ => n - (intOf i).toNat)
  case atStart => exact ⟨0, 0, by omega, rfl, rfl, Lib.hid (by simp [countA]), Below.refl _ _⟩
  case round =>
    obtain ⟨j, t, hj, rfl, rfl, HT, hb⟩ := hrel
    by_cases hlt : j < n
    · obtain ⟨x, hx⟩ := getS HN.out hlt
      have e2 : decide ((j : Int) < n) = true := decide_eq_true (by omega)
      have hlti : (j : Int) < n := by omega
      obtain ⟨b, off, A', n', c', rfl, hbl, k0, k1, hnf, hnc'⟩ := (hd.keep rSeg_ok (Kp.call hb)).segAt hx
      have HL := Lib.hid hnf.1
      have HCT := Lib.hid (countA_take hx)
      have HCL := Lib.hid (countA_le l (j + 1))
      have wj : IntKind.i64.wrap ((j : Int) + 1) = (j : Int) + 1 := IntWalk.i64_in _ ⟨by omega, by omega⟩
      clear hx hnf
      by_cases hk : x.1 = 1
      · have t1 : (x.1 == 1) = true := by simpa using hk
        have HS := Lib.hid (show t + 1 = countA (l.take (j + 1)) by have := HT.out; have := HCT.out; rw [if_pos hk] at this; omega)
        have wt : IntKind.i64.wrap ((t : Int) + 1) = (t : Int) + 1 := IntWalk.i64_in _ ⟨by omega, by have := HS.out; have := HCL.out; have := HBD.out; unfold big32 at this; omega⟩
        clear hk
        go_wp2_with fail
        go_roundw
        case rel => exact ⟨j + 1, t + 1, by omega, by go_num, by go_num, HS, hb⟩
        case measure => simp [intOf]; omega
      · have t1 : (x.1 == 1) = false := by simpa using hk
        have HS := Lib.hid (show t + n' = countA (l.take (j + 1)) by have := HT.out; have := HCT.out; have := HL.out; rw [if_neg hk] at *; omega)
        have wt : IntKind.i64.wrap ((t : Int) + n') = (t : Int) + n' := IntWalk.i64_in _ ⟨by omega, by have := HS.out; have := HCL.out; have := HBD.out; unfold big32 at this; omega⟩
        clear hk
        go_wp2_with fail
        go_roundw
        case rel => exact ⟨j + 1, t + n', by omega, by go_num, by go_num, HS, hb⟩
        case measure => simp [intOf]; omega
    · have e2 : decide ((j : Int) < n) = false := decide_eq_false (by omega)
      have HF := Lib.hid (show (t : Int) = countA l by have h1 := HN.out; have h2 := HT.out; rw [List.take_of_length_le (by omega)] at h2; omega)
      go_wp2_with fail
      go_ret
      exact ⟨by rw [HF.out] <;> rfl, hb⟩
set_option maxHeartbeats 4000000 in
set_option maxRecDepth 100000 in
theorem aspRight (A : Option Addr) (n c : Nat) (l : List Seg) (w : World) (hd : DL rSeg 2 w (Lo w) A n l) (hn : n ≤ 100000) :
    Calls Tryd.prog 32 #[.slice A n c] w fun e w' => e = .returned (.bool (rightA l)) ∧ Below w.heap.size w w' := by
  have HN := Lib.hid hd.len
  go_enter Tryd.func32, Tryd.ntmps32
  go_wp2_with fail
  go_loopw [3, 8] (fun s i wr => ∃ j t : Nat, j ≤ n ∧ i = .int .i64 j ∧ s = .int .i64 t ∧ t ≤ 64 ∧ Hid (t = sumN (l.take j)) ∧ Hid ((l.take j).all okSeg = true) ∧ Below w.heap.size w wr) (fun _ i _ => n - (intOf i).toNat)
  case atStart => exact ⟨0, 0, by omega, rfl, rfl, by omega, Lib.hid (by simp [sumN]), Lib.hid (by simp), Below.refl _ _⟩
  case round =>
    obtain ⟨j, t, hj, rfl, rfl, ht, HT, HO, hb⟩ := hrel
    by_cases hlt : j < n
    · obtain ⟨x, hx⟩ := getS HN.out hlt
      have HX := Lib.hid hx
      have e2 : decide ((j : Int) < n) = true := decide_eq_true (by omega)
      have hlti : (j : Int) < n := by omega
      obtain ⟨b, off, A', n', c', rfl, hbl, k0, k1, hnf, hnc'⟩ := (hd.keep rSeg_ok (Kp.call hb)).segAt hx
      have HL := Lib.hid hnf.1
      have HST := Lib.hid (sumN_take hx)
      have HSL := Lib.hid (sumN_le l (j + 1))
      have wj : IntKind.i64.wrap ((j : Int) + 1) = (j : Int) + 1 := IntWalk.i64_in _ ⟨by omega, by omega⟩
      clear hx hnf
      have b1 := hb.alloc hb.size (.cells #[.int .i64 x.1, .slice A' n' c'] 73)
      have hX := Blk.new wr 73 #[.int .i64 x.1, .slice A' n' c']
      have x0 := hX.cell 0
      have x1 := hX.cell 1
      obtain ⟨k, hk⟩ : ∃ k, x.1 = k := ⟨_, rfl⟩
      have HK := Lib.hid hk
      rw [hk] at k0
      rw [hk] at b1 hX x0 x1
      try simp only [hk]
      clear hk
      by_cases hk0 : k = 1 ∨ k = 2
      case neg =>
        have t1 : (k != 1) = true := by simp; omega
        have t2 : (k != 2) = true := by simp; omega
        have HF := Lib.hid (rightA_bad HX.out (by rw [HK.out]; omega))
        go_wp2_with fail
        go_ret
        exact ⟨ret_b HF.out.symm, b1⟩
      have HK0 := Lib.hid hk0
      have hkk : (k != 1) = false ∨ ((k != 1) = true ∧ (k != 2) = false) := by
        rcases hk0 with rfl | rfl
        · left; rfl
        · right; exact ⟨rfl, rfl⟩
      clear hk0
      by_cases hn0 : n' = 0
      · have t3 : ((n' : Int) == 0) = true := by simp; omega
        have HF := Lib.hid (rightA_bad HX.out (by have := HL.out; omega))
        clear hn0
        rcases hkk with t1 | ⟨t1, t2⟩
        all_goals
          go_wp2_with fail
          go_ret
          exact ⟨ret_b HF.out.symm, b1⟩
      have t3 : ((n' : Int) == 0) = false := by simp; omega
      by_cases hn6 : 64 < n'
      · have t4 : decide (64 < (n' : Int)) = true := decide_eq_true (by omega)
        have HF := Lib.hid (rightA_bad HX.out (by have := HL.out; omega))
        clear hn0 hn6
        rcases hkk with t1 | ⟨t1, t2⟩
        all_goals
          go_wp2_with fail
          go_ret
          exact ⟨ret_b HF.out.symm, b1⟩
      have t4 : decide (64 < (n' : Int)) = false := decide_eq_false (by omega)
      have HOK := Lib.hid (okSeg_take HO.out HX.out (by have := HL.out; rw [HK.out]; exact ⟨HK0.out, by omega, by omega⟩))
      have HS := Lib.hid (show t + n' = sumN (l.take (j + 1)) by have := HT.out; have := HST.out; have := HL.out; omega)
      have wt : IntKind.i64.wrap ((t : Int) + n') = (t : Int) + n' := IntWalk.i64_in _ ⟨by omega, by omega⟩
      by_cases hbig : 64 < t + n'
      · have t5 : decide (64 < (t : Int) + n') = true := decide_eq_true (by omega)
        have HF := Lib.hid (rightA_sum (l := l) (by have := HS.out; have := HSL.out; omega))
        clear hn0 hn6 hbig
        rcases hkk with t1 | ⟨t1, t2⟩
        all_goals
          go_wp2_with fail
          go_ret
          exact ⟨ret_b HF.out.symm, b1⟩
      have t5 : decide (64 < (t : Int) + n') = false := decide_eq_false (by omega)
      rcases hkk with t1 | ⟨t1, t2⟩
      all_goals
        go_wp2_with fail
        go_roundw
        case rel => exact ⟨j + 1, t + n', by omega, by go_num, by go_num, by omega, HS, HOK, b1⟩
        case measure => simp [intOf]; omega
    · have e2 : decide ((j : Int) < n) = false := decide_eq_false (by omega)
      have HA := Lib.hid (show j = n by omega)
      by_cases h8 : n ≤ 8
      · have t6 : decide ((n : Int) ≤ 8) = true := decide_eq_true (by omega)
        have HF := Lib.hid (show rightA l = true from by
          have h1 := HN.out; have h2 := HT.out; have h3 := HO.out; have h4 := HA.out
          rw [List.take_of_length_le (by omega)] at h2 h3
          exact rightA_yes h3 (by omega) (by omega))
        clear h8
        go_wp2_with fail
        go_ret
        exact ⟨ret_b HF.out.symm, hb⟩
      · have t6 : decide ((n : Int) ≤ 8) = false := decide_eq_false (by omega)
        have HF := Lib.hid (rightA_long (l := l) (by have := HN.out; omega))
        clear h8
        go_wp2_with fail
        go_ret
        exact ⟨ret_b HF.out.symm, hb⟩
set_option maxHeartbeats 4000000 in
set_option maxRecDepth 100000 in
theorem refRight03 (A : Option Addr) (n c : Nat) (l : List Seg) (w : World) (hd : DL rSeg 2 w (Lo w) A n l) (hn : n ≤ 100000) :
    Calls Tryd.prog 20 #[.slice A n c] w fun e w' => e = .returned (.bool (rightA l)) ∧ Below w.heap.size w w' := by
  have HN := Lib.hid hd.len
  by_cases h8 : 8 < n
  · have e1 : decide (8 < (n : Int)) = true := decide_eq_true (by omega)
    have HF := Lib.hid (rightA_long (l := l) (by have := HN.out; omega))
    go_enter Tryd.func20, Tryd.ntmps20
    go_wp2_with fail
    go_ret
    exact ⟨ret_b HF.out.symm, Below.refl _ _⟩
  have e1 : decide (8 < (n : Int)) = false := decide_eq_false (by omega)
  go_enter Tryd.func20, Tryd.ntmps20
  go_wp2_with fail
  go_loopw [3, 4] (fun s i wr => ∃ j t : Nat, j ≤ n ∧ i = .int .i64 j ∧ s = .int .i64 t ∧ t ≤ 64 * j ∧ Hid (t = sumN (l.take j)) ∧ Hid ((l.take j).all okSeg = true) ∧ Below w.heap.size w wr) (fun _ i _ => n - (intOf i).toNat)
  case atStart => exact ⟨0, 0, by omega, rfl, rfl, by omega, Lib.hid (by simp [sumN]), Lib.hid (by simp), Below.refl _ _⟩
  case round =>
    obtain ⟨j, t, hj, rfl, rfl, ht, HT, HO, hb⟩ := hrel
    by_cases hlt : j < n
    · obtain ⟨x, hx⟩ := getS HN.out hlt
      have HX := Lib.hid hx
      have e2 : decide ((j : Int) < n) = true := decide_eq_true (by omega)
      have hlti : (j : Int) < n := by omega
      obtain ⟨b, off, A', n', c', rfl, hbl, k0, k1, hnf, hnc'⟩ := (hd.keep rSeg_ok (Kp.call hb)).segAt hx
      have HL := Lib.hid hnf.1
      have HST := Lib.hid (sumN_take hx)
      have HSL := Lib.hid (sumN_le l (j + 1))
      have wj : IntKind.i64.wrap ((j : Int) + 1) = (j : Int) + 1 := IntWalk.i64_in _ ⟨by omega, by omega⟩
      clear hx hnf
      obtain ⟨k, hk⟩ : ∃ k, x.1 = k := ⟨_, rfl⟩
      have HK := Lib.hid hk
      rw [hk] at k0
      try simp only [hk]
      clear hk
      by_cases hk0 : k = 1 ∨ k = 2
      case neg =>
        have t1 : (k != 1) = true := by simp; omega
        have t2 : (k != 2) = true := by simp; omega
        have HF := Lib.hid (rightA_bad HX.out (by rw [HK.out]; omega))
        go_wp2_with fail
        go_ret
        exact ⟨ret_b HF.out.symm, hb⟩
      have HK0 := Lib.hid hk0
      have hkk : (k != 1) = false ∨ ((k != 1) = true ∧ (k != 2) = false) := by
        rcases hk0 with rfl | rfl
        · left; rfl
        · right; exact ⟨rfl, rfl⟩
      clear hk0
      by_cases hn0 : n' = 0
      · have t3 : ((n' : Int) == 0) = true := by simp; omega
        have HF := Lib.hid (rightA_bad HX.out (by have := HL.out; omega))
        clear hn0
        rcases hkk with t1 | ⟨t1, t2⟩
        all_goals
          go_wp2_with fail
          go_ret
          exact ⟨ret_b HF.out.symm, hb⟩
      have t3 : ((n' : Int) == 0) = false := by simp; omega
      by_cases hn6 : 64 < n'
      · have t4 : decide (64 < (n' : Int)) = true := decide_eq_true (by omega)
        have HF := Lib.hid (rightA_bad HX.out (by have := HL.out; omega))
        clear hn0 hn6
        rcases hkk with t1 | ⟨t1, t2⟩
        all_goals
          go_wp2_with fail
          go_ret
          exact ⟨ret_b HF.out.symm, hb⟩
      have t4 : decide (64 < (n' : Int)) = false := decide_eq_false (by omega)
      have HOK := Lib.hid (okSeg_take HO.out HX.out (by have := HL.out; rw [HK.out]; exact ⟨HK0.out, by omega, by omega⟩))
      have HS := Lib.hid (show t + n' = sumN (l.take (j + 1)) by have := HT.out; have := HST.out; have := HL.out; omega)
      have wt : IntKind.i64.wrap ((t : Int) + n') = (t : Int) + n' := IntWalk.i64_in _ ⟨by omega, by omega⟩
      rcases hkk with t1 | ⟨t1, t2⟩
      all_goals
        go_wp2_with fail
        go_roundw
        case rel => exact ⟨j + 1, t + n', by omega, by go_num, by go_num, by omega, HS, HOK, hb⟩
        case measure => simp [intOf]; omega
    · have e2 : decide ((j : Int) < n) = false := decide_eq_false (by omega)
      have HA := Lib.hid (show j = n by omega)
      by_cases h64 : t ≤ 64
      · have t6 : decide ((t : Int) ≤ 64) = true := decide_eq_true (by omega)
        have HF := Lib.hid (show rightA l = true from by
          have h1 := HN.out; have h2 := HT.out; have h3 := HO.out; have h4 := HA.out
          rw [List.take_of_length_le (by omega)] at h2 h3
          exact rightA_yes h3 (by omega) (by omega))
        clear h64
        go_wp2_with fail
        go_ret
        exact ⟨ret_b HF.out.symm, hb⟩
      · have t6 : decide ((t : Int) ≤ 64) = false := decide_eq_false (by omega)
        have HF := Lib.hid (rightA_sum (l := l) (by have h1 := HN.out; have h2 := HT.out; have h4 := HA.out; rw [List.take_of_length_le (by omega)] at h2; omega))
        clear h64
        go_wp2_with fail
        go_ret
        exact ⟨ret_b HF.out.symm, hb⟩
set_option maxHeartbeats 2000000 in
set_option maxRecDepth 100000 in
theorem aspFirst (A : Option Addr) (n c : Nat) (l : List Seg) (w : World) (hd : DL rSeg 2 w (Lo w) A n l) :
    Calls Tryd.prog 30 #[.slice A n c] w fun e w' => e = .returned (.tuple #[.int .u32 (firstA l).1, .bool (firstA l).2]) ∧ Below w.heap.size w w' := by
  have hn := hd.len
  rcases l with _ | ⟨⟨k, zs⟩, l⟩
  · obtain rfl : n = 0 := hn
    go_enter Tryd.func30, Tryd.ntmps30
    go_wp2_with fail
    go_ret2
    exact ⟨rfl, Below.refl _ _⟩
  have hn1 : 0 < n := by rw [hn]; simp
  have hni : (0 : Int) < n := by omega
  clear hn
  have t0 : ((n : Int) == 0) = false := by simp; omega
  have t00 : decide ((0 : Int) < n) = true := decide_eq_true hni
  obtain ⟨b, off, A', n', c', rfl, hbl, k0, k1, hnf, hnc'⟩ := hd.segAt (j := 0) (x := (k, zs)) rfl
  rw [Nat.zero_mul, Nat.add_zero] at k0 k1
  simp only at k0 k1 hnf
  by_cases hk : k = 2
  case neg =>
    have t1 : (k != 2) = true := by simpa using hk
    have t2 : (k == 2) = false := by simpa using hk
    have HF := Lib.hid (show firstA ((k, zs) :: l) = (0, false) by
      unfold firstA
      split
      · rename_i h; injection h with h _; injection h with h _; exact absurd h hk
      · rfl)
    clear hk
    go_enter Tryd.func30, Tryd.ntmps30
    go_wp2_with fail
    go_ret2
    exact ⟨by rw [HF.out] <;> rfl, Below.refl _ _⟩
  subst hk
  rcases zs with _ | ⟨y, zs⟩
  · obtain rfl : n' = 0 := hnf.1
    go_enter Tryd.func30, Tryd.ntmps30
    go_wp2_with fail
    go_ret2
    exact ⟨rfl, Below.refl _ _⟩
  have hn2 : 0 < n' := by rw [hnf.1]; simp
  have hni2 : (0 : Int) < n' := by omega
  have t3 : ((n' : Int) == 0) = false := by simp; omega
  have t4 : decide ((0 : Int) < n') = true := decide_eq_true hni2
  obtain ⟨b2, off2, rfl, hb2, y0⟩ := hnf.at_ (j := 0) (x := y) rfl
  rw [Nat.add_zero] at y0
  go_enter Tryd.func30, Tryd.ntmps30
  go_wp2_with fail
  go_ret2
  exact ⟨rfl, Below.refl _ _⟩
set_option maxHeartbeats 2000000 in
set_option maxRecDepth 100000 in
theorem refFirst03 (A : Option Addr) (n c : Nat) (l : List Seg) (w : World) (hd : DL rSeg 2 w (Lo w) A n l) :
    Calls Tryd.prog 31 #[.slice A n c] w fun e w' => e = .returned (.tuple #[.int .u32 (firstA l).1, .bool (firstA l).2]) ∧ Below w.heap.size w w' := by
  have hn := hd.len
  rcases l with _ | ⟨⟨k, zs⟩, l⟩
  · obtain rfl : n = 0 := hn
    go_enter Tryd.func31, Tryd.ntmps31
    go_wp2_with fail
    go_ret2
    exact ⟨rfl, Below.refl _ _⟩
  have hn1 : 0 < n := by rw [hn]; simp
  have hni : (0 : Int) < n := by omega
  clear hn
  have t0 : ((n : Int) == 0) = false := by simp; omega
  have t00 : decide ((0 : Int) < n) = true := decide_eq_true hni
  obtain ⟨b, off, A', n', c', rfl, hbl, k0, k1, hnf, hnc'⟩ := hd.segAt (j := 0) (x := (k, zs)) rfl
  rw [Nat.zero_mul, Nat.add_zero] at k0 k1
  simp only at k0 k1 hnf
  by_cases hk : k = 2
  case neg =>
    have t1 : (k != 2) = true := by simpa using hk
    have t2 : (k == 2) = false := by simpa using hk
    have HF := Lib.hid (show firstA ((k, zs) :: l) = (0, false) by
      unfold firstA
      split
      · rename_i h; injection h with h _; injection h with h _; exact absurd h hk
      · rfl)
    clear hk
    go_enter Tryd.func31, Tryd.ntmps31
    go_wp2_with fail
    go_ret2
    exact ⟨by rw [HF.out] <;> rfl, Below.refl _ _⟩
  subst hk
  rcases zs with _ | ⟨y, zs⟩
  · obtain rfl : n' = 0 := hnf.1
    go_enter Tryd.func31, Tryd.ntmps31
    go_wp2_with fail
    go_ret2
    exact ⟨rfl, Below.refl _ _⟩
  have hn2 : 0 < n' := by rw [hnf.1]; simp
  have hni2 : (0 : Int) < n' := by omega
  have t3 : ((n' : Int) == 0) = false := by simp; omega
  have t4 : decide ((0 : Int) < n') = true := decide_eq_true hni2
  obtain ⟨b2, off2, rfl, hb2, y0⟩ := hnf.at_ (j := 0) (x := y) rfl
  rw [Nat.add_zero] at y0
  go_enter Tryd.func31, Tryd.ntmps31
  go_wp2_with fail
  go_ret2
  exact ⟨rfl, Below.refl _ _⟩
end Go.Proofs.YtlpkngjeihoknaaDoor
