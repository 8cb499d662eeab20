/- Walks of layer 3 (paths): all numbers of one, and whether one is there; the document's. No conditions but sizes. -/
import Derived.Test.YtlpkngjeihoknaaDoorProg
import Derived.WalkKit
import Derived.WalkSpells
import Derived.WalkLawsBesides
import Derived.Outline
import Derived.Deep.QuietTactic
import Derived.BigQuiet
import Derived.Handy
import Derived.Lib.Hide
import Derived.Test.YtlpkngjeihoknaaDoorAspB
namespace Go.Proofs.YtlpkngjeihoknaaDoor
open Go.RowKit
set_option linter.unusedSimpArgs false
set_option linter.unusedVariables false
def flatA (l : List Seg) : List Int := l.flatMap (·.2)
theorem flatA_len (l : List Seg) : (flatA l).length = sumN l := by
  induction l with
  | nil => rfl
  | cons x l ih => rw [flatA, List.flatMap_cons, List.length_append, ← flatA, ih, sumN]
theorem flatA_take {l : List Seg} {j : Nat} {x : Seg} (h : l[j]? = some x) : flatA (l.take (j + 1)) = flatA (l.take j) ++ x.2 := by
  rw [take_snoc h]; simp [flatA]
set_option maxHeartbeats 2000000 in
set_option maxRecDepth 100000 in
theorem flatSeg (k : Int) (A : Option Addr) (n c : Nat) (w : World) :
    Calls Tryd.prog 72 #[.agg #[.int .i64 k, .slice A n c]] w fun e w' => e = .returned (.slice A n c) ∧ Below w.heap.size w w' := by
  have b1 := (Below.refl w.heap.size w).alloc (Nat.le_refl _) (.cells #[.int .i64 k, .slice A n c] 73)
  have hX := Blk.new w 73 #[.int .i64 k, .slice A n c]
  have x1 := hX.cell 1
  go_enter Tryd.func72, Tryd.ntmps72
  go_wp2_with fail
  go_ret
  exact ⟨rfl, b1⟩
theorem big_fit {x y : Nat} (h : x + y ≤ big32) : x + y ≤ 35184372088832 := by unfold big32 at h; omega
set_option maxHeartbeats 2000000 in
set_option maxRecDepth 100000 in
theorem gatheredU (A : Option Addr) (n c : Nat) (l : List Seg) (w : World) (hd : DL rSeg 2 w (Lo w) A n l) (hn : n ≤ 100000) (hs : Hid (sumN l ≤ big32)) :
    Calls Tryd.prog 71 #[.slice A n c, .func (.func 72) #[] #[]] w (RetOU w (flatA l)) := by
  have HN := Lib.hid hd.len
  go_enter Tryd.func71, Tryd.ntmps71
  go_wp2_with fail
  go_loopw [5, 10] (fun s i wr => ∃ (j : Nat) (A1 : Option Addr) (n1 c1 : Nat), j ≤ n ∧ i = .int .i64 j ∧ s = .slice A1 n1 c1 ∧ OU wr w.heap.size A1 n1 c1 (flatA (l.take j)) ∧ Below w.heap.size w wr) (fun _ i _ => n - (intOf i).toNat)
  case atStart => exact ⟨0, none, 0, 0, by omega, rfl, rfl, OU.nil_, Below.refl _ _⟩
  case round =>
    obtain ⟨j, A1, n1, c1, hj, rfl, rfl, ho, hb⟩ := hrel
    by_cases hlt : j < n
    · obtain ⟨x, hx⟩ := getS HN.out hlt
      have e2 : decide ((j : Int) < n) = true := decide_eq_true (by omega)
      have hlti : (j : Int) < n := by omega
      obtain ⟨b, off, A', n', c', rfl, hbl, k0, k1, hnf, hnc'⟩ := (hd.keep rSeg_ok (Kp.call hb)).segAt hx
      have HFT := Lib.hid (flatA_take hx)
      have HLE := Lib.hid (show (flatA (l.take j)).length + x.2.length ≤ big32 by
        have h1 := sumN_take hx
        have h2 := sumN_le l (j + 1)
        have h3 := hs.out
        rw [flatA_len]
        omega)
      have wj : IntKind.i64.wrap ((j : Int) + 1) = (j : Int) + 1 := IntWalk.i64_in _ ⟨by omega, by omega⟩
      have b1 := hb.alloc hb.size (.cells #[.int .i64 x.1, .slice A' n' c'] 73)
      have hX := Blk.new wr 73 #[.int .i64 x.1, .slice A' n' c']
      have x0 := hX.cell 0
      have x1 := hX.cell 1
      have hnf1 := hnf.lt.below ((Below.refl wr.heap.size wr).alloc (Nat.le_refl _) (.cells #[.int .i64 x.1, .slice A' n' c'] 73))
      have ho1 := ho.alloc (.cells #[.int .i64 x.1, .slice A' n' c'] 73)
      clear hx hnf
      go_wp2_with fail
      refine (flatSeg x.1 A' n' c' _).mono ?_
      rintro _ w2 ⟨rfl, b2⟩
      have ho2 := ho1.call b2
      have hnf2 := (hnf1.more (by simp)).call b2
      have b02 := btr b1 b2 b1.size
      go_wp2_with (at_builtin; refine wpl_appU rfl (.tmp 14) (.tmp 17) rfl w.heap.size A1 n1 c1 (flatA (l.take j)) (by rfl) ho2 _ A' n' c' x.2 (by rfl) hnf2 (big_fit HLE.out) b02.size ?_; intro A3 n3 c3 w3 o3 b3 _)
      go_roundw
      case rel => exact ⟨j + 1, A3, n3, c3, by omega, by go_num, rfl, by rw [HFT.out]; exact o3, b02.trans b3⟩
      case measure => simp [intOf]; omega
    · have e2 : decide ((j : Int) < n) = false := decide_eq_false (by omega)
      have HF := Lib.hid (show flatA (l.take j) = flatA l by rw [List.take_of_length_le (by have := HN.out; omega)])
      go_wp2_with fail
      go_ret
      exact ⟨A1, n1, c1, rfl, by rw [← HF.out]; exact ho, hb⟩
set_option maxHeartbeats 2000000 in
set_option maxRecDepth 100000 in
theorem aspFlat (A : Option Addr) (n c : Nat) (l : List Seg) (w : World) (hd : DL rSeg 2 w (Lo w) A n l) (hn : n ≤ 100000) (hs : Hid (sumN l ≤ big32)) :
    Calls Tryd.prog 34 #[.slice A n c] w (RetOU w (flatA l)) := by
  go_enter Tryd.func34, Tryd.ntmps34
  go_wp2_with fail
  refine (gatheredU A n c l _ hd hn hs).mono ?_
  rintro _ w1 ⟨A1, n1, c1, rfl, o1, b1⟩
  go_wp2_with fail
  go_ret
  exact ⟨A1, n1, c1, rfl, o1, b1⟩
set_option maxHeartbeats 2000000 in
set_option maxRecDepth 100000 in
theorem aspHas (A : Option Addr) (n c : Nat) (l : List Seg) (x : Int) (w : World) (hd : DL rSeg 2 w (Lo w) A n l) (hn : n ≤ 100000) (hs : Hid (sumN l ≤ big32)) :
    Calls Tryd.prog 36 #[.slice A n c, .int .u32 x] w fun e w' => e = .returned (.bool (hasN (flatA l) x)) ∧ Below w.heap.size w w' := by
  have HLE := Lib.hid (show (flatA l).length ≤ 35184372088832 by have := hs.out; rw [flatA_len]; unfold big32 at this; omega)
  go_enter Tryd.func36, Tryd.ntmps36
  go_wp2_with fail
  refine (aspFlat A n c l _ hd hn hs).mono ?_
  rintro _ w1 ⟨A1, n1, c1, rfl, o1, b1⟩
  have HL1 := Lib.hid (show n1 ≤ 35184372088832 by rw [o1.1]; exact HLE.out)
  go_wp2_with fail
  refine (containsU A1 n1 c1 (flatA l) x _ _ o1.ns HL1.out).mono ?_
  rintro _ _ ⟨rfl, rfl⟩
  go_wp2_with fail
  go_ret
  exact ⟨rfl, b1⟩
set_option maxHeartbeats 4000000 in
set_option maxRecDepth 100000 in
theorem refFlat03 (A : Option Addr) (n c : Nat) (l : List Seg) (w : World) (hd : DL rSeg 2 w (Lo w) A n l) (hn : n ≤ 100000) (hs : Hid (sumN l ≤ big32)) :
    Calls Tryd.prog 35 #[.slice A n c] w (RetOU w (flatA l)) := by
  have HN := Lib.hid hd.len
  go_enter Tryd.func35, Tryd.ntmps35
  go_wp2_with fail
  go_loopw [3, 4] (fun s i wr => ∃ (j : Nat) (A1 : Option Addr) (n1 c1 : Nat), j ≤ n ∧ i = .int .i64 j ∧ s = .slice A1 n1 c1 ∧ OU wr w.heap.size A1 n1 c1 (flatA (l.take j)) ∧ Below w.heap.size w wr) (fun _ i _ => n - (intOf i).toNat)
  case atStart => exact ⟨0, none, 0, 0, by omega, rfl, rfl, OU.nil_, Below.refl _ _⟩
  case round =>
    obtain ⟨j, A1, n1, c1, hj, rfl, rfl, ho, hb⟩ := hrel
    by_cases hlt : j < n
    · obtain ⟨x, hx⟩ := getS HN.out hlt
      have HX := Lib.hid hx
      have e2 : decide ((j : Int) < n) = true := decide_eq_true (by omega)
      have hlti : (j : Int) < n := by omega
      have HFT := Lib.hid (flatA_take hx)
      have HLE := Lib.hid (show (flatA (l.take j)).length + x.2.length ≤ big32 by
        have h1 := sumN_take hx
        have h2 := sumN_le l (j + 1)
        have h3 := hs.out
        rw [flatA_len]
        omega)
      have wj : IntKind.i64.wrap ((j : Int) + 1) = (j : Int) + 1 := IntWalk.i64_in _ ⟨by omega, by omega⟩
      clear hx
      go_wp2_with fail
      go_loopw [3, 5] (fun s k wk => ∃ (i : Nat) (A2 : Option Addr) (n2 c2 : Nat), i ≤ x.2.length ∧ k = .int .i64 i ∧ s = .slice A2 n2 c2 ∧ OU wk w.heap.size A2 n2 c2 (flatA (l.take j) ++ x.2.take i) ∧ Below w.heap.size w wk) (fun _ k _ => x.2.length - (intOf k).toNat)
      case atStart => exact ⟨0, A1, n1, c1, by omega, rfl, rfl, by rw [List.take_zero, List.append_nil]; exact ho, hb⟩
      case round =>
        obtain ⟨i, A2, n2, c2, hi, rfl, rfl, ho2, hb2⟩ := hrel
        obtain ⟨b, off, A', n', c', rfl, hbl, k0, k1, hnf, hnc'⟩ := (hd.keep rSeg_ok (Kp.call hb2)).segAt HX.out
        have HL := Lib.hid hnf.1
        by_cases hik : i < n'
        · have e3 : decide ((i : Int) < n') = true := decide_eq_true (by omega)
          have hiki : (i : Int) < n' := by omega
          obtain ⟨y, hy⟩ : ∃ y, x.2[i]? = some y := ⟨_, List.getElem?_eq_getElem (by have := HL.out; omega)⟩
          obtain ⟨b2, off2, rfl, hbl2, y0⟩ := hnf.at_ hy
          have HY := Lib.hid (take_snoc hy)
          have hyw : (Lit.int .u32 y).wf = true := hnf.2.2 y (List.mem_of_getElem? hy)
          have HLI := Lib.hid (show (flatA (l.take j) ++ x.2.take i).length + [y].length ≤ 35184372088832 by
            have h1 := HLE.out
            have h2 := HL.out
            unfold big32 at h1
            rw [List.length_append, List.length_take, List.length_singleton]
            omega)
          have wi : IntKind.i64.wrap ((i : Int) + 1) = (i : Int) + 1 := IntWalk.i64_in _ ⟨by omega, by have h1 := HLE.out; have h2 := HL.out; unfold big32 at h1; omega⟩
          have ho3 := ho2.alloc (.cells #[.int .u32 y] 33)
          have b3 := hb2.alloc hb2.size (.cells #[.int .u32 y] 33)
          have HSZ := Lib.hid b3.size
          clear hy hnf
          go_wp2_with (at_builtin; refine wpl_appU rfl (.tmp 22) (.tmp 31) rfl w.heap.size A2 n2 c2 _ (by rfl) ho3 (wr.heap.size + 1) (some ⟨wr.heap.size, 0, none⟩) 1 1 [y] (by rfl) (NS.one wr hyw rfl) HLI.out HSZ.out ?_; intro A4 n4 c4 w4 o4 b4 _)
          go_roundw
          case rel => exact ⟨i + 1, A4, n4, c4, by have := HL.out; omega, by go_num, rfl, by rw [HY.out, ← List.append_assoc]; exact o4, b3.trans b4⟩
          case measure => have := HL.out; simp [intOf]; omega
        · have e3 : decide ((i : Int) < n') = false := decide_eq_false (by omega)
          have HF := Lib.hid (show flatA (l.take j) ++ x.2.take i = flatA (l.take (j + 1)) by rw [HFT.out, List.take_of_length_le (l := x.2) (by have := HL.out; omega)])
          clear hnf
          go_wp2_with fail
          go_roundw
          case rel => exact ⟨j + 1, A2, n2, c2, by omega, by go_num, rfl, by rw [← HF.out]; exact ho2, hb2⟩
          case measure => simp [intOf]; omega
    · have e2 : decide ((j : Int) < n) = false := decide_eq_false (by omega)
      have HF := Lib.hid (show flatA (l.take j) = flatA l by rw [List.take_of_length_le (by have := HN.out; omega)])
      go_wp2_with fail
      go_ret
      exact ⟨A1, n1, c1, rfl, by rw [← HF.out]; exact ho, hb⟩
set_option maxHeartbeats 2000000 in
set_option maxRecDepth 100000 in
theorem refHas03 (A : Option Addr) (n c : Nat) (l : List Seg) (x : Int) (w : World) (hd : DL rSeg 2 w (Lo w) A n l) (hn : n ≤ 100000) (hs : Hid (sumN l ≤ big32)) :
    Calls Tryd.prog 37 #[.slice A n c, .int .u32 x] w fun e w' => e = .returned (.bool (hasN (flatA l) x)) ∧ Below w.heap.size w w' := by
  have HLE := Lib.hid (show (flatA l).length ≤ big32 by have := hs.out; rw [flatA_len]; omega)
  go_enter Tryd.func37, Tryd.ntmps37
  go_wp2_with fail
  refine (refFlat03 A n c l _ hd hn hs).mono ?_
  rintro _ w1 ⟨A1, n1, c1, rfl, o1, b1⟩
  have HL1 := Lib.hid (show n1 = (flatA l).length from o1.1)
  obtain ⟨F, hF⟩ : ∃ F, flatA l = F := ⟨_, rfl⟩
  rw [hF] at o1 HL1 HLE
  have HFF := Lib.hid hF
  clear hF
  go_wp2_with fail
  go_loop [6] (fun i => ∃ j : Nat, j ≤ n1 ∧ i = .int .i64 j ∧ Hid (∀ i, i < j → F[i]?.getD 0 ≠ x)) (fun i => n1 - (intOf i).toNat)
  case atStart => exact ⟨0, by omega, rfl, Lib.hid fun i h => by omega⟩
  case round =>
    obtain ⟨j, hj, rfl, hno⟩ := hrel
    by_cases hlt : j < n1
    · obtain ⟨b, off, rfl, hbw, hcw⟩ := o1.ns.form hlt
      have hd2 : decide ((j : Int) < n1) = true := decide_eq_true (by omega)
      have hdi : (j : Int) < n1 := by omega
      have wj : IntKind.i64.wrap ((j : Int) + 1) = (j : Int) + 1 := IntWalk.i64_in _ ⟨by omega, by have h1 := HLE.out; have h2 := HL1.out; unfold big32 at h1; omega⟩
      obtain ⟨y, hy⟩ : ∃ y, F[j]?.getD 0 = y := ⟨_, rfl⟩
      rw [hy] at hcw
      have HY := Lib.hid hy
      clear hy
      by_cases e : y = x
      · have ht1 : (y == x) = true := by simpa using e
        have HG := Lib.hid (hasN_at (l := F) (c := x) (j := j) (by rw [← HL1.out]; exact hlt) (by rw [HY.out]; exact e))
        clear e
        go_wp2_with fail
        go_ret
        exact ⟨by rw [HFF.out, HG.out] <;> rfl, b1⟩
      · have ht2 : (y == x) = false := by simpa using e
        have HS := Lib.hid (step_no hno.out (by rw [HY.out]; exact e))
        clear e
        go_wp2_with fail
        go_round
        case rel => exact ⟨j + 1, by omega, by go_num, HS⟩
        case measure => simp [intOf]; omega
    · have hd2 : decide ((j : Int) < n1) = false := decide_eq_false (by omega)
      have HG := Lib.hid (hasN_no (l := F) (c := x) (fun i hi => hno.out i (by have := HL1.out; omega)))
      go_wp2_with fail
      go_ret
      exact ⟨by rw [HFF.out, HG.out] <;> rfl, b1⟩
end Go.Proofs.YtlpkngjeihoknaaDoor
