/- Walks of layer 6 (open): the wide number, and the document's. No conditions but sizes. -/
import Derived.Test.YthgjknmfghjioaaDoorProg
import Derived.WalkKit
import Derived.WalkSpells
import Derived.WalkLawsBesides
import Derived.Outline
import Derived.Deep.QuietTactic
import Derived.BigQuiet
import Derived.Handy
import Derived.Lib.Hide
import Derived.Deep.LoopGhost
import Derived.Test.YthgjknmfghjioaaDoorOpnE
import Derived.Test.YthgjknmfghjioaaDoorOpnF
namespace Go.Proofs.YthgjknmfghjioaaDoor
open Go.RowKit
set_option linter.unusedSimpArgs false
set_option linter.unusedVariables false
set_option maxHeartbeats 1000000 in
/-- The document's sameness of two faults. -/
theorem sameFaultO (a b a' b' : Int) (A A' : Option Addr) (n c n' c' : Nat) (l l' : List UInt8) (w : World) (h : BS w w.heap.size A n l) (h' : BS w w.heap.size A' n' l') :
    Calls Tryd.prog 7 #[.agg #[.int .i64 a, .int .i64 b, .slice A n c], .agg #[.int .i64 a', .int .i64 b', .slice A' n' c']] w fun en w' => en = .returned (.bool (a == a' && b == b' && l == l')) ∧ Below w.heap.size w w' := by
  by_cases h1 : (a == a') = true
  · by_cases h2 : (b == b') = true
    · go_enter Tryd.func7, Tryd.ntmps7
      go_wp2_with (go_at_call 21; refine (ref01Same A A' n n' c c' l l' _ _ _ ((h.alloc (Nat.le_refl _) _).alloc (by go_size) _) ((h'.alloc (Nat.le_refl _) _).alloc (by go_size) _)).mono ?_; rintro _ w1 ⟨rfl, rfl⟩)
      go_ret
      exact ⟨ret_b (by simp [h1, h2]), (by repeat' (first | (with_reducible exact Below.refl _ _) | (with_reducible assumption) | (with_reducible refine below_drewN ?_ _) | (with_reducible refine Below.drew ?_) | (with_reducible refine Below.alloc ?_ ?_ _) | (with_reducible refine Below.setCell ?_ ?_ _) | go_size))⟩
    · go_enter Tryd.func7, Tryd.ntmps7
      go_wp2
      go_ret
      exact ⟨ret_b (by simp [h1, h2]), (by repeat' (first | (with_reducible exact Below.refl _ _) | (with_reducible assumption) | (with_reducible refine below_drewN ?_ _) | (with_reducible refine Below.drew ?_) | (with_reducible refine Below.alloc ?_ ?_ _) | (with_reducible refine Below.setCell ?_ ?_ _) | go_size))⟩
  · go_enter Tryd.func7, Tryd.ntmps7
    go_wp2
    go_ret
    exact ⟨ret_b (by simp [h1]), (by repeat' (first | (with_reducible exact Below.refl _ _) | (with_reducible assumption) | (with_reducible refine below_drewN ?_ _) | (with_reducible refine Below.drew ?_) | (with_reducible refine Below.alloc ?_ ?_ _) | (with_reducible refine Below.setCell ?_ ?_ _) | go_size))⟩
def isW (c : Cap) : Bool := c.1 == 65 && decide (c.2.length = 4)
/-- The number that the first wide capability says. -/
def wideO (l : List Cap) : Nat × Bool := match l.find? isW with
  | none => (0, false)
  | some c => (numL c.2, true)
theorem wide_none {l : List Cap} {n : Nat} (hn : n = l.length) (h : ∀ i m, i < n → l[i]? = some m → isW m = false) : wideO l = (0, false) := by
  have : l.find? isW = none := List.find?_eq_none.2 fun m hm => by
    obtain ⟨j, hj⟩ := List.getElem?_of_mem hm
    rw [h j m (by rw [hn]; exact (List.getElem?_eq_some_iff.1 hj).1) hj]
    simp
  unfold wideO; rw [this]
theorem wide_some {l : List Cap} {j : Nat} {c : Cap} (hj : l[j]? = some c) (hc : isW c = true) (h : ∀ i m, i < j → l[i]? = some m → isW m = false) : wideO l = (numL c.2, true) := by
  obtain ⟨hlt, he⟩ := List.getElem?_eq_some_iff.1 hj
  have : l.find? isW = some c := List.find?_eq_some_iff_getElem.2 ⟨hc, j, hlt, he, fun i hi => by
    rw [h i l[i] hi (List.getElem?_eq_getElem (by omega))]; rfl⟩
  unfold wideO; rw [this]
theorem isW_four {c : Cap} (h : isW c = true) : c.1 = 65 ∧ c.2.length = 4 := by
  unfold isW at h
  rw [Bool.and_eq_true, decide_eq_true_eq] at h
  exact ⟨by simpa using h.1, h.2⟩
set_option maxHeartbeats 1000000 in
set_option maxRecDepth 100000 in
/-- The test that Wide hands to the library. -/
theorem wideFn (x : Cap) (A : Option Addr) (n c : Nat) (hn : n = x.2.length) (w : World) :
    Calls Tryd.prog 63 #[.agg #[.int .i64 x.1, .slice A n c]] w fun en w' => en = .returned (.bool (isW x)) ∧ Below w.heap.size w w' := by
  obtain ⟨k, data⟩ := x
  have b0 := (Below.refl w.heap.size w).alloc (Nat.le_refl _) (.cells #[.int .i64 k, .slice A n c] 85)
  have hX := Blk.new w 85 #[.int .i64 k, .slice A n c]
  simp only at hn ⊢
  have HN := Lib.hid hn
  clear hn
  by_cases h1 : k = 65
  · have t1 : (k == 65) = true := by rw [h1]; rfl
    by_cases h2 : n = 4
    · have t2 : ((n : Int) == 4) = true := by rw [h2]; rfl
      have HW := Lib.hid (show isW (k, data) = true by unfold isW; rw [t1, ← HN.out, h2]; rfl)
      clear h1 h2
      go_enter Tryd.func63, Tryd.ntmps63
      have c_hX0 := hX.cell 0
      have c_hX1 := hX.cell 1
      go_wp2_with fail
      go_ret
      exact ⟨by rw [HW.out]; rfl, b0⟩
    · have t2 : ((n : Int) == 4) = false := by simp; omega
      have HW := Lib.hid (show isW (k, data) = false by unfold isW; rw [t1, ← HN.out, decide_eq_false h2]; rfl)
      clear h1 h2
      go_enter Tryd.func63, Tryd.ntmps63
      have c_hX0 := hX.cell 0
      have c_hX1 := hX.cell 1
      go_wp2_with fail
      go_ret
      exact ⟨by rw [HW.out]; rfl, b0⟩
  · have t1 : (k == 65) = false := by simpa using h1
    have HW := Lib.hid (show isW (k, data) = false by unfold isW; rw [t1]; rfl)
    clear h1
    go_enter Tryd.func63, Tryd.ntmps63
    have c_hX0 := hX.cell 0
    have c_hX1 := hX.cell 1
    go_wp2_with fail
    go_ret
    exact ⟨by rw [HW.out]; rfl, b0⟩
set_option maxHeartbeats 2000000 in
set_option maxRecDepth 100000 in
theorem wideIdx (A : Option Addr) (n c : Nat) (l : List Cap) (w : World) (h : DL rCap 2 w (Lo w) A n l) (hn : n ≤ 100000) :
    Calls Tryd.prog 62 #[.slice A n c, .func (.func 63) #[] #[]] w fun en w' => ((en = .returned (.int .i64 (-1)) ∧ wideO l = (0, false)) ∨ ∃ (j : Nat) (x : Cap), en = .returned (.int .i64 j) ∧ l[j]? = some x ∧ isW x = true ∧ wideO l = (numL x.2, true)) ∧ Below w.heap.size w w' := by
  have HL : Hid (n = l.length) := Lib.hid h.len
  go_enter Tryd.func62, Tryd.ntmps62
  go_wp2_with fail
  go_loopw [8] (fun i wr => ∃ j : Nat, j ≤ n ∧ i = .int .i64 j ∧ Below w.heap.size w wr ∧ Hid (∀ i m, i < j → l[i]? = some m → isW m = false)) (fun i _ => n - (intOf i).toNat)
  case atStart => exact ⟨0, by omega, rfl, Below.refl _ _, Lib.hid fun i m h => by omega⟩
  case round =>
    obtain ⟨j, hj, rfl, hbw, hno⟩ := hrel
    by_cases hlt : j < n
    · obtain ⟨m, hm⟩ := getC HL.out hlt
      obtain ⟨bb, off, A', n', c', rfl, hbb, k0, k1, hbf, _⟩ := (h.keep rCap_ok ((Kp.lt hbw).trans (Kp.sub fun b hb => Nat.lt_of_lt_of_le hb hbw.size))).capAt hm
      have hbb : bb < wr.heap.size := hbb
      have hd : decide ((j : Int) < n) = true := decide_eq_true (by omega)
      have HM := Lib.hid hm
      clear hm
      cases hr : isW m
      · have HR := Lib.hid hr
        have HC := wideFn m A' n' c' hbf.1 wr
        rw [hr] at HC
        clear hr
        go_wp2_with fail
        refine HC.mono ?_
        rintro _ w1 ⟨rfl, b1⟩
        have b01 := btr hbw b1 hbw.size
        go_wp2_with fail
        go_roundw
        case rel => exact ⟨j + 1, by omega, by go_num, b01, Lib.hid fun i m' h1 h2 => by
          rcases Nat.lt_or_ge i j with h3 | h3
          · exact hno.out i m' h3 h2
          · have e : i = j := by omega
            subst e
            rw [HM.out] at h2
            injection h2 with h2
            subst h2
            exact HR.out⟩
        case measure => simp [intOf]; omega
      · have HR := Lib.hid (wide_some HM.out hr hno.out)
        have HR2 := Lib.hid hr
        have HC := wideFn m A' n' c' hbf.1 wr
        rw [hr] at HC
        clear hr
        go_wp2_with fail
        refine HC.mono ?_
        rintro _ w1 ⟨rfl, b1⟩
        have b01 := btr hbw b1 hbw.size
        go_wp2_with fail
        go_ret
        exact ⟨.inr ⟨j, m, rfl, HM.out, HR2.out, HR.out⟩, b01⟩
    · have hd : decide ((j : Int) < n) = false := decide_eq_false (by omega)
      have HR := Lib.hid (wide_none HL.out (fun i m h1 h2 => hno.out i m (by omega) h2))
      go_wp2_with fail
      go_ret
      exact ⟨.inl ⟨rfl, HR.out⟩, hbw⟩
set_option maxHeartbeats 2000000 in
set_option maxRecDepth 100000 in
theorem openWide (v a h : Int) (i : Nat) (A : Option Addr) (n c : Nat) (l : List Cap) (w : World) (hd : DL rCap 2 w (Lo w) A n l) (hn : n ≤ 100000) :
    Calls Tryd.prog 45 #[.agg #[.int .i64 v, .int .i64 a, .int .i64 h, .int .u32 i, .slice A n c]] w fun en w' => en = .returned (.tuple #[.int .u32 (wideO l).1, .bool (wideO l).2]) ∧ Below w.heap.size w w' := by
  have hX := Blk.new w 66 #[.int .i64 v, .int .i64 a, .int .i64 h, .int .u32 i, .slice A n c]
  have b0 := (Below.refl w.heap.size w).alloc (Nat.le_refl _) (.cells #[.int .i64 v, .int .i64 a, .int .i64 h, .int .u32 i, .slice A n c] 66)
  obtain ⟨W, hW⟩ : ∃ W, w.alloc (.cells #[.int .i64 v, .int .i64 a, .int .i64 h, .int .u32 i, .slice A n c] 66) = W := ⟨_, rfl⟩
  rw [hW] at hX b0
  have HW := Lib.hid hW
  clear hW
  have hD := hd.keep rCap_ok ((Kp.lt b0).trans (Kp.sub fun b hb => Nat.lt_of_lt_of_le hb b0.size))
  have HL := Lib.hid hd.len
  go_enter Tryd.func45, Tryd.ntmps45
  go_upto_region 1 with fail
  rw [HW.out]
  have c_hX4 := hX.cell 4
  go_wp2_with fail
  refine (wideIdx A n c l _ hD hn).mono ?_
  rintro _ w1 ⟨hcase, b1⟩
  rcases hcase with ⟨rfl, hw⟩ | ⟨j, x, rfl, hj, hx, hw⟩
  · have HO := Lib.hid hw
    clear hw
    clear c_hX4
    have b01 := btr b0 b1 b0.size
    have hX_1 := hX.below b1 hX.lt
    have c_hX4 := hX_1.cell 4
    go_wp2_with fail
    go_ret2
    exact ⟨by rw [HO.out]; rfl, b01⟩
  have HO := Lib.hid hw
  have hx4 := Lib.hid (isW_four hx).2
  have hjl := Lib.hid (List.getElem?_eq_some_iff.1 hj).1
  clear hw hx
  clear c_hX4
  have b01 := btr b0 b1 b0.size
  have hX_1 := hX.below b1 hX.lt
  have c_hX4 := hX_1.cell 4
  obtain ⟨bb, off, A', n', c', rfl, hbb, k0, k1, hbf, hnc'⟩ := (hD.keep rCap_ok ((Kp.lt b1).trans (Kp.sub fun b hb => Nat.lt_of_lt_of_le hb b1.size))).capAt hj
  have hbb : bb < w1.heap.size := hbb
  have hjn : j < n := by rw [HL.out]; obtain ⟨h1, _⟩ := List.getElem?_eq_some_iff.1 hj; exact h1
  have hji : (j : Int) < n := by omega
  have hj0 : decide ((j : Int) < 0) = false := decide_eq_false (by omega)
  have hbs : BS w1 w1.heap.size A' n' x.2 := hbf.bs fun _ hb => hb
  have hn4 : n' = 4 := by rw [hbf.1]; exact hx4.out
  have hHj := Lib.hid hj
  clear hj k0
  have hN4 := Lib.hid hn4
  have hn5 : n' ≤ 100000 := by omega
  clear hn4
  go_wp2_with fail
  refine (rbNew A' n' c' x.2 _ hbs (by omega)).mono ?_
  rintro _ w2 ⟨g, rfl, hg, r2, b2⟩
  clear c_hX4
  have b02 := btr b01 b2 b01.size
  have hX_2 := hX_1.below b2 hX_1.lt
  clear hX_1
  have c_hX4 := hX_2.cell 4
  clear k1
  clear c_hX4
  go_wp2_with fail
  refine (rbU32 g x.2 false _ r2 (by rw [hx4.out]; omega)).mono ?_
  rw [(tk_ok (l := x.2) (k := 4) (by rw [hx4.out]; omega)).1, List.take_of_length_le (by rw [hx4.out]; omega)]
  rintro _ w3 ⟨rfl, r3, g3⟩
  have b3 := at_below b02 g3 b02.size (by have := b02.size; have := b01.size; omega)
  go_wp2_with fail
  go_ret2
  exact ⟨by rw [HO.out]; rfl, b3⟩
end Go.Proofs.YthgjknmfghjioaaDoor
