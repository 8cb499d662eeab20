/- The walk of the law FrameNobody. Conditions: the table of least lengths (LeaTab). -/
import Derived.Test.YtdcldmblgbefnaaDoorProg
import Derived.WalkKit
import Derived.WalkSpells
import Derived.WalkLawsBesides
import Derived.Outline
import Derived.Deep.QuietTactic
import Derived.BigQuiet
import Derived.Handy
import Derived.Lib.Hide
import Derived.Test.YtdcldmblgbefnaaDoorRefAll
import Derived.Test.YtdcldmblgbefnaaDoorStreamB
namespace Go.Proofs.YtdcldmblgbefnaaDoor
open Go.RowKit
theorem below_grown {B : Nat} {a b c : World} {g : Nat} (h : Below B a b) (hg : b.grownBy c (some g)) (hB : B ≤ g) (hb : B ≤ b.heap.size) : Below B a c := h.grown hg hb (fun k hk => by injection hk with hk; omega)
theorem fault_code0 (x y z : Value) (W : World) : (Instr.field 29 (.agg #[x, y, z]) 0).run Tryd.prog W = .ok x W := by kernel_rfl
theorem streamNext_any (g : Nat) (l : List UInt8) (S : Int) (D : List UInt8) (ok : Bool) (w : World) (h : SM w g l 0 S D) (ht : LeaTab w) (hl : l.length ≤ 100000) (hok : Hid (ok = decide (0 < (allF l).1.length))) :
    Calls Tryd.prog 78 #[.pointer (some ⟨g, 0, none⟩)] w fun en w' => ∃ K A n c, en = .returned (.tuple #[.int .i64 K, .slice A n c, .bool ok]) ∧ w.grownBy w' (some g) := by
  rcases nextR_cases l with hc | hc | hc
  · refine (streamNext_fault g l S D w none h ht hl hc.1).mono ?_
    rintro _ w' ⟨rfl, _, hg⟩
    rw [hok.out, allF_fault hc.1]
    exact ⟨0, none, 0, 0, rfl, hg⟩
  · refine (streamNext_none g l S D w none h ht hl hc.1 hc.2).mono ?_
    rintro _ w' ⟨rfl, _, hg⟩
    rw [hok.out, allF_none hc.1 hc.2]
    exact ⟨0, none, 0, 0, rfl, hg⟩
  · obtain ⟨m, hm⟩ := Int.eq_ofNat_of_zero_le (show 0 ≤ (nextR l).2.2.1 by omega)
    refine (streamNext_msg g l S D w none h ht hl m hm (by omega)).mono ?_
    rintro _ w' ⟨A, n, c, rfl, _, _, _, hg, _⟩
    rw [hok.out, allF_msg (by omega)]
    exact ⟨(nextR l).1, A, n, c, by simp, hg⟩
set_option maxHeartbeats 2000000 in
set_option maxRecDepth 100000 in
theorem lawFrameNobody (w : World) (A : Option Addr) (n c : Nat) (l : List UInt8) (h : BS w w.heap.size A n l) (hnc : n ≤ c) (_ : c ≤ maxLen) (ht : LeaTab w) :
    Calls Tryd.prog 21 #[.slice A n c] w fun en w' => en = .returned (.bool true) ∧ Below w.heap.size w w' := by
  by_cases hn : n ≤ 1000
  · have hni : (n : Int) ≤ 1000 := by omega
    obtain ⟨R, hR⟩ : ∃ R, allF l = R := ⟨_, rfl⟩
    have HR := Lib.hid hR
    clear hR
    have b1 := (Below.refl w.heap.size w).alloc (Nat.le_refl _) (.cells #[.slice none 0 0, .int .i64 0, .int .i64 0, .slice none 0 0] 95)
    have hS := Blk.new w 95 #[.slice none 0 0, .int .i64 0, .int .i64 0, .slice none 0 0]
    have h1 : SM (w.alloc (.cells #[.slice none 0 0, .int .i64 0, .int .i64 0, .slice none 0 0] 95)) w.heap.size [] 0 0 [] := ⟨none, 0, 0, none, 0, 0, hS, Nat.le_refl _, BS.none_, BS.none_, far_none⟩
    have hb1 := h.call b1
    have HLEN := Lib.hid (show l.length ≤ 1000 by rw [← h.len]; exact hn)
    have e4 := fault_code0 (.int .i64 0) (.int .i64 0) (.slice none 0 0)
    go_enter Tryd.func21, Tryd.ntmps21
    go_wp2_with fail
    refine (noneFeed A n c w).mono ?_
    rintro _ _ ⟨rfl, rfl⟩
    go_wp2_with fail
    refine (noneNext w).mono ?_
    rintro _ _ ⟨rfl, rfl⟩
    go_wp2_with fail
    refine (streamFeed w.heap.size [] 0 [] A n c l _ none (fun _ hk => by cases hk) h1 hb1 (by simp) (by omega)).mono ?_
    rintro _ w2 ⟨rfl, h2, g2⟩
    rw [List.nil_append] at h2
    have b2 := below_grown b1 g2 (Nat.le_refl _) b1.size
    go_wp2_with fail
    refine (refAll A n c l w2 (h.call b2) hnc (by omega)).mono ?_
    rintro _ w3 ⟨A1, n1, c1, A2, n2, c2, rfl, o1, o2, b3⟩
    rw [HR.out] at o1 o2 ⊢
    have b23 := btr b2 b3 b2.size
    have h3 := h2.call b3
    obtain ⟨ms, F, r⟩ := R
    obtain ⟨C, T, E⟩ := F
    dsimp only at o1 o2 ⊢
    have k4 := (Below.refl w3.heap.size w3).alloc (Nat.le_refl _) (.cells #[.int .i64 C, .int .i64 T, .slice A2 n2 c2] 29)
    have h4 := h3.call k4
    have b4 := btr b23 k4 b23.size
    have HN1 := Lib.hid o1.len
    clear o1
    obtain ⟨ok, hok⟩ : ∃ ok : Bool, ok = decide (0 < n1) := ⟨_, rfl⟩
    have HOK := Lib.hid (show ok = decide (0 < (allF l).1.length) by rw [hok, HR.out, HN1.out])
    have h49 := h4.lt
    obtain ⟨W, hW⟩ : ∃ W, w3.alloc (.cells #[.int .i64 C, .int .i64 T, .slice A2 n2 c2] 29) = W := ⟨_, rfl⟩
    rw [hW] at h4 b4 k4 h49
    cases ok
    · have hd : n1 = 0 := by have := hok.symm; rw [decide_eq_false_iff_not] at this; omega
      subst hd
      clear hok
      go_wp2_with fail
      try rw [hW]
      clear hW
      refine (streamNext_any w.heap.size l 0 [] false W h4 (ht.call b4) (by have := HLEN.out; omega) HOK).mono ?_
      rintro _ w5 ⟨K5, A5, n5, c5, rfl, g5⟩
      have b5 := below_grown b4 g5 (Nat.le_refl _) b4.size
      go_wp2_with (first
        | (go_at_call 81; refine (noneLeft _).mono ?_; rintro _ _ ⟨rfl, rfl⟩)
        | (go_at_call 80; refine (noneFault _).mono ?_; rintro _ w6 ⟨rfl, b6⟩; have b56 := btr b5 b6 b5.size)
        | (go_at_call 58; refine (awake07 _ (ht.call b56)).mono ?_; rintro _ w7 ⟨rfl, b7⟩; have b57 := btr b56 b7 b56.size))
      go_ret
      exact ⟨rfl, b57⟩
    · have hd : 0 < n1 := by have := hok.symm; rw [decide_eq_true_iff] at this; omega
      clear hok
      go_wp2_with fail
      try rw [hW]
      clear hW
      refine (streamNext_any w.heap.size l 0 [] true W h4 (ht.call b4) (by have := HLEN.out; omega) HOK).mono ?_
      rintro _ w5 ⟨K5, A5, n5, c5, rfl, g5⟩
      have b5 := below_grown b4 g5 (Nat.le_refl _) b4.size
      go_wp2_with (first
        | (go_at_call 81; refine (noneLeft _).mono ?_; rintro _ _ ⟨rfl, rfl⟩)
        | (go_at_call 80; refine (noneFault _).mono ?_; rintro _ w6 ⟨rfl, b6⟩; have b56 := btr b5 b6 b5.size)
        | (go_at_call 58; refine (awake07 _ (ht.call b56)).mono ?_; rintro _ w7 ⟨rfl, b7⟩; have b57 := btr b56 b7 b56.size))
      go_ret
      exact ⟨rfl, b57⟩
  · have hni : 1000 < (n : Int) := by omega
    go_enter Tryd.func21, Tryd.ntmps21
    go_wp2_with fail
    refine (awake07 _ ht).mono ?_
    rintro _ w5 ⟨rfl, b5⟩
    go_wp2_with fail
    go_ret
    exact ⟨rfl, b5⟩
end Go.Proofs.YtdcldmblgbefnaaDoor
