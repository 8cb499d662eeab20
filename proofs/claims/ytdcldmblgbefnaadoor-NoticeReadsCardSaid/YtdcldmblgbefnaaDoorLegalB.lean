/- The walks of notice.Same and fsm.Legal. Conditions: the table's cells (FsmTab). -/
import Derived.Test.YtdcldmblgbefnaaDoorProg
import Derived.WalkKit
import Derived.WalkSpells
import Derived.WalkLawsBesides
import Derived.Outline
import Derived.Deep.QuietTactic
import Derived.BigQuiet
import Derived.Handy
import Derived.Lib.Hide
import Derived.Test.YtdcldmblgbefnaaDoorLegal
import Derived.Deep.RegionHeld3
namespace Go.Proofs.YtdcldmblgbefnaaDoor
open Go.RowKit
theorem keepW {w W W' : World} {x y : Value} {p q : Addr} (hp : p.block < w.heap.size) (hq : q.block < w.heap.size) (hb : Below W.heap.size W W') (h : Below w.heap.size w W ∧ W.cell? p = some x ∧ W.cell? q = some y) :
    Below w.heap.size w W' ∧ W'.cell? p = some x ∧ W'.cell? q = some y :=
  ⟨btr h.1 hb h.1.size, (hb.cell (Nat.lt_of_lt_of_le hp h.1.size)).trans h.2.1, (hb.cell (Nat.lt_of_lt_of_le hq h.1.size)).trans h.2.2⟩
theorem keepW4 {w W W' : World} {x y z u : Value} {p q r s : Addr} (hp : p.block < w.heap.size) (hq : q.block < w.heap.size) (hr : r.block < w.heap.size) (hs : s.block < w.heap.size) (hb : Below W.heap.size W W') (h : Below w.heap.size w W ∧ W.cell? p = some x ∧ W.cell? q = some y ∧ W.cell? r = some z ∧ W.cell? s = some u) :
    Below w.heap.size w W' ∧ W'.cell? p = some x ∧ W'.cell? q = some y ∧ W'.cell? r = some z ∧ W'.cell? s = some u :=
  ⟨btr h.1 hb h.1.size, (hb.cell (Nat.lt_of_lt_of_le hp h.1.size)).trans h.2.1, (hb.cell (Nat.lt_of_lt_of_le hq h.1.size)).trans h.2.2.1, (hb.cell (Nat.lt_of_lt_of_le hr h.1.size)).trans h.2.2.2.1, (hb.cell (Nat.lt_of_lt_of_le hs h.1.size)).trans h.2.2.2.2⟩
set_option maxHeartbeats 1000000 in
theorem noticeSame (a b a' b' : Int) (A A' : Option Addr) (n c n' c' : Nat) (l l' : List UInt8) (w : World) (h : BS w w.heap.size A n l) (h' : BS w w.heap.size A' n' l') (hn : n ≤ 100000) :
    Calls Tryd.prog 83 #[.agg #[.int .i64 a, .int .i64 b, .slice A n c], .agg #[.int .i64 a', .int .i64 b', .slice A' n' c']] w fun en w' => en = .returned (.bool (a == a' && b == b' && l == l')) ∧ Below w.heap.size w w' := by
  by_cases h1 : (a == a') = true
  · by_cases h2 : (b == b') = true
    · go_enter Tryd.func83, Tryd.ntmps83
      go_wp2_with (go_at_call 99; refine (slicesEqualB A A' n n' c c' l l' _ _ _ ((h.alloc (Nat.le_refl _) _).alloc (by go_size) _) ((h'.alloc (Nat.le_refl _) _).alloc (by go_size) _) hn).mono ?_; rintro _ _ ⟨rfl, q, rfl⟩)
      go_ret
      exact ⟨ret_b (by simp [h1, h2]), (by repeat' (first | (with_reducible exact Below.refl _ _) | (with_reducible assumption) | (with_reducible refine below_drewN ?_ _) | (with_reducible refine Below.drew ?_) | (with_reducible refine Below.alloc ?_ ?_ _) | (with_reducible refine Below.setCell ?_ ?_ _) | go_size))⟩
    · go_enter Tryd.func83, Tryd.ntmps83
      go_wp2
      go_ret
      exact ⟨ret_b (by simp [h1, h2]), (by repeat' (first | (with_reducible exact Below.refl _ _) | (with_reducible assumption) | (with_reducible refine below_drewN ?_ _) | (with_reducible refine Below.drew ?_) | (with_reducible refine Below.alloc ?_ ?_ _) | (with_reducible refine Below.setCell ?_ ?_ _) | go_size))⟩
  · go_enter Tryd.func83, Tryd.ntmps83
    go_wp2
    go_ret
    exact ⟨ret_b (by simp [h1]), (by repeat' (first | (with_reducible exact Below.refl _ _) | (with_reducible assumption) | (with_reducible refine below_drewN ?_ _) | (with_reducible refine Below.drew ?_) | (with_reducible refine Below.alloc ?_ ?_ _) | (with_reducible refine Below.setCell ?_ ?_ _) | go_size))⟩
theorem Reads.alloc' {w : World} {A : Option Addr} {n : Nat} {xs : List Value} (h : Reads w w.heap.size 1 A n xs) (o : Obj) : Reads (w.alloc o) (w.alloc o).heap.size 1 A n xs := (h.alloc (Nat.le_refl _) o).more (by simp)
theorem Reads.call {w w' : World} {A : Option Addr} {n : Nat} {xs : List Value} (h : Reads w w.heap.size 1 A n xs) (hb : Below w.heap.size w w') : Reads w' w'.heap.size 1 A n xs := (h.below hb).more hb.size
section
variable (w : World) (e f t a b : Int) (S A : Option Addr) (sn sc n c : Nat) (sl : List Int) (l : List UInt8)
set_option maxHeartbeats 1000000 in
set_option maxRecDepth 100000 in
theorem fsmLegal_out (h : f < 0 ∨ 5 < f ∨ e < 0 ∨ 15 < e) :
    Calls Tryd.prog 45 #[.agg #[.int .i64 e, .int .i64 f, .int .i64 t, .slice S sn sc, .int .i64 a, .int .i64 b, .slice A n c]] w fun en w' => en = .returned (.bool false) ∧ Below w.heap.size w w' := by
  by_cases h1 : f < 0
  · go_enter Tryd.func45, Tryd.ntmps45
    go_wp2_with fail
    go_ret
    exact ⟨rfl, (by repeat' (first | (with_reducible exact Below.refl _ _) | (with_reducible assumption) | (with_reducible refine below_drewN ?_ _) | (with_reducible refine Below.drew ?_) | (with_reducible refine Below.alloc ?_ ?_ _) | (with_reducible refine Below.setCell ?_ ?_ _) | go_size))⟩
  by_cases h2 : 5 < f
  · go_enter Tryd.func45, Tryd.ntmps45
    go_wp2_with fail
    go_ret
    exact ⟨rfl, (by repeat' (first | (with_reducible exact Below.refl _ _) | (with_reducible assumption) | (with_reducible refine below_drewN ?_ _) | (with_reducible refine Below.drew ?_) | (with_reducible refine Below.alloc ?_ ?_ _) | (with_reducible refine Below.setCell ?_ ?_ _) | go_size))⟩
  by_cases h3 : e < 0
  · go_enter Tryd.func45, Tryd.ntmps45
    go_wp2_with fail
    go_ret
    exact ⟨rfl, (by repeat' (first | (with_reducible exact Below.refl _ _) | (with_reducible assumption) | (with_reducible refine below_drewN ?_ _) | (with_reducible refine Below.drew ?_) | (with_reducible refine Below.alloc ?_ ?_ _) | (with_reducible refine Below.setCell ?_ ?_ _) | go_size))⟩
  have h4 : 15 < e := by omega
  go_enter Tryd.func45, Tryd.ntmps45
  go_wp2_with fail
  go_ret
  exact ⟨rfl, (by repeat' (first | (with_reducible exact Below.refl _ _) | (with_reducible assumption) | (with_reducible refine below_drewN ?_ _) | (with_reducible refine Below.drew ?_) | (with_reducible refine Below.alloc ?_ ?_ _) | (with_reducible refine Below.setCell ?_ ?_ _) | go_size))⟩
set_option maxHeartbeats 1000000 in
set_option maxRecDepth 100000 in
theorem fsmLegal_in (ht : FsmTab w) (hS : Reads w w.heap.size 1 S sn (iv sl)) (h : BS w w.heap.size A n l) (hsn : sn ≤ 10) (hn : n ≤ 500) (h0 : 0 ≤ f) (h1 : f < 6) (h2 : 0 ≤ e) (h3 : e < 16)
    (T D : Int) (x y z : Bool) (hT : fsmTo f e = T) (hD : fsmDo f e = D) (hx : (bits .and .i64 D 4 != 0) = x) (hy : (bits .and .i64 D 8 != 0) = y) (hz : (bits .and .i64 D 16 != 0) = z) (hz' : (bits .and .i64 D 16 == 0) = !z)
    (a' b' : Int) (A' : Option Addr) (n' c' : Nat) (l' : List UInt8) (hF : Hid (fsmFault e (.agg #[.int .i64 a, .int .i64 b, .slice A n c]) = .agg #[.int .i64 a', .int .i64 b', .slice A' n' c'])) (h' : BS w w.heap.size A' n' l') :
    Calls Tryd.prog 45 #[.agg #[.int .i64 e, .int .i64 f, .int .i64 t, .slice S sn sc, .int .i64 a, .int .i64 b, .slice A n c]] w fun en w' =>
      en = .returned (.bool (t == T && (sl == sentB x y z && (if z then a == a' && b == b' && l == l' else a == 0)))) ∧ Below w.heap.size w w' := by
  have b0 := (Below.refl w.heap.size w).alloc (Nat.le_refl _) (.cells #[.int .i64 e, .int .i64 f, .int .i64 t, .slice S sn sc, .int .i64 a, .int .i64 b, .slice A n c] 47)
  obtain ⟨E, hE⟩ : ∃ E, (sl == sentB x y z) = E := ⟨_, rfl⟩
  rw [hE]
  have HE := Lib.hid hE
  clear hE
  by_cases h5 : t = T
  · have h6 : (t != T) = false := by simpa using h5
    have h7 : (t == T) = true := by simpa using h5
    rw [h7]
    clear h5
    go_enter Tryd.func45, Tryd.ntmps45
    go_wp2_with fail
    refine (fsmStep f e _ (ht.below b0)).mono ?_
    rw [hT, hD]
    rintro _ w1 ⟨rfl, b1⟩
    have hB1 := (Blk.new w 47 #[.int .i64 e, .int .i64 f, .int .i64 t, .slice S sn sc, .int .i64 a, .int .i64 b, .slice A n c]).below b1 (by simp)
    have hgl := hB1.lt
    have hc2 := hB1.cell 2
    have hc3 := hB1.cell 3
    have b01 := btr b0 b1 (by simp)
    go_wp2_with fail
    go_region_held3 (fun w' => Below w1.heap.size w1 w' ∧ w'.cell? ⟨w.heap.size, 2, none⟩ = some (.int .i64 t) ∧ w'.cell? ⟨w.heap.size, 3, none⟩ = some (.slice S sn sc))
      (first | (with_reducible apply keepW hgl hgl <;> with_reducible assumption) | ((repeat' apply And.intro) <;> first | (with_reducible exact Below.drew (Below.refl _ _)) | go_keep))
      (first
        | (go_at_call 90; refine (fsmSent D x y z hx hy hz _).mono ?_; rintro _ w2 ⟨A2, n2, c2, rfl, o2, b2⟩)
        | (go_at_call 89; refine (slicesEqualI S A2 sn n2 sc c2 sl _ _ _ _ ((hS.call b01).call (And.left (by with_reducible assumption))) o2.reads (by omega)).mono ?_; rw [HE.out]; rintro _ _ ⟨rfl, q, rfl⟩; have b3 := below_drewN (Below.refl w2.heap.size w2) q))
    have k3 : Below w1.heap.size w1 (w2.drewN q) := And.left (by with_reducible assumption)
    have hB3 := hB1.below k3 hgl
    have e0 : w2.cell? ⟨w.heap.size, 0, none⟩ = some (.int .i64 e) := hB3.cell 0
    have e4 : w2.cell? ⟨w.heap.size, 4, none⟩ = some (.int .i64 a) := hB3.cell 4
    have e5 : w2.cell? ⟨w.heap.size, 5, none⟩ = some (.int .i64 b) := hB3.cell 5
    have e6 : w2.cell? ⟨w.heap.size, 6, none⟩ = some (.slice A n c) := hB3.cell 6
    have b03 := btr b01 k3 b01.size
    have hg3 : w.heap.size < w2.heap.size := hB3.lt
    have b02 : Below w.heap.size w w2 := ⟨b03.os, b03.tape, b03.output, b03.size, b03.block⟩
    cases E
    · go_wp2_with fail
      all_goals
        go_ret
        exact ⟨ret_b (by simp), b03⟩
    · cases z
      · go_wp2_with fail
        all_goals
          go_ret
          exact ⟨ret_b (by simp), b03⟩
      · go_wp2_with fail
        go_region_held3 (fun w' => Below w2.heap.size w2 w' ∧ w'.cell? ⟨w.heap.size, 0, none⟩ = some (.int .i64 e) ∧ w'.cell? ⟨w.heap.size, 4, none⟩ = some (.int .i64 a) ∧ w'.cell? ⟨w.heap.size, 5, none⟩ = some (.int .i64 b) ∧ w'.cell? ⟨w.heap.size, 6, none⟩ = some (.slice A n c))
          (first | (refine keepW4 hg3 hg3 hg3 hg3 b5 ?_; assumption) | (refine keepW4 hg3 hg3 hg3 hg3 b4 ?_; assumption) | ((repeat' apply And.intro) <;> first | (with_reducible exact Below.drew (below_drewN (Below.refl _ _) _)) | go_keep))
          (first
            | (go_at_call 29; refine (fsmFault_any e a b A n c _).mono ?_; rw [hF.out]; rintro _ w4 ⟨rfl, b4⟩)
            | (go_at_call 83; refine (noticeSame a b a' b' A A' n c n' c' l l' _ ((h.call b02).call (And.left (by with_reducible assumption))) ((h'.call b02).call (And.left (by with_reducible assumption))) (by omega)).mono ?_; rintro _ w5 ⟨rfl, b5⟩))
        all_goals
          try go_wp2_with fail
          go_ret
          exact ⟨ret_b (by simp), btr b02 (And.left (by with_reducible assumption)) b02.size⟩
  · have h6 : (t != T) = true := by simpa using h5
    have h7 : (t == T) = false := by simpa using h5
    rw [h7]
    clear h5
    go_enter Tryd.func45, Tryd.ntmps45
    go_wp2_with fail
    refine (fsmStep f e _ (ht.below b0)).mono ?_
    rw [hT, hD]
    rintro _ w1 ⟨rfl, b1⟩
    have hB1 := (Blk.new w 47 #[.int .i64 e, .int .i64 f, .int .i64 t, .slice S sn sc, .int .i64 a, .int .i64 b, .slice A n c]).below b1 (by simp)
    have hgl := hB1.lt
    have hc2 := hB1.cell 2
    have hc3 := hB1.cell 3
    have b01 := btr b0 b1 (by simp)
    go_wp2_with fail
    go_quiet (fail)
    go_wp2_with fail
    all_goals
      go_ret
      exact ⟨rfl, below_drewN b01 _⟩
end
end Go.Proofs.YtdcldmblgbefnaaDoor
