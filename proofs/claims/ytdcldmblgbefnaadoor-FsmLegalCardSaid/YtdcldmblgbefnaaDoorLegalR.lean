/- The walk of the document's Legal. No conditions but sizes. -/
import Derived.Test.YtdcldmblgbefnaaDoorProg
import Derived.WalkKit
import Derived.WalkSpells
import Derived.WalkLawsBesides
import Derived.Outline
import Derived.Deep.QuietTactic
import Derived.BigQuiet
import Derived.Handy
import Derived.Lib.Hide
import Derived.Test.YtdcldmblgbefnaaDoorLegalB
namespace Go.Proofs.YtdcldmblgbefnaaDoor
open Go.RowKit
set_option maxHeartbeats 1000000 in
set_option maxRecDepth 100000 in
theorem refHas (n b : Int) (h0 : 0 ≤ n) (h1 : n ≤ 65535) (hb : b = 4 ∨ b = 8 ∨ b = 16) (x : Bool) (hx : ((n / b) % 2 == 1) = x) (w : World) : Calls Tryd.prog 91 #[.int .i64 n, .int .i64 b] w fun en w' => en = .returned (.bool x) ∧ w = w' := by
  rcases hb with rfl | rfl | rfl
  all_goals
    go_enter Tryd.func91, Tryd.ntmps91
    go_wp2_with fail
    go_ret
    refine ⟨ret_b ?_, rfl⟩
    rw [← hx]
section
variable (w : World) (e f t a b : Int) (S A : Option Addr) (sn sc n c : Nat) (sl : List Int) (l : List UInt8)
set_option maxHeartbeats 1000000 in
set_option maxRecDepth 100000 in
theorem refLegal_out (h : f < 0 ∨ 5 < f ∨ e < 0 ∨ 15 < e) :
    Calls Tryd.prog 46 #[.agg #[.int .i64 e, .int .i64 f, .int .i64 t, .slice S sn sc, .int .i64 a, .int .i64 b, .slice A n c]] w fun en w' => en = .returned (.bool false) ∧ Below w.heap.size w w' := by
  by_cases h1 : f < 0
  · go_enter Tryd.func46, Tryd.ntmps46
    go_wp2_with fail
    go_ret
    exact ⟨rfl, (by repeat' (first | (with_reducible exact Below.refl _ _) | (with_reducible assumption) | (with_reducible refine below_drewN ?_ _) | (with_reducible refine Below.drew ?_) | (with_reducible refine Below.alloc ?_ ?_ _) | (with_reducible refine Below.setCell ?_ ?_ _) | go_size))⟩
  by_cases h2 : 5 < f
  · go_enter Tryd.func46, Tryd.ntmps46
    go_wp2_with fail
    go_ret
    exact ⟨rfl, (by repeat' (first | (with_reducible exact Below.refl _ _) | (with_reducible assumption) | (with_reducible refine below_drewN ?_ _) | (with_reducible refine Below.drew ?_) | (with_reducible refine Below.alloc ?_ ?_ _) | (with_reducible refine Below.setCell ?_ ?_ _) | go_size))⟩
  by_cases h3 : e < 0
  · go_enter Tryd.func46, Tryd.ntmps46
    go_wp2_with fail
    go_ret
    exact ⟨rfl, (by repeat' (first | (with_reducible exact Below.refl _ _) | (with_reducible assumption) | (with_reducible refine below_drewN ?_ _) | (with_reducible refine Below.drew ?_) | (with_reducible refine Below.alloc ?_ ?_ _) | (with_reducible refine Below.setCell ?_ ?_ _) | go_size))⟩
  have h4 : 15 < e := by omega
  go_enter Tryd.func46, Tryd.ntmps46
  go_wp2_with fail
  go_ret
  exact ⟨rfl, (by repeat' (first | (with_reducible exact Below.refl _ _) | (with_reducible assumption) | (with_reducible refine below_drewN ?_ _) | (with_reducible refine Below.drew ?_) | (with_reducible refine Below.alloc ?_ ?_ _) | (with_reducible refine Below.setCell ?_ ?_ _) | go_size))⟩
set_option maxHeartbeats 1000000 in
set_option maxRecDepth 100000 in
theorem refLegal_in (hS : Reads w w.heap.size 1 S sn (iv sl)) (h : BS w w.heap.size A n l) (hsn : sn ≤ 10) (_ : n ≤ 500) (h0 : 0 ≤ f) (h1 : f < 6) (h2 : 0 ≤ e) (h3 : e < 16)
    (T D : Int) (x y z : Bool) (hT : fsmTo f e = T) (hD : fsmDo f e = D) (hD0 : 0 ≤ D) (hD1 : D ≤ 65535) (hx : ((D / 4) % 2 == 1) = x) (hy : ((D / 8) % 2 == 1) = y) (hz : ((D / 16) % 2 == 1) = z)
    (hone : (x = false ∧ y = false ∧ z = false) ∨ (x = true ∧ y = false ∧ z = false) ∨ (x = false ∧ y = true ∧ z = false) ∨ (x = false ∧ y = false ∧ z = true))
    (a' b' : Int) (A' : Option Addr) (n' c' : Nat) (l' : List UInt8) (hF : Hid (fsmFault e (.agg #[.int .i64 a, .int .i64 b, .slice A n c]) = .agg #[.int .i64 a', .int .i64 b', .slice A' n' c'])) (h' : BS w w.heap.size A' n' l') :
    Calls Tryd.prog 46 #[.agg #[.int .i64 e, .int .i64 f, .int .i64 t, .slice S sn sc, .int .i64 a, .int .i64 b, .slice A n c]] w fun en w' =>
      en = .returned (.bool (t == T && (sl == sentB x y z && (if z then a == a' && b == b' && l == l' else a == 0)))) ∧ Below w.heap.size w w' := by
  have b0 := (Below.refl w.heap.size w).alloc (Nat.le_refl _) (.cells #[.int .i64 e, .int .i64 f, .int .i64 t, .slice S sn sc, .int .i64 a, .int .i64 b, .slice A n c] 47)
  have HSL := Lib.hid (show sn = sl.length by have := hS.1; rw [iv_length] at this; omega)
  rcases hone with ⟨rfl, rfl, rfl⟩ | ⟨rfl, rfl, rfl⟩ | ⟨rfl, rfl, rfl⟩ | ⟨rfl, rfl, rfl⟩
  · by_cases h5 : t = T
    · have h6 : (t != T) = false := by simpa using h5
      have h7 : (t == T) = true := by simpa using h5
      rw [h7]
      clear h5
      by_cases h8 : sn = 0
      · subst h8
        obtain rfl : sl = [] := List.eq_nil_of_length_eq_zero HSL.out.symm
        go_enter Tryd.func46, Tryd.ntmps46
        go_wp2_with fail
        refine (refStep f e _).mono ?_
        rw [hT, hD]
        rintro _ w1 ⟨rfl, b1⟩
        have hB1 := (Blk.new w 47 #[.int .i64 e, .int .i64 f, .int .i64 t, .slice S 0 sc, .int .i64 a, .int .i64 b, .slice A n c]).below b1 (by simp)
        have hgl := hB1.lt
        have hc2 := hB1.cell 2
        have hc3 := hB1.cell 3
        have b01 := btr b0 b1 (by simp)
        have hc0 := hB1.cell 0
        have hc4 := hB1.cell 4
        have hc5 := hB1.cell 5
        have hc6 := hB1.cell 6
        go_wp2_with fail
        refine (refHas D 4 hD0 hD1 (.inl rfl) _ hx _).mono ?_
        rintro _ _ ⟨rfl, rfl⟩
        go_wp2_with fail
        refine (refHas D 8 hD0 hD1 (.inr (.inl rfl)) _ hy _).mono ?_
        rintro _ _ ⟨rfl, rfl⟩
        go_wp2_with fail
        refine (refHas D 16 hD0 hD1 (.inr (.inr rfl)) _ hz _).mono ?_
        rintro _ _ ⟨rfl, rfl⟩
        go_wp2_with fail
        refine wp_loop_rounds 1 ?_
        rw [rounds_succ]
        go_wp2_with fail
        refine (refHas D 16 hD0 hD1 (.inr (.inr rfl)) _ hz _).mono ?_
        rintro _ _ ⟨rfl, rfl⟩
        go_wp2_with fail
        all_goals
          go_ret
          exact ⟨ret_b (by simp [sentB]), b01⟩
      · have h9 : ((0 : Int) != sn) = true := by simpa using (by omega : ¬ (0 : Int) = sn)
        have h10 : (sl == sentB false false false) = false := beq_eq_false_iff_ne.2 fun hh => h8 (by rw [HSL.out, hh]; rfl)
        rw [h10]
        have h8' : ¬ (0 : Int) = sn := by omega
        go_enter Tryd.func46, Tryd.ntmps46
        go_wp2_with fail
        refine (refStep f e _).mono ?_
        rw [hT, hD]
        rintro _ w1 ⟨rfl, b1⟩
        have hB1 := (Blk.new w 47 #[.int .i64 e, .int .i64 f, .int .i64 t, .slice S sn sc, .int .i64 a, .int .i64 b, .slice A n c]).below b1 (by simp)
        have hgl := hB1.lt
        have hc2 := hB1.cell 2
        have hc3 := hB1.cell 3
        have b01 := btr b0 b1 (by simp)
        have hc0 := hB1.cell 0
        have hc4 := hB1.cell 4
        have hc5 := hB1.cell 5
        have hc6 := hB1.cell 6
        go_wp2_with fail
        refine (refHas D 4 hD0 hD1 (.inl rfl) _ hx _).mono ?_
        rintro _ _ ⟨rfl, rfl⟩
        go_wp2_with fail
        refine (refHas D 8 hD0 hD1 (.inr (.inl rfl)) _ hy _).mono ?_
        rintro _ _ ⟨rfl, rfl⟩
        go_wp2_with fail
        refine (refHas D 16 hD0 hD1 (.inr (.inr rfl)) _ hz _).mono ?_
        rintro _ _ ⟨rfl, rfl⟩
        go_wp2_with fail
        all_goals
          go_ret
          exact ⟨ret_b (by simp [*]), b01⟩
    · have h6 : (t != T) = true := by simpa using h5
      have h7 : (t == T) = false := by simpa using h5
      rw [h7]
      clear h5
      go_enter Tryd.func46, Tryd.ntmps46
      go_wp2_with fail
      refine (refStep f e _).mono ?_
      rw [hT, hD]
      rintro _ w1 ⟨rfl, b1⟩
      have hB1 := (Blk.new w 47 #[.int .i64 e, .int .i64 f, .int .i64 t, .slice S sn sc, .int .i64 a, .int .i64 b, .slice A n c]).below b1 (by simp)
      have hgl := hB1.lt
      have hc2 := hB1.cell 2
      have hc3 := hB1.cell 3
      have b01 := btr b0 b1 (by simp)
      have hc0 := hB1.cell 0
      have hc4 := hB1.cell 4
      have hc5 := hB1.cell 5
      have hc6 := hB1.cell 6
      go_wp2_with fail
      refine (refHas D 4 hD0 hD1 (.inl rfl) _ hx _).mono ?_
      rintro _ _ ⟨rfl, rfl⟩
      go_wp2_with fail
      refine (refHas D 8 hD0 hD1 (.inr (.inl rfl)) _ hy _).mono ?_
      rintro _ _ ⟨rfl, rfl⟩
      go_wp2_with fail
      refine (refHas D 16 hD0 hD1 (.inr (.inr rfl)) _ hz _).mono ?_
      rintro _ _ ⟨rfl, rfl⟩
      go_wp2_with fail
      all_goals
        go_ret
        exact ⟨ret_b (by simp [*]), b01⟩
  · by_cases h5 : t = T
    · have h6 : (t != T) = false := by simpa using h5
      have h7 : (t == T) = true := by simpa using h5
      rw [h7]
      clear h5
      by_cases h8 : sn = 1
      · subst h8
        obtain ⟨s0, rfl⟩ : ∃ s0, sl = [s0] := List.length_eq_one_iff.1 HSL.out.symm
        obtain ⟨bS, oS, rfl, hbS, hcS⟩ := hS.formI (j := 0) (by omega)
        have hcS : w.cell? ⟨bS, oS, none⟩ = some (.int .i64 s0) := hcS
        by_cases h11 : s0 = 1
        · subst h11
          go_enter Tryd.func46, Tryd.ntmps46
          go_wp2_with fail
          refine (refStep f e _).mono ?_
          rw [hT, hD]
          rintro _ w1 ⟨rfl, b1⟩
          have hB1 := (Blk.new w 47 #[.int .i64 e, .int .i64 f, .int .i64 t, .slice (some ⟨bS, oS, none⟩) 1 sc, .int .i64 a, .int .i64 b, .slice A n c]).below b1 (by simp)
          have hgl := hB1.lt
          have hc2 := hB1.cell 2
          have hc3 := hB1.cell 3
          have b01 := btr b0 b1 (by simp)
          go_wp2_with fail
          refine (refHas D 4 hD0 hD1 (.inl rfl) _ hx _).mono ?_
          rintro _ _ ⟨rfl, rfl⟩
          go_wp2_with (at_builtin; refine wpl_appI rfl (.tmp 35) (.tmp 36) rfl w1.heap.size none 0 0 [] (by rfl) OI.nil_ (w1.heap.size + 1) (some ⟨w1.heap.size, 0, none⟩) 1 1 [1] (by rfl) (Reads.oneI' _ _ _ rfl) (by simp) (by simp) ?_; intro A2 n2 c2 w2 o2 b2; have b12 := ((Below.refl w1.heap.size w1).alloc (Nat.le_refl _) (.cells #[.int .i64 1] 3)).trans b2; have hB2 := hB1.below b12 hgl; have hb2l := hB2.lt; have b02 := btr b01 b12 b01.size; have hc0 := hB2.cell 0; have hc2 := hB2.cell 2; have hc3 := hB2.cell 3; have hc4 := hB2.cell 4; have hc5 := hB2.cell 5; have hc6 := hB2.cell 6; obtain rfl : n2 = 1 := o2.1; obtain ⟨bA, oA, rfl, hbA, hcA⟩ := o2.reads.formI (j := 0) (by omega); have hcA : w2.cell? ⟨bA, oA, none⟩ = some (.int .i64 1) := hcA; have hcS2 := (b02.cell (p := ⟨bS, oS, none⟩) hbS).trans hcS)
          refine (refHas D 8 hD0 hD1 (.inr (.inl rfl)) _ hy _).mono ?_
          rintro _ _ ⟨rfl, rfl⟩
          go_wp2_with fail
          refine (refHas D 16 hD0 hD1 (.inr (.inr rfl)) _ hz _).mono ?_
          rintro _ _ ⟨rfl, rfl⟩
          go_wp2_with fail
          refine wp_loop_rounds 2 ?_
          rw [rounds_succ]
          go_wp2_with fail
          go_quiet (fail)
          go_wp2_with fail
          rw [rounds_succ]
          go_wp2_with fail
          refine (refHas D 16 hD0 hD1 (.inr (.inr rfl)) _ hz _).mono ?_
          rintro _ _ ⟨rfl, rfl⟩
          go_wp2_with fail
          all_goals
            go_ret
            exact ⟨ret_b (by simp [sentB]), below_drewN b02 _⟩
        · have h12 : (1 != s0) = true := by simpa using (Ne.symm h11)
          have h12' : ((1 : Int) != s0) = true := h12
          have h13 : (([s0] : List Int) == sentB true false false) = false := beq_eq_false_iff_ne.2 fun hh => h11 (by simpa [sentB] using hh)
          rw [h13]
          clear h13
          go_enter Tryd.func46, Tryd.ntmps46
          go_wp2_with fail
          refine (refStep f e _).mono ?_
          rw [hT, hD]
          rintro _ w1 ⟨rfl, b1⟩
          have hB1 := (Blk.new w 47 #[.int .i64 e, .int .i64 f, .int .i64 t, .slice (some ⟨bS, oS, none⟩) 1 sc, .int .i64 a, .int .i64 b, .slice A n c]).below b1 (by simp)
          have hgl := hB1.lt
          have hc2 := hB1.cell 2
          have hc3 := hB1.cell 3
          have b01 := btr b0 b1 (by simp)
          go_wp2_with fail
          refine (refHas D 4 hD0 hD1 (.inl rfl) _ hx _).mono ?_
          rintro _ _ ⟨rfl, rfl⟩
          go_wp2_with (at_builtin; refine wpl_appI rfl (.tmp 35) (.tmp 36) rfl w1.heap.size none 0 0 [] (by rfl) OI.nil_ (w1.heap.size + 1) (some ⟨w1.heap.size, 0, none⟩) 1 1 [1] (by rfl) (Reads.oneI' _ _ _ rfl) (by simp) (by simp) ?_; intro A2 n2 c2 w2 o2 b2; have b12 := ((Below.refl w1.heap.size w1).alloc (Nat.le_refl _) (.cells #[.int .i64 1] 3)).trans b2; have hB2 := hB1.below b12 hgl; have hb2l := hB2.lt; have b02 := btr b01 b12 b01.size; have hc0 := hB2.cell 0; have hc2 := hB2.cell 2; have hc3 := hB2.cell 3; have hc4 := hB2.cell 4; have hc5 := hB2.cell 5; have hc6 := hB2.cell 6; obtain rfl : n2 = 1 := o2.1; obtain ⟨bA, oA, rfl, hbA, hcA⟩ := o2.reads.formI (j := 0) (by omega); have hcA : w2.cell? ⟨bA, oA, none⟩ = some (.int .i64 1) := hcA; have hcS2 := (b02.cell (p := ⟨bS, oS, none⟩) hbS).trans hcS)
          refine (refHas D 8 hD0 hD1 (.inr (.inl rfl)) _ hy _).mono ?_
          rintro _ _ ⟨rfl, rfl⟩
          go_wp2_with fail
          refine (refHas D 16 hD0 hD1 (.inr (.inr rfl)) _ hz _).mono ?_
          rintro _ _ ⟨rfl, rfl⟩
          go_wp2_with fail
          refine wp_loop_rounds 2 ?_
          rw [rounds_succ]
          go_wp2_with fail
          go_quiet (fail)
          go_wp2_with fail
          all_goals
            go_ret
            exact ⟨ret_b (by simp), below_drewN b02 _⟩
      · have h9 : ((1 : Int) != sn) = true := by simpa using (by omega : ¬ (1 : Int) = sn)
        have h10 : (sl == sentB true false false) = false := beq_eq_false_iff_ne.2 fun hh => h8 (by rw [HSL.out, hh]; rfl)
        rw [h10]
        have h8' : ¬ (1 : Int) = sn := by omega
        go_enter Tryd.func46, Tryd.ntmps46
        go_wp2_with fail
        refine (refStep f e _).mono ?_
        rw [hT, hD]
        rintro _ w1 ⟨rfl, b1⟩
        have hB1 := (Blk.new w 47 #[.int .i64 e, .int .i64 f, .int .i64 t, .slice S sn sc, .int .i64 a, .int .i64 b, .slice A n c]).below b1 (by simp)
        have hgl := hB1.lt
        have hc2 := hB1.cell 2
        have hc3 := hB1.cell 3
        have b01 := btr b0 b1 (by simp)
        go_wp2_with fail
        refine (refHas D 4 hD0 hD1 (.inl rfl) _ hx _).mono ?_
        rintro _ _ ⟨rfl, rfl⟩
        go_wp2_with (at_builtin; refine wpl_appI rfl (.tmp 35) (.tmp 36) rfl w1.heap.size none 0 0 [] (by rfl) OI.nil_ (w1.heap.size + 1) (some ⟨w1.heap.size, 0, none⟩) 1 1 [1] (by rfl) (Reads.oneI' _ _ _ rfl) (by simp) (by simp) ?_; intro A2 n2 c2 w2 o2 b2; have b12 := ((Below.refl w1.heap.size w1).alloc (Nat.le_refl _) (.cells #[.int .i64 1] 3)).trans b2; have hB2 := hB1.below b12 hgl; have hb2l := hB2.lt; have b02 := btr b01 b12 b01.size; have hc0 := hB2.cell 0; have hc2 := hB2.cell 2; have hc3 := hB2.cell 3; have hc4 := hB2.cell 4; have hc5 := hB2.cell 5; have hc6 := hB2.cell 6; obtain rfl : n2 = 1 := o2.1)
        refine (refHas D 8 hD0 hD1 (.inr (.inl rfl)) _ hy _).mono ?_
        rintro _ _ ⟨rfl, rfl⟩
        go_wp2_with fail
        refine (refHas D 16 hD0 hD1 (.inr (.inr rfl)) _ hz _).mono ?_
        rintro _ _ ⟨rfl, rfl⟩
        go_wp2_with fail
        all_goals
          go_ret
          exact ⟨ret_b (by simp [*]), b02⟩
    · have h6 : (t != T) = true := by simpa using h5
      have h7 : (t == T) = false := by simpa using h5
      rw [h7]
      clear h5
      go_enter Tryd.func46, Tryd.ntmps46
      go_wp2_with fail
      refine (refStep f e _).mono ?_
      rw [hT, hD]
      rintro _ w1 ⟨rfl, b1⟩
      have hB1 := (Blk.new w 47 #[.int .i64 e, .int .i64 f, .int .i64 t, .slice S sn sc, .int .i64 a, .int .i64 b, .slice A n c]).below b1 (by simp)
      have hgl := hB1.lt
      have hc2 := hB1.cell 2
      have hc3 := hB1.cell 3
      have b01 := btr b0 b1 (by simp)
      go_wp2_with fail
      refine (refHas D 4 hD0 hD1 (.inl rfl) _ hx _).mono ?_
      rintro _ _ ⟨rfl, rfl⟩
      go_wp2_with (at_builtin; refine wpl_appI rfl (.tmp 35) (.tmp 36) rfl w1.heap.size none 0 0 [] (by rfl) OI.nil_ (w1.heap.size + 1) (some ⟨w1.heap.size, 0, none⟩) 1 1 [1] (by rfl) (Reads.oneI' _ _ _ rfl) (by simp) (by simp) ?_; intro A2 n2 c2 w2 o2 b2; have b12 := ((Below.refl w1.heap.size w1).alloc (Nat.le_refl _) (.cells #[.int .i64 1] 3)).trans b2; have hB2 := hB1.below b12 hgl; have hb2l := hB2.lt; have b02 := btr b01 b12 b01.size; have hc0 := hB2.cell 0; have hc2 := hB2.cell 2; have hc3 := hB2.cell 3; have hc4 := hB2.cell 4; have hc5 := hB2.cell 5; have hc6 := hB2.cell 6; obtain rfl : n2 = 1 := o2.1)
      refine (refHas D 8 hD0 hD1 (.inr (.inl rfl)) _ hy _).mono ?_
      rintro _ _ ⟨rfl, rfl⟩
      go_wp2_with fail
      refine (refHas D 16 hD0 hD1 (.inr (.inr rfl)) _ hz _).mono ?_
      rintro _ _ ⟨rfl, rfl⟩
      go_wp2_with fail
      all_goals
        go_ret
        exact ⟨ret_b (by simp [*]), b02⟩
  · by_cases h5 : t = T
    · have h6 : (t != T) = false := by simpa using h5
      have h7 : (t == T) = true := by simpa using h5
      rw [h7]
      clear h5
      by_cases h8 : sn = 1
      · subst h8
        obtain ⟨s0, rfl⟩ : ∃ s0, sl = [s0] := List.length_eq_one_iff.1 HSL.out.symm
        obtain ⟨bS, oS, rfl, hbS, hcS⟩ := hS.formI (j := 0) (by omega)
        have hcS : w.cell? ⟨bS, oS, none⟩ = some (.int .i64 s0) := hcS
        by_cases h11 : s0 = 4
        · subst h11
          go_enter Tryd.func46, Tryd.ntmps46
          go_wp2_with fail
          refine (refStep f e _).mono ?_
          rw [hT, hD]
          rintro _ w1 ⟨rfl, b1⟩
          have hB1 := (Blk.new w 47 #[.int .i64 e, .int .i64 f, .int .i64 t, .slice (some ⟨bS, oS, none⟩) 1 sc, .int .i64 a, .int .i64 b, .slice A n c]).below b1 (by simp)
          have hgl := hB1.lt
          have hc2 := hB1.cell 2
          have hc3 := hB1.cell 3
          have b01 := btr b0 b1 (by simp)
          go_wp2_with fail
          refine (refHas D 4 hD0 hD1 (.inl rfl) _ hx _).mono ?_
          rintro _ _ ⟨rfl, rfl⟩
          go_wp2_with fail
          refine (refHas D 8 hD0 hD1 (.inr (.inl rfl)) _ hy _).mono ?_
          rintro _ _ ⟨rfl, rfl⟩
          go_wp2_with (at_builtin; refine wpl_appI rfl (.tmp 40) (.tmp 41) rfl w1.heap.size none 0 0 [] (by rfl) OI.nil_ (w1.heap.size + 1) (some ⟨w1.heap.size, 0, none⟩) 1 1 [4] (by rfl) (Reads.oneI' _ _ _ rfl) (by simp) (by simp) ?_; intro A2 n2 c2 w2 o2 b2; have b12 := ((Below.refl w1.heap.size w1).alloc (Nat.le_refl _) (.cells #[.int .i64 4] 3)).trans b2; have hB2 := hB1.below b12 hgl; have hb2l := hB2.lt; have b02 := btr b01 b12 b01.size; have hc0 := hB2.cell 0; have hc2 := hB2.cell 2; have hc3 := hB2.cell 3; have hc4 := hB2.cell 4; have hc5 := hB2.cell 5; have hc6 := hB2.cell 6; obtain rfl : n2 = 1 := o2.1; obtain ⟨bA, oA, rfl, hbA, hcA⟩ := o2.reads.formI (j := 0) (by omega); have hcA : w2.cell? ⟨bA, oA, none⟩ = some (.int .i64 4) := hcA; have hcS2 := (b02.cell (p := ⟨bS, oS, none⟩) hbS).trans hcS)
          refine (refHas D 16 hD0 hD1 (.inr (.inr rfl)) _ hz _).mono ?_
          rintro _ _ ⟨rfl, rfl⟩
          go_wp2_with fail
          refine wp_loop_rounds 2 ?_
          rw [rounds_succ]
          go_wp2_with fail
          go_quiet (fail)
          go_wp2_with fail
          rw [rounds_succ]
          go_wp2_with fail
          refine (refHas D 16 hD0 hD1 (.inr (.inr rfl)) _ hz _).mono ?_
          rintro _ _ ⟨rfl, rfl⟩
          go_wp2_with fail
          all_goals
            go_ret
            exact ⟨ret_b (by simp [sentB]), below_drewN b02 _⟩
        · have h12 : (4 != s0) = true := by simpa using (Ne.symm h11)
          have h12' : ((4 : Int) != s0) = true := h12
          have h13 : (([s0] : List Int) == sentB false true false) = false := beq_eq_false_iff_ne.2 fun hh => h11 (by simpa [sentB] using hh)
          rw [h13]
          clear h13
          go_enter Tryd.func46, Tryd.ntmps46
          go_wp2_with fail
          refine (refStep f e _).mono ?_
          rw [hT, hD]
          rintro _ w1 ⟨rfl, b1⟩
          have hB1 := (Blk.new w 47 #[.int .i64 e, .int .i64 f, .int .i64 t, .slice (some ⟨bS, oS, none⟩) 1 sc, .int .i64 a, .int .i64 b, .slice A n c]).below b1 (by simp)
          have hgl := hB1.lt
          have hc2 := hB1.cell 2
          have hc3 := hB1.cell 3
          have b01 := btr b0 b1 (by simp)
          go_wp2_with fail
          refine (refHas D 4 hD0 hD1 (.inl rfl) _ hx _).mono ?_
          rintro _ _ ⟨rfl, rfl⟩
          go_wp2_with fail
          refine (refHas D 8 hD0 hD1 (.inr (.inl rfl)) _ hy _).mono ?_
          rintro _ _ ⟨rfl, rfl⟩
          go_wp2_with (at_builtin; refine wpl_appI rfl (.tmp 40) (.tmp 41) rfl w1.heap.size none 0 0 [] (by rfl) OI.nil_ (w1.heap.size + 1) (some ⟨w1.heap.size, 0, none⟩) 1 1 [4] (by rfl) (Reads.oneI' _ _ _ rfl) (by simp) (by simp) ?_; intro A2 n2 c2 w2 o2 b2; have b12 := ((Below.refl w1.heap.size w1).alloc (Nat.le_refl _) (.cells #[.int .i64 4] 3)).trans b2; have hB2 := hB1.below b12 hgl; have hb2l := hB2.lt; have b02 := btr b01 b12 b01.size; have hc0 := hB2.cell 0; have hc2 := hB2.cell 2; have hc3 := hB2.cell 3; have hc4 := hB2.cell 4; have hc5 := hB2.cell 5; have hc6 := hB2.cell 6; obtain rfl : n2 = 1 := o2.1; obtain ⟨bA, oA, rfl, hbA, hcA⟩ := o2.reads.formI (j := 0) (by omega); have hcA : w2.cell? ⟨bA, oA, none⟩ = some (.int .i64 4) := hcA; have hcS2 := (b02.cell (p := ⟨bS, oS, none⟩) hbS).trans hcS)
          refine (refHas D 16 hD0 hD1 (.inr (.inr rfl)) _ hz _).mono ?_
          rintro _ _ ⟨rfl, rfl⟩
          go_wp2_with fail
          refine wp_loop_rounds 2 ?_
          rw [rounds_succ]
          go_wp2_with fail
          go_quiet (fail)
          go_wp2_with fail
          all_goals
            go_ret
            exact ⟨ret_b (by simp), below_drewN b02 _⟩
      · have h9 : ((1 : Int) != sn) = true := by simpa using (by omega : ¬ (1 : Int) = sn)
        have h10 : (sl == sentB false true false) = false := beq_eq_false_iff_ne.2 fun hh => h8 (by rw [HSL.out, hh]; rfl)
        rw [h10]
        have h8' : ¬ (1 : Int) = sn := by omega
        go_enter Tryd.func46, Tryd.ntmps46
        go_wp2_with fail
        refine (refStep f e _).mono ?_
        rw [hT, hD]
        rintro _ w1 ⟨rfl, b1⟩
        have hB1 := (Blk.new w 47 #[.int .i64 e, .int .i64 f, .int .i64 t, .slice S sn sc, .int .i64 a, .int .i64 b, .slice A n c]).below b1 (by simp)
        have hgl := hB1.lt
        have hc2 := hB1.cell 2
        have hc3 := hB1.cell 3
        have b01 := btr b0 b1 (by simp)
        go_wp2_with fail
        refine (refHas D 4 hD0 hD1 (.inl rfl) _ hx _).mono ?_
        rintro _ _ ⟨rfl, rfl⟩
        go_wp2_with fail
        refine (refHas D 8 hD0 hD1 (.inr (.inl rfl)) _ hy _).mono ?_
        rintro _ _ ⟨rfl, rfl⟩
        go_wp2_with (at_builtin; refine wpl_appI rfl (.tmp 40) (.tmp 41) rfl w1.heap.size none 0 0 [] (by rfl) OI.nil_ (w1.heap.size + 1) (some ⟨w1.heap.size, 0, none⟩) 1 1 [4] (by rfl) (Reads.oneI' _ _ _ rfl) (by simp) (by simp) ?_; intro A2 n2 c2 w2 o2 b2; have b12 := ((Below.refl w1.heap.size w1).alloc (Nat.le_refl _) (.cells #[.int .i64 4] 3)).trans b2; have hB2 := hB1.below b12 hgl; have hb2l := hB2.lt; have b02 := btr b01 b12 b01.size; have hc0 := hB2.cell 0; have hc2 := hB2.cell 2; have hc3 := hB2.cell 3; have hc4 := hB2.cell 4; have hc5 := hB2.cell 5; have hc6 := hB2.cell 6; obtain rfl : n2 = 1 := o2.1)
        refine (refHas D 16 hD0 hD1 (.inr (.inr rfl)) _ hz _).mono ?_
        rintro _ _ ⟨rfl, rfl⟩
        go_wp2_with fail
        all_goals
          go_ret
          exact ⟨ret_b (by simp [*]), b02⟩
    · have h6 : (t != T) = true := by simpa using h5
      have h7 : (t == T) = false := by simpa using h5
      rw [h7]
      clear h5
      go_enter Tryd.func46, Tryd.ntmps46
      go_wp2_with fail
      refine (refStep f e _).mono ?_
      rw [hT, hD]
      rintro _ w1 ⟨rfl, b1⟩
      have hB1 := (Blk.new w 47 #[.int .i64 e, .int .i64 f, .int .i64 t, .slice S sn sc, .int .i64 a, .int .i64 b, .slice A n c]).below b1 (by simp)
      have hgl := hB1.lt
      have hc2 := hB1.cell 2
      have hc3 := hB1.cell 3
      have b01 := btr b0 b1 (by simp)
      go_wp2_with fail
      refine (refHas D 4 hD0 hD1 (.inl rfl) _ hx _).mono ?_
      rintro _ _ ⟨rfl, rfl⟩
      go_wp2_with fail
      refine (refHas D 8 hD0 hD1 (.inr (.inl rfl)) _ hy _).mono ?_
      rintro _ _ ⟨rfl, rfl⟩
      go_wp2_with (at_builtin; refine wpl_appI rfl (.tmp 40) (.tmp 41) rfl w1.heap.size none 0 0 [] (by rfl) OI.nil_ (w1.heap.size + 1) (some ⟨w1.heap.size, 0, none⟩) 1 1 [4] (by rfl) (Reads.oneI' _ _ _ rfl) (by simp) (by simp) ?_; intro A2 n2 c2 w2 o2 b2; have b12 := ((Below.refl w1.heap.size w1).alloc (Nat.le_refl _) (.cells #[.int .i64 4] 3)).trans b2; have hB2 := hB1.below b12 hgl; have hb2l := hB2.lt; have b02 := btr b01 b12 b01.size; have hc0 := hB2.cell 0; have hc2 := hB2.cell 2; have hc3 := hB2.cell 3; have hc4 := hB2.cell 4; have hc5 := hB2.cell 5; have hc6 := hB2.cell 6; obtain rfl : n2 = 1 := o2.1)
      refine (refHas D 16 hD0 hD1 (.inr (.inr rfl)) _ hz _).mono ?_
      rintro _ _ ⟨rfl, rfl⟩
      go_wp2_with fail
      all_goals
        go_ret
        exact ⟨ret_b (by simp [*]), b02⟩
  · by_cases h5 : t = T
    · have h6 : (t != T) = false := by simpa using h5
      have h7 : (t == T) = true := by simpa using h5
      rw [h7]
      clear h5
      by_cases h8 : sn = 1
      · subst h8
        obtain ⟨s0, rfl⟩ : ∃ s0, sl = [s0] := List.length_eq_one_iff.1 HSL.out.symm
        obtain ⟨bS, oS, rfl, hbS, hcS⟩ := hS.formI (j := 0) (by omega)
        have hcS : w.cell? ⟨bS, oS, none⟩ = some (.int .i64 s0) := hcS
        by_cases h11 : s0 = 3
        · subst h11
          go_enter Tryd.func46, Tryd.ntmps46
          go_wp2_with fail
          refine (refStep f e _).mono ?_
          rw [hT, hD]
          rintro _ w1 ⟨rfl, b1⟩
          have hB1 := (Blk.new w 47 #[.int .i64 e, .int .i64 f, .int .i64 t, .slice (some ⟨bS, oS, none⟩) 1 sc, .int .i64 a, .int .i64 b, .slice A n c]).below b1 (by simp)
          have hgl := hB1.lt
          have hc2 := hB1.cell 2
          have hc3 := hB1.cell 3
          have b01 := btr b0 b1 (by simp)
          go_wp2_with fail
          refine (refHas D 4 hD0 hD1 (.inl rfl) _ hx _).mono ?_
          rintro _ _ ⟨rfl, rfl⟩
          go_wp2_with fail
          refine (refHas D 8 hD0 hD1 (.inr (.inl rfl)) _ hy _).mono ?_
          rintro _ _ ⟨rfl, rfl⟩
          go_wp2_with fail
          refine (refHas D 16 hD0 hD1 (.inr (.inr rfl)) _ hz _).mono ?_
          rintro _ _ ⟨rfl, rfl⟩
          go_wp2_with (at_builtin; refine wpl_appI rfl (.tmp 45) (.tmp 46) rfl w1.heap.size none 0 0 [] (by rfl) OI.nil_ (w1.heap.size + 1) (some ⟨w1.heap.size, 0, none⟩) 1 1 [3] (by rfl) (Reads.oneI' _ _ _ rfl) (by simp) (by simp) ?_; intro A2 n2 c2 w2 o2 b2; have b12 := ((Below.refl w1.heap.size w1).alloc (Nat.le_refl _) (.cells #[.int .i64 3] 3)).trans b2; have hB2 := hB1.below b12 hgl; have hb2l := hB2.lt; have b02 := btr b01 b12 b01.size; have hc0 := hB2.cell 0; have hc2 := hB2.cell 2; have hc3 := hB2.cell 3; have hc4 := hB2.cell 4; have hc5 := hB2.cell 5; have hc6 := hB2.cell 6; obtain rfl : n2 = 1 := o2.1; obtain ⟨bA, oA, rfl, hbA, hcA⟩ := o2.reads.formI (j := 0) (by omega); have hcA : w2.cell? ⟨bA, oA, none⟩ = some (.int .i64 3) := hcA; have hcS2 := (b02.cell (p := ⟨bS, oS, none⟩) hbS).trans hcS)
          refine wp_loop_rounds 2 ?_
          rw [rounds_succ]
          go_wp2_with fail
          go_quiet (fail)
          go_wp2_with fail
          rw [rounds_succ]
          go_wp2_with fail
          refine (refHas D 16 hD0 hD1 (.inr (.inr rfl)) _ hz _).mono ?_
          rintro _ _ ⟨rfl, rfl⟩
          go_wp2_with fail
          go_region_held3 (fun w' => Below w2.heap.size w2 w' ∧ w'.cell? ⟨w.heap.size, 0, none⟩ = some (.int .i64 e) ∧ w'.cell? ⟨w.heap.size, 4, none⟩ = some (.int .i64 a) ∧ w'.cell? ⟨w.heap.size, 5, none⟩ = some (.int .i64 b) ∧ w'.cell? ⟨w.heap.size, 6, none⟩ = some (.slice A n c))
            (first | (refine keepW4 hb2l hb2l hb2l hb2l b5 ?_; assumption) | (refine keepW4 hb2l hb2l hb2l hb2l b4 ?_; assumption) | ((repeat' apply And.intro) <;> first | (with_reducible exact Below.drew (below_drewN (Below.refl _ _) _)) | (with_reducible exact below_drewN (Below.refl _ _) _) | go_keep))
            (first
              | (go_at_call 30; refine (refFault_any e a b A n c _).mono ?_; rw [hF.out]; rintro _ w4 ⟨rfl, b4⟩)
              | (go_at_call 28; refine (sameFault_any a b a' b' A A' n c n' c' l l' _ ((h.call b02).call (And.left (by with_reducible assumption))) ((h'.call b02).call (And.left (by with_reducible assumption)))).mono ?_; rintro _ w5 ⟨rfl, b5⟩))
          all_goals
            try go_wp2_with fail
            go_ret
            exact ⟨ret_b (by simp [sentB]), btr b02 (And.left (by with_reducible assumption)) b02.size⟩
        · have h12 : (3 != s0) = true := by simpa using (Ne.symm h11)
          have h12' : ((3 : Int) != s0) = true := h12
          have h13 : (([s0] : List Int) == sentB false false true) = false := beq_eq_false_iff_ne.2 fun hh => h11 (by simpa [sentB] using hh)
          rw [h13]
          clear h13
          go_enter Tryd.func46, Tryd.ntmps46
          go_wp2_with fail
          refine (refStep f e _).mono ?_
          rw [hT, hD]
          rintro _ w1 ⟨rfl, b1⟩
          have hB1 := (Blk.new w 47 #[.int .i64 e, .int .i64 f, .int .i64 t, .slice (some ⟨bS, oS, none⟩) 1 sc, .int .i64 a, .int .i64 b, .slice A n c]).below b1 (by simp)
          have hgl := hB1.lt
          have hc2 := hB1.cell 2
          have hc3 := hB1.cell 3
          have b01 := btr b0 b1 (by simp)
          go_wp2_with fail
          refine (refHas D 4 hD0 hD1 (.inl rfl) _ hx _).mono ?_
          rintro _ _ ⟨rfl, rfl⟩
          go_wp2_with fail
          refine (refHas D 8 hD0 hD1 (.inr (.inl rfl)) _ hy _).mono ?_
          rintro _ _ ⟨rfl, rfl⟩
          go_wp2_with fail
          refine (refHas D 16 hD0 hD1 (.inr (.inr rfl)) _ hz _).mono ?_
          rintro _ _ ⟨rfl, rfl⟩
          go_wp2_with (at_builtin; refine wpl_appI rfl (.tmp 45) (.tmp 46) rfl w1.heap.size none 0 0 [] (by rfl) OI.nil_ (w1.heap.size + 1) (some ⟨w1.heap.size, 0, none⟩) 1 1 [3] (by rfl) (Reads.oneI' _ _ _ rfl) (by simp) (by simp) ?_; intro A2 n2 c2 w2 o2 b2; have b12 := ((Below.refl w1.heap.size w1).alloc (Nat.le_refl _) (.cells #[.int .i64 3] 3)).trans b2; have hB2 := hB1.below b12 hgl; have hb2l := hB2.lt; have b02 := btr b01 b12 b01.size; have hc0 := hB2.cell 0; have hc2 := hB2.cell 2; have hc3 := hB2.cell 3; have hc4 := hB2.cell 4; have hc5 := hB2.cell 5; have hc6 := hB2.cell 6; obtain rfl : n2 = 1 := o2.1; obtain ⟨bA, oA, rfl, hbA, hcA⟩ := o2.reads.formI (j := 0) (by omega); have hcA : w2.cell? ⟨bA, oA, none⟩ = some (.int .i64 3) := hcA; have hcS2 := (b02.cell (p := ⟨bS, oS, none⟩) hbS).trans hcS)
          refine wp_loop_rounds 2 ?_
          rw [rounds_succ]
          go_wp2_with fail
          go_quiet (fail)
          go_wp2_with fail
          all_goals
            go_ret
            exact ⟨ret_b (by simp), below_drewN b02 _⟩
      · have h9 : ((1 : Int) != sn) = true := by simpa using (by omega : ¬ (1 : Int) = sn)
        have h10 : (sl == sentB false false true) = false := beq_eq_false_iff_ne.2 fun hh => h8 (by rw [HSL.out, hh]; rfl)
        rw [h10]
        have h8' : ¬ (1 : Int) = sn := by omega
        go_enter Tryd.func46, Tryd.ntmps46
        go_wp2_with fail
        refine (refStep f e _).mono ?_
        rw [hT, hD]
        rintro _ w1 ⟨rfl, b1⟩
        have hB1 := (Blk.new w 47 #[.int .i64 e, .int .i64 f, .int .i64 t, .slice S sn sc, .int .i64 a, .int .i64 b, .slice A n c]).below b1 (by simp)
        have hgl := hB1.lt
        have hc2 := hB1.cell 2
        have hc3 := hB1.cell 3
        have b01 := btr b0 b1 (by simp)
        go_wp2_with fail
        refine (refHas D 4 hD0 hD1 (.inl rfl) _ hx _).mono ?_
        rintro _ _ ⟨rfl, rfl⟩
        go_wp2_with fail
        refine (refHas D 8 hD0 hD1 (.inr (.inl rfl)) _ hy _).mono ?_
        rintro _ _ ⟨rfl, rfl⟩
        go_wp2_with fail
        refine (refHas D 16 hD0 hD1 (.inr (.inr rfl)) _ hz _).mono ?_
        rintro _ _ ⟨rfl, rfl⟩
        go_wp2_with (at_builtin; refine wpl_appI rfl (.tmp 45) (.tmp 46) rfl w1.heap.size none 0 0 [] (by rfl) OI.nil_ (w1.heap.size + 1) (some ⟨w1.heap.size, 0, none⟩) 1 1 [3] (by rfl) (Reads.oneI' _ _ _ rfl) (by simp) (by simp) ?_; intro A2 n2 c2 w2 o2 b2; have b12 := ((Below.refl w1.heap.size w1).alloc (Nat.le_refl _) (.cells #[.int .i64 3] 3)).trans b2; have hB2 := hB1.below b12 hgl; have hb2l := hB2.lt; have b02 := btr b01 b12 b01.size; have hc0 := hB2.cell 0; have hc2 := hB2.cell 2; have hc3 := hB2.cell 3; have hc4 := hB2.cell 4; have hc5 := hB2.cell 5; have hc6 := hB2.cell 6; obtain rfl : n2 = 1 := o2.1)
        all_goals
          go_ret
          exact ⟨ret_b (by simp [*]), b02⟩
    · have h6 : (t != T) = true := by simpa using h5
      have h7 : (t == T) = false := by simpa using h5
      rw [h7]
      clear h5
      go_enter Tryd.func46, Tryd.ntmps46
      go_wp2_with fail
      refine (refStep f e _).mono ?_
      rw [hT, hD]
      rintro _ w1 ⟨rfl, b1⟩
      have hB1 := (Blk.new w 47 #[.int .i64 e, .int .i64 f, .int .i64 t, .slice S sn sc, .int .i64 a, .int .i64 b, .slice A n c]).below b1 (by simp)
      have hgl := hB1.lt
      have hc2 := hB1.cell 2
      have hc3 := hB1.cell 3
      have b01 := btr b0 b1 (by simp)
      go_wp2_with fail
      refine (refHas D 4 hD0 hD1 (.inl rfl) _ hx _).mono ?_
      rintro _ _ ⟨rfl, rfl⟩
      go_wp2_with fail
      refine (refHas D 8 hD0 hD1 (.inr (.inl rfl)) _ hy _).mono ?_
      rintro _ _ ⟨rfl, rfl⟩
      go_wp2_with fail
      refine (refHas D 16 hD0 hD1 (.inr (.inr rfl)) _ hz _).mono ?_
      rintro _ _ ⟨rfl, rfl⟩
      go_wp2_with (at_builtin; refine wpl_appI rfl (.tmp 45) (.tmp 46) rfl w1.heap.size none 0 0 [] (by rfl) OI.nil_ (w1.heap.size + 1) (some ⟨w1.heap.size, 0, none⟩) 1 1 [3] (by rfl) (Reads.oneI' _ _ _ rfl) (by simp) (by simp) ?_; intro A2 n2 c2 w2 o2 b2; have b12 := ((Below.refl w1.heap.size w1).alloc (Nat.le_refl _) (.cells #[.int .i64 3] 3)).trans b2; have hB2 := hB1.below b12 hgl; have hb2l := hB2.lt; have b02 := btr b01 b12 b01.size; have hc0 := hB2.cell 0; have hc2 := hB2.cell 2; have hc3 := hB2.cell 3; have hc4 := hB2.cell 4; have hc5 := hB2.cell 5; have hc6 := hB2.cell 6; obtain rfl : n2 = 1 := o2.1)
      all_goals
        go_ret
        exact ⟨ret_b (by simp [*]), b02⟩
end
end Go.Proofs.YtdcldmblgbefnaaDoor
