/- The walk of the law PrefixTexts. Conditions: the table of digits (DigTab). -/
import Derived.Test.YtnhkpnohadbcdaaDoorProg
import Derived.WalkKit
import Derived.WalkSpells
import Derived.WalkLawsBesides
import Derived.Outline
import Derived.Deep.QuietTactic
import Derived.BigQuiet
import Derived.Handy
import Derived.Lib.Hide
import Derived.Test.YtnhkpnohadbcdaaDoorPfxPut
namespace Go.Proofs.YtnhkpnohadbcdaaDoor
open Go.RowKit
set_option maxHeartbeats 2000000 in
set_option maxRecDepth 100000 in
theorem prefixTexts_no (w : World) (x : Nat) (hx : x < 4294967296) (a : Nat) (ha : a < 4294967296) (n : Int) (ht : DigTab w) (hr : pRight a n = false) :
    Calls Tryd.prog 3 #[.int .u32 x, .agg #[.int .u32 a, .int .i64 n]] w fun en w' => en = .returned (.bool true) ∧ Below w.heap.size w w' := by
  have hB := Blk.new w 24 #[.int .u32 a, .int .i64 n]
  have b0 := (Below.refl w.heap.size w).alloc (Nat.le_refl _) (.cells #[.int .u32 a, .int .i64 n] 24)
  have hgl0 := hB.lt
  obtain ⟨S, hS⟩ : ∃ S : ByteArray, S = ⟨(adT x).toArray⟩ := ⟨_, rfl⟩
  have hz : S.size ≤ 2000 := by rw [hS]; exact Nat.le_trans (adT_len x hx) (by omega)
  have HS := Lib.hid hS
  have HA := Lib.hid (show AdAns S.data.toList x true by rw [hS]; exact AdAns.text x hx)
  have HP := Lib.hid (show PfA (⟨#[]⟩ : ByteArray).data.toList 0 0 false from PfA.noslash (by simp))
  clear hS
  go_enter Tryd.func3, Tryd.ntmps3
  go_wp2_with fail
  obtain ⟨W, hW⟩ : ∃ W, w.alloc (.cells #[.int .u32 a, .int .i64 n] 24) = W := ⟨_, rfl⟩
  rw [hW] at hB b0 hgl0
  rw [hW]
  clear hW
  have c0 : W.cell? ⟨w.heap.size, 0, none⟩ = some (.int .u32 a) := hB.cell 0
  have c1 : W.cell? ⟨w.heap.size, 1, none⟩ = some (.int .i64 n) := hB.cell 1
  have t0 := ht.call b0
  go_region_held3 (fun w' => Below W.heap.size W w' ∧ w'.cell? ⟨w.heap.size, 0, none⟩ = some (.int .u32 a) ∧ w'.cell? ⟨w.heap.size, 1, none⟩ = some (.int .i64 n))
    (first | (refine keep2c hgl0 b1 ?_; assumption) | (refine keep2c hgl0 b2 ?_; assumption) | ((repeat' apply And.intro) <;> first | (with_reducible exact Below.drew (Below.refl _ _)) | (with_reducible assumption) | go_keep))
    (first
      | (go_at_call 18; refine (prefixAddr x hx S _ (t0.call (And.left (by with_reducible assumption))) HS).mono ?_; rintro _ w1 ⟨rfl, b1⟩)
      | (go_at_call 19; refine (prefixText_no a ha n _ hr).mono ?_; rintro _ w2 ⟨rfl, b2⟩))
  all_goals
    rename_i hH
    obtain ⟨kW, _, _⟩ := hH
    have b02 := btr b0 kW b0.size
    have hB2 := hB.below kW hgl0
    clear c0 c1 t0
    go_wp2_with fail
    refine (parseAddr S _ (ht.call b02) hz).mono ?_
    rintro _ w3 ⟨v, ok, rfl, hA', b3⟩
    have e := hA'.one HA.out
    rw [e.1, e.2]
    clear hA' e
    have b03 := btr b02 b3 b02.size
    have hB3 := hB2.below b3 hB2.lt
    go_wp2_with fail
    refine (prefixParse ⟨#[]⟩ _ (ht.call b03) (by show 0 ≤ 2000; omega)).mono ?_
    rintro _ w4 ⟨qa, qn, is, rfl, hP', b4⟩
    have e := PfAns.one hP' HP.out
    rw [e.1, e.2.1, e.2.2]
    clear hP' e
    have b04 := btr b03 b4 b03.size
    have hB4 := hB3.below b4 hB3.lt
    have b05 := b04.alloc b04.size (.cells #[.int .u32 0, .int .i64 0] 24)
    have hB5 := hB4.alloc (.cells #[.int .u32 0, .int .i64 0] 24)
    have hQ5 := Blk.new w4 24 #[.int .u32 0, .int .i64 0]
    have hql := hQ5.lt
    go_wp2_with (first
      | (go_at_call 22; refine (ref02Addr x hx S _ HS).mono ?_; rintro _ w6 ⟨rfl, b6⟩; have b06 := btr b05 b6 b05.size; have hB6 := hB5.below b6 hB5.lt; have hQ6 := hQ5.below b6 hql; have x60 := hB6.cell 0; have x61 := hB6.cell 1)
      | (go_at_call 23; refine (ref02Text_no a ha n _ hr).mono ?_; rintro _ w7 ⟨rfl, b7⟩; have b07 := btr b06 b7 b06.size; have hB7 := hB6.below b7 hB6.lt; have hQ7 := hQ6.below b7 hQ6.lt; have x70 := hB7.cell 0; have x71 := hB7.cell 1)
      | (go_at_call 24; refine (prefixRight a ha n _).mono ?_; rw [hr]; rintro _ w8 ⟨rfl, b8⟩; have b08 := btr b07 b8 b07.size; have hB8 := hB7.below b8 hB7.lt; have hQ8 := hQ7.below b8 hQ7.lt; have x80 := hB8.cell 0; have x81 := hB8.cell 1; have y80 := hQ8.cell 0; have y81 := hQ8.cell 1)
      | (go_at_call 25; refine (awake02 _ (ht.call b08)).mono ?_; rintro _ w9 ⟨rfl, b9⟩; have b09 := btr b08 b9 b08.size))
    go_ret
    exact ⟨rfl, b09⟩
set_option maxHeartbeats 2000000 in
set_option maxRecDepth 100000 in
theorem prefixTexts_yes (w : World) (x : Nat) (hx : x < 4294967296) (a : Nat) (ha : a < 4294967296) (k : Nat) (hk : k ≤ 32) (ht : DigTab w) (hr : pRight a (k : Int) = true) :
    Calls Tryd.prog 3 #[.int .u32 x, .agg #[.int .u32 a, .int .i64 k]] w fun en w' => en = .returned (.bool true) ∧ Below w.heap.size w w' := by
  have hB := Blk.new w 24 #[.int .u32 a, .int .i64 k]
  have b0 := (Below.refl w.heap.size w).alloc (Nat.le_refl _) (.cells #[.int .u32 a, .int .i64 k] 24)
  have hgl0 := hB.lt
  obtain ⟨S, hS⟩ : ∃ S : ByteArray, S = ⟨(adT x).toArray⟩ := ⟨_, rfl⟩
  have hz : S.size ≤ 2000 := by rw [hS]; exact Nat.le_trans (adT_len x hx) (by omega)
  have HS := Lib.hid hS
  have HA := Lib.hid (show AdAns S.data.toList x true by rw [hS]; exact AdAns.text x hx)
  obtain ⟨T, hT⟩ : ∃ T : ByteArray, T = ⟨(pfT a k).toArray⟩ := ⟨_, rfl⟩
  have hzT : T.size ≤ 2000 := by
    rw [hT]
    have h1 := adT_len a ha
    have h2 := decU_len 2 k (by omega)
    show (adT a ++ [47] ++ decU k).length ≤ 2000
    simp only [List.length_append, List.length_cons, List.length_nil]
    omega
  have HT := Lib.hid hT
  have HP := Lib.hid (show PfA T.data.toList a k true by rw [hT]; exact .inl ⟨rfl, ha, hk, hr, rfl⟩)
  clear hT
  clear hS
  go_enter Tryd.func3, Tryd.ntmps3
  go_wp2_with fail
  obtain ⟨W, hW⟩ : ∃ W, w.alloc (.cells #[.int .u32 a, .int .i64 k] 24) = W := ⟨_, rfl⟩
  rw [hW] at hB b0 hgl0
  rw [hW]
  clear hW
  have c0 : W.cell? ⟨w.heap.size, 0, none⟩ = some (.int .u32 a) := hB.cell 0
  have c1 : W.cell? ⟨w.heap.size, 1, none⟩ = some (.int .i64 k) := hB.cell 1
  have t0 := ht.call b0
  go_region_held3 (fun w' => Below W.heap.size W w' ∧ w'.cell? ⟨w.heap.size, 0, none⟩ = some (.int .u32 a) ∧ w'.cell? ⟨w.heap.size, 1, none⟩ = some (.int .i64 k))
    (first | (refine keep2c hgl0 b1 ?_; assumption) | (refine keep2c hgl0 b2 ?_; assumption) | ((repeat' apply And.intro) <;> first | (with_reducible exact Below.drew (Below.refl _ _)) | (with_reducible assumption) | go_keep))
    (first
      | (go_at_call 18; refine (prefixAddr x hx S _ (t0.call (And.left (by with_reducible assumption))) HS).mono ?_; rintro _ w1 ⟨rfl, b1⟩)
      | (go_at_call 19; refine (prefixText_yes a ha k hk T _ (t0.call (And.left (by with_reducible assumption))) hr HT).mono ?_; rintro _ w2 ⟨rfl, b2⟩))
  all_goals
    rename_i hH
    obtain ⟨kW, _, _⟩ := hH
    have b02 := btr b0 kW b0.size
    have hB2 := hB.below kW hgl0
    clear c0 c1 t0
    go_wp2_with fail
    refine (parseAddr S _ (ht.call b02) hz).mono ?_
    rintro _ w3 ⟨v, ok, rfl, hA', b3⟩
    have e := hA'.one HA.out
    rw [e.1, e.2]
    clear hA' e
    have b03 := btr b02 b3 b02.size
    have hB3 := hB2.below b3 hB2.lt
    go_wp2_with fail
    refine (prefixParse T _ (ht.call b03) hzT).mono ?_
    rintro _ w4 ⟨qa, qn, is, rfl, hP', b4⟩
    have e := PfAns.one hP' HP.out
    rw [e.1, e.2.1, e.2.2]
    clear hP' e
    have b04 := btr b03 b4 b03.size
    have hB4 := hB3.below b4 hB3.lt
    have b05 := b04.alloc b04.size (.cells #[.int .u32 a, .int .i64 k] 24)
    have hB5 := hB4.alloc (.cells #[.int .u32 a, .int .i64 k] 24)
    have hQ5 := Blk.new w4 24 #[.int .u32 a, .int .i64 k]
    have hql := hQ5.lt
    go_wp2_with (first
      | (go_at_call 22; refine (ref02Addr x hx S _ HS).mono ?_; rintro _ w6 ⟨rfl, b6⟩; have b06 := btr b05 b6 b05.size; have hB6 := hB5.below b6 hB5.lt; have hQ6 := hQ5.below b6 hql; have x60 := hB6.cell 0; have x61 := hB6.cell 1)
      | (go_at_call 23; refine (ref02Text_yes a ha k hk T _ hr HT).mono ?_; rintro _ w7 ⟨rfl, b7⟩; have b07 := btr b06 b7 b06.size; have hB7 := hB6.below b7 hB6.lt; have hQ7 := hQ6.below b7 hQ6.lt; have x70 := hB7.cell 0; have x71 := hB7.cell 1)
      | (go_at_call 24; refine (prefixRight a ha k _).mono ?_; rw [hr]; rintro _ w8 ⟨rfl, b8⟩; have b08 := btr b07 b8 b07.size; have hB8 := hB7.below b8 hB7.lt; have hQ8 := hQ7.below b8 hQ7.lt; have x80 := hB8.cell 0; have x81 := hB8.cell 1; have y80 := hQ8.cell 0; have y81 := hQ8.cell 1)
      | (go_at_call 25; refine (awake02 _ (ht.call b08)).mono ?_; rintro _ w9 ⟨rfl, b9⟩; have b09 := btr b08 b9 b08.size))
    go_ret
    exact ⟨rfl, b09⟩
theorem lawPrefixTexts (w : World) (x : Int) (hx : (Lit.int .u32 x).wf = true) (a : Nat) (n : Int) (ha : a < 4294967296) (_ : (Lit.int .i64 n).wf = true) (ht : DigTab w) :
    Calls Tryd.prog 3 #[.int .u32 x, .agg #[.int .u32 a, .int .i64 n]] w fun en w' => en = .returned (.bool true) ∧ Below w.heap.size w w' := by
  have h2 : 0 ≤ x ∧ x ≤ 4294967295 := by simpa [Lit.wf, IntKind.min, IntKind.max, IntKind.signed, IntKind.bits] using hx
  obtain ⟨x, rfl⟩ := Int.eq_ofNat_of_zero_le h2.1
  cases hr : pRight a n
  · exact prefixTexts_no w x (by omega) a ha n ht hr
  · obtain ⟨k, rfl, hk, _⟩ := pRight_of hr
    exact prefixTexts_yes w x (by omega) a ha k hk ht hr
end Go.Proofs.YtnhkpnohadbcdaaDoor
