/- Walks of layer 2 (prefix): Addr, and the document's. Conditions: the table of digits (DigTab). -/
import Derived.Test.YtnhkpnohadbcdaaDoorProg
import Derived.WalkKit
import Derived.WalkSpells
import Derived.WalkLawsBesides
import Derived.Outline
import Derived.Deep.QuietTactic
import Derived.BigQuiet
import Derived.Handy
import Derived.Lib.Hide
import Derived.Test.YtnhkpnohadbcdaaDoorPfxR
import Derived.Test.YtnhkpnohadbcdaaDoorPfxText
import Derived.Test.YtnhkpnohadbcdaaDoorRefInt
namespace Go.Proofs.YtnhkpnohadbcdaaDoor
open Go.RowKit
theorem bsA (a b : List UInt8) : (⟨a.toArray⟩ : ByteArray) ++ ⟨b.toArray⟩ = ⟨(a ++ b).toArray⟩ := bs_append a b
theorem byte_of {a : Nat} (ha : a < 4294967296) {y : Int} {x : Nat} (h : y = (x : Nat)) (hx : x ≤ a) : wrap64 (bits BinOp.and IntKind.u32 y 255) = ((x % 256 : Nat) : Int) := by
  subst h
  rw [show (255 : Int) = ((255 : Nat) : Int) from rfl, u32_and_nat _ _ (by omega) (by omega), show (255 : Nat) = 2 ^ 8 - 1 from rfl, Nat.and_two_pow_sub_one_eq_mod]
  have : x % 2 ^ 8 < 256 := Nat.mod_lt _ (by omega)
  unfold wrap64
  omega
theorem bs_nil (S : ByteArray) : (⟨#[]⟩ : ByteArray) ++ S = S := by
  apply ByteArray.ext
  simp
/-- The four parts of a number's text. -/
theorem parts4 (a : Nat) (ha : a < 4294967296) : ∃ (p1 p2 p3 p4 : Nat) (S1 S2 S3 S4 : ByteArray), p1 < 256 ∧ p2 < 256 ∧ p3 < 256 ∧ p4 < 256 ∧ Hid (S1 = ⟨(decI (p1 : Int)).toArray⟩) ∧ Hid (S2 = ⟨(decI (p2 : Int)).toArray⟩) ∧ Hid (S3 = ⟨(decI (p3 : Int)).toArray⟩) ∧ Hid (S4 = ⟨(decI (p4 : Int)).toArray⟩) ∧
    S1.size ≤ 3 ∧ S2.size ≤ 3 ∧ S3.size ≤ 3 ∧ S4.size ≤ 3 ∧ Hid (p1 = a / 16777216 ∧ p2 = a / 65536 % 256 ∧ p3 = a / 256 % 256 ∧ p4 = a % 256) ∧
    Hid (S1 ++ ⟨#[46]⟩ ++ S2 ++ ⟨#[46]⟩ ++ S3 ++ ⟨#[46]⟩ ++ S4 = ⟨(adT a).toArray⟩) := by
  have hs : ∀ p : Nat, p < 256 → (⟨(decI (p : Int)).toArray⟩ : ByteArray).size ≤ 3 := fun p hp => by
    rw [decI_nat]
    exact decU_len 2 p (by omega)
  refine ⟨a / 16777216, a / 65536 % 256, a / 256 % 256, a % 256, _, _, _, _, by omega, by omega, by omega, by omega, Lib.hid rfl, Lib.hid rfl, Lib.hid rfl, Lib.hid rfl, hs _ (by omega), hs _ (by omega), hs _ (by omega), hs _ (by omega), Lib.hid ⟨rfl, rfl, rfl, rfl⟩, Lib.hid ?_⟩
  rw [show (⟨#[46]⟩ : ByteArray) = ⟨[46].toArray⟩ from rfl]
  simp only [bsA, decI_nat]
  rfl
set_option maxHeartbeats 1000000 in
set_option maxRecDepth 100000 in
theorem prefixAddr (a : Nat) (ha : a < 4294967296) (S : ByteArray) (w : World) (ht : DigTab w) (hS : Hid (S = ⟨(adT a).toArray⟩)) :
    Calls Tryd.prog 18 #[.int .u32 a] w fun en w' => en = .returned (.string S) ∧ Below w.heap.size w w' := by
  obtain ⟨p1, p2, p3, p4, S1, S2, S3, S4, l1, l2, l3, l4, h1, h2, h3, h4, z1, z2, z3, z4, hp, hT⟩ := parts4 a ha
  have e1 : wrap64 (bits BinOp.and IntKind.u32 ((a : Int) / 16777216) 255) = (p1 : Int) := by rw [byte_of ha (x := a / 16777216) (by omega) (by omega), hp.out.1]; congr 1; omega
  have e2 : wrap64 (bits BinOp.and IntKind.u32 ((a : Int) / 65536) 255) = (p2 : Int) := by rw [byte_of ha (x := a / 65536) (by omega) (by omega), hp.out.2.1]
  have e3 : wrap64 (bits BinOp.and IntKind.u32 ((a : Int) / 256) 255) = (p3 : Int) := by rw [byte_of ha (x := a / 256) (by omega) (by omega), hp.out.2.2.1]
  have e4 : wrap64 (bits BinOp.and IntKind.u32 (a : Int) 255) = (p4 : Int) := by rw [byte_of ha (x := a) rfl (by omega), hp.out.2.2.2]
  have HE := Lib.hid (hT.out.trans hS.out.symm)
  have OB := Lib.hid (show (∀ p : Nat, p < 256 → (-9223372036854775808 : Int) ≤ (p : Int) ∧ (p : Int) ≤ 9223372036854775807) from fun p _ => by omega)
  go_enter Tryd.func18, Tryd.ntmps18
  go_wp2_with fail
  refine wp_loop_rounds 5 ?_
  rw [rounds_succ]
  go_wp2_with fail
  refine (octetText _ S1 _ ht (OB.out _ l1).1 (OB.out _ l1).2 h1).mono ?_
  rintro _ w1 ⟨rfl, b1⟩
  go_wp2_with fail
  generalize hT1 : (⟨#[]⟩ : ByteArray) ++ S1 ++ (⟨#[46]⟩ : ByteArray) = T1
  have zT1 : T1.size ≤ 4 := by rw [← hT1, ByteArray.size_append, ByteArray.size_append]; show _ + _ + 1 ≤ _; show 0 + _ + 1 ≤ _; omega
  have HT1 := Lib.hid hT1
  clear hT1
  rw [rounds_succ]
  go_wp2_with fail
  refine (octetText _ S2 _ (ht.call b1) (OB.out _ l2).1 (OB.out _ l2).2 h2).mono ?_
  rintro _ w2 ⟨rfl, b2⟩
  have b12 := btr b1 b2 b1.size
  go_wp2_with fail
  generalize hT2 : T1 ++ S2 ++ (⟨#[46]⟩ : ByteArray) = T2
  have zT2 : T2.size ≤ 8 := by rw [← hT2, ByteArray.size_append, ByteArray.size_append]; show _ + _ + 1 ≤ _; omega
  have HT2 := Lib.hid hT2
  clear hT2
  rw [rounds_succ]
  go_wp2_with fail
  refine (octetText _ S3 _ (ht.call b12) (OB.out _ l3).1 (OB.out _ l3).2 h3).mono ?_
  rintro _ w3 ⟨rfl, b3⟩
  have b13 := btr b12 b3 b12.size
  go_wp2_with fail
  generalize hT3 : T2 ++ S3 ++ (⟨#[46]⟩ : ByteArray) = T3
  have zT3 : T3.size ≤ 12 := by rw [← hT3, ByteArray.size_append, ByteArray.size_append]; show _ + _ + 1 ≤ _; omega
  have HT3 := Lib.hid hT3
  clear hT3
  rw [rounds_succ]
  go_wp2_with fail
  refine (octetText _ S4 _ (ht.call b13) (OB.out _ l4).1 (OB.out _ l4).2 h4).mono ?_
  rintro _ w4 ⟨rfl, b4⟩
  have b14 := btr b13 b4 b13.size
  go_wp2_with fail
  rw [rounds_succ]
  go_wp2_with fail
  go_ret
  exact ⟨ret_s (by rw [← HT3.out, ← HT2.out, ← HT1.out, bs_nil]; exact HE.out), b14⟩
set_option maxHeartbeats 1000000 in
set_option maxRecDepth 100000 in
theorem ref02Addr (a : Nat) (ha : a < 4294967296) (S : ByteArray) (w : World) (hS : Hid (S = ⟨(adT a).toArray⟩)) :
    Calls Tryd.prog 22 #[.int .u32 a] w fun en w' => en = .returned (.string S) ∧ Below w.heap.size w w' := by
  obtain ⟨p1, p2, p3, p4, S1, S2, S3, S4, l1, l2, l3, l4, h1, h2, h3, h4, z1, z2, z3, z4, hp, hT⟩ := parts4 a ha
  have e1 : (a : Int) / 16777216 = (p1 : Int) := by rw [hp.out.1]; omega
  have e2 : (a : Int) / 65536 % 256 = (p2 : Int) := by rw [hp.out.2.1]; omega
  have e3 : (a : Int) / 256 % 256 = (p3 : Int) := by rw [hp.out.2.2.1]; omega
  have e4 : (a : Int) % 256 = (p4 : Int) := by rw [hp.out.2.2.2]; omega
  have HE := Lib.hid (hT.out.trans hS.out.symm)
  have OB := Lib.hid (show (∀ p : Nat, p < 256 → (-9223372036854775808 : Int) ≤ (p : Int) ∧ (p : Int) ≤ 9223372036854775807) from fun p _ => by omega)
  go_enter Tryd.func22, Tryd.ntmps22
  go_wp2_with fail
  refine (refText _ S1 _ (OB.out _ l1).1 (OB.out _ l1).2 h1).mono ?_
  rintro _ w1 ⟨rfl, b1⟩
  go_wp2_with fail
  refine (refText _ S2 _ (OB.out _ l2).1 (OB.out _ l2).2 h2).mono ?_
  rintro _ w2 ⟨rfl, b2⟩
  have b12 := btr b1 b2 b1.size
  go_wp2_with fail
  refine (refText _ S3 _ (OB.out _ l3).1 (OB.out _ l3).2 h3).mono ?_
  rintro _ w3 ⟨rfl, b3⟩
  have b13 := btr b12 b3 b12.size
  go_wp2_with fail
  refine (refText _ S4 _ (OB.out _ l4).1 (OB.out _ l4).2 h4).mono ?_
  rintro _ w4 ⟨rfl, b4⟩
  have b14 := btr b13 b4 b13.size
  go_wp2_with fail
  go_ret
  exact ⟨ret_s HE.out, b14⟩
set_option maxHeartbeats 1000000 in
set_option maxRecDepth 100000 in
theorem prefixText_no (a : Nat) (ha : a < 4294967296) (n : Int) (w : World) (hr : pRight a n = false) :
    Calls Tryd.prog 19 #[.agg #[.int .u32 a, .int .i64 n]] w fun en w' => en = .returned (.string ⟨#[]⟩) ∧ Below w.heap.size w w' := by
  have hB := Blk.new w 24 #[.int .u32 a, .int .i64 n]
  have c0 := hB.cell 0
  have c1 := hB.cell 1
  have b0 := (Below.refl w.heap.size w).alloc (Nat.le_refl _) (.cells #[.int .u32 a, .int .i64 n] 24)
  go_enter Tryd.func19, Tryd.ntmps19
  go_wp2_with fail
  refine (prefixRight a ha n _).mono ?_
  rw [hr]
  rintro _ w1 ⟨rfl, b1⟩
  have b01 := btr b0 b1 b0.size
  go_wp2_with fail
  go_ret
  exact ⟨rfl, b01⟩
set_option maxHeartbeats 1000000 in
set_option maxRecDepth 100000 in
theorem ref02Text_no (a : Nat) (ha : a < 4294967296) (n : Int) (w : World) (hr : pRight a n = false) :
    Calls Tryd.prog 23 #[.agg #[.int .u32 a, .int .i64 n]] w fun en w' => en = .returned (.string ⟨#[]⟩) ∧ Below w.heap.size w w' := by
  have hB := Blk.new w 24 #[.int .u32 a, .int .i64 n]
  have c0 := hB.cell 0
  have c1 := hB.cell 1
  have b0 := (Below.refl w.heap.size w).alloc (Nat.le_refl _) (.cells #[.int .u32 a, .int .i64 n] 24)
  go_enter Tryd.func23, Tryd.ntmps23
  go_wp2_with fail
  refine (refRight a ha n _).mono ?_
  rw [hr]
  rintro _ w1 ⟨rfl, b1⟩
  have b01 := btr b0 b1 b0.size
  go_wp2_with fail
  go_ret
  exact ⟨rfl, b01⟩
/-- The two parts of a prefix's text. -/
theorem partsT (a : Nat) (ha : a < 4294967296) (k : Nat) (hk : k ≤ 32) : ∃ (S1 S2 : ByteArray), Hid (S1 = ⟨(adT a).toArray⟩) ∧ Hid (S2 = ⟨(decI (k : Int)).toArray⟩) ∧ S1.size ≤ 15 ∧ S2.size ≤ 3 ∧ Hid (S1 ++ ⟨#[47]⟩ ++ S2 = ⟨(pfT a k).toArray⟩) := by
  refine ⟨_, _, Lib.hid rfl, Lib.hid rfl, adT_len a ha, ?_, Lib.hid ?_⟩
  · rw [decI_nat]
    exact decU_len 2 k (by omega)
  · rw [show (⟨#[47]⟩ : ByteArray) = ⟨[47].toArray⟩ from rfl]
    simp only [bsA, decI_nat]
    rfl
set_option maxHeartbeats 1000000 in
set_option maxRecDepth 100000 in
theorem prefixText_yes (a : Nat) (ha : a < 4294967296) (k : Nat) (hk : k ≤ 32) (S : ByteArray) (w : World) (ht : DigTab w) (hr : pRight a (k : Int) = true) (hS : Hid (S = ⟨(pfT a k).toArray⟩)) :
    Calls Tryd.prog 19 #[.agg #[.int .u32 a, .int .i64 k]] w fun en w' => en = .returned (.string S) ∧ Below w.heap.size w w' := by
  have hB := Blk.new w 24 #[.int .u32 a, .int .i64 k]
  have c0 := hB.cell 0
  have c1 := hB.cell 1
  have b0 := (Below.refl w.heap.size w).alloc (Nat.le_refl _) (.cells #[.int .u32 a, .int .i64 k] 24)
  obtain ⟨S1, S2, h1, h2, z1, z2, hT⟩ := partsT a ha k hk
  have HE := Lib.hid (hT.out.trans hS.out.symm)
  have HK1 : (-9223372036854775808 : Int) ≤ (k : Int) := by omega
  have HK2 : (k : Int) ≤ 9223372036854775807 := by omega
  go_enter Tryd.func19, Tryd.ntmps19
  go_wp2_with fail
  refine (prefixRight a ha k _).mono ?_
  rw [hr]
  rintro _ w1 ⟨rfl, b1⟩
  have b01 := btr b0 b1 b0.size
  have hB1 := hB.below b1 hB.lt
  have x0 := hB1.cell 0
  have x1 := hB1.cell 1
  have hgl := hB1.lt
  have t1 := ht.call b01
  clear c0 c1 hB hr
  go_wp2_with fail
  go_region_held (fun w' => Below w1.heap.size w1 w' ∧ w'.cell? ⟨w.heap.size, 0, none⟩ = some (.int .u32 a) ∧ w'.cell? ⟨w.heap.size, 1, none⟩ = some (.int .i64 k))
    (first | (refine keep2c hgl b3 ?_; assumption) | (refine keep2c hgl b2 ?_; assumption) | ((repeat' apply And.intro) <;> first | (with_reducible exact Below.drew (Below.refl _ _)) | (with_reducible assumption) | go_keep))
    (first
      | (go_at_call 18; refine (prefixAddr a ha S1 _ (t1.call (And.left (by with_reducible assumption))) h1).mono ?_; rintro _ w2 ⟨rfl, b2⟩)
      | (go_at_call 85; refine (octetText _ S2 _ (t1.call (And.left (by with_reducible assumption))) HK1 HK2 h2).mono ?_; rintro _ w3 ⟨rfl, b3⟩))
  all_goals
    try go_wp2_with fail
    go_ret
    exact ⟨ret_s HE.out, btr b01 (And.left (by with_reducible assumption)) b01.size⟩
set_option maxHeartbeats 1000000 in
set_option maxRecDepth 100000 in
theorem ref02Text_yes (a : Nat) (ha : a < 4294967296) (k : Nat) (hk : k ≤ 32) (S : ByteArray) (w : World) (hr : pRight a (k : Int) = true) (hS : Hid (S = ⟨(pfT a k).toArray⟩)) :
    Calls Tryd.prog 23 #[.agg #[.int .u32 a, .int .i64 k]] w fun en w' => en = .returned (.string S) ∧ Below w.heap.size w w' := by
  have hB := Blk.new w 24 #[.int .u32 a, .int .i64 k]
  have c0 := hB.cell 0
  have c1 := hB.cell 1
  have b0 := (Below.refl w.heap.size w).alloc (Nat.le_refl _) (.cells #[.int .u32 a, .int .i64 k] 24)
  obtain ⟨S1, S2, h1, h2, z1, z2, hT⟩ := partsT a ha k hk
  have HE := Lib.hid (hT.out.trans hS.out.symm)
  have HK1 : (-9223372036854775808 : Int) ≤ (k : Int) := by omega
  have HK2 : (k : Int) ≤ 9223372036854775807 := by omega
  go_enter Tryd.func23, Tryd.ntmps23
  go_wp2_with fail
  refine (refRight a ha k _).mono ?_
  rw [hr]
  rintro _ w1 ⟨rfl, b1⟩
  have b01 := btr b0 b1 b0.size
  have hB1 := hB.below b1 hB.lt
  have x0 := hB1.cell 0
  have x1 := hB1.cell 1
  have hgl := hB1.lt
  clear c0 c1 hB hr
  go_wp2_with fail
  go_region_held (fun w' => Below w1.heap.size w1 w' ∧ w'.cell? ⟨w.heap.size, 0, none⟩ = some (.int .u32 a) ∧ w'.cell? ⟨w.heap.size, 1, none⟩ = some (.int .i64 k))
    (first | (refine keep2c hgl b3 ?_; assumption) | (refine keep2c hgl b2 ?_; assumption) | ((repeat' apply And.intro) <;> first | (with_reducible exact Below.drew (Below.refl _ _)) | (with_reducible assumption) | go_keep))
    (first
      | (go_at_call 22; refine (ref02Addr a ha S1 _ h1).mono ?_; rintro _ w2 ⟨rfl, b2⟩)
      | (go_at_call 87; refine (refText _ S2 _ HK1 HK2 h2).mono ?_; rintro _ w3 ⟨rfl, b3⟩))
  all_goals
    try go_wp2_with fail
    go_ret
    exact ⟨ret_s HE.out, btr b01 (And.left (by with_reducible assumption)) b01.size⟩
end Go.Proofs.YtnhkpnohadbcdaaDoor
