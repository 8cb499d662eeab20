/- Walks of layer 12 (filter): a range as a text, and the document's. Conditions: the table of digits (DigTab) for the program's own. -/
import Derived.Test.YtnhkpnohadbcdaaDoorProg
import Derived.WalkKit
import Derived.WalkSpells
import Derived.WalkLawsBesides
import Derived.Outline
import Derived.Deep.QuietTactic
import Derived.BigQuiet
import Derived.Handy
import Derived.Lib.Hide
import Derived.Deep.RegionHeld
import Derived.Test.YtnhkpnohadbcdaaDoorFilD
import Derived.Test.YtnhkpnohadbcdaaDoorFilE
namespace Go.Proofs.YtnhkpnohadbcdaaDoor
open Go.RowKit
set_option linter.unusedSimpArgs false
theorem keep4c {w W W' : World} {g : Nat} {x y u v : Value} (hg : g < w.heap.size) (hb : Below W.heap.size W W') (h : Below w.heap.size w W ∧ W.cell? ⟨g, 0, none⟩ = some x ∧ W.cell? ⟨g, 1, none⟩ = some y ∧ W.cell? ⟨g, 2, none⟩ = some u ∧ W.cell? ⟨g, 3, none⟩ = some v) :
    Below w.heap.size w W' ∧ W'.cell? ⟨g, 0, none⟩ = some x ∧ W'.cell? ⟨g, 1, none⟩ = some y ∧ W'.cell? ⟨g, 2, none⟩ = some u ∧ W'.cell? ⟨g, 3, none⟩ = some v :=
  have hs := h.1.size
  ⟨btr h.1 hb hs, (hb.cell (show g < _ by omega)).trans h.2.1, (hb.cell (show g < _ by omega)).trans h.2.2.1, (hb.cell (show g < _ by omega)).trans h.2.2.2.1, (hb.cell (show g < _ by omega)).trans h.2.2.2.2⟩
theorem pfT_len (a k : Nat) (ha : a < 4294967296) (hk : k ≤ 32) : (pfT a k).length ≤ 19 := by
  unfold pfT
  have h1 := adT_len a ha
  have h2 := decU_len 2 k (by omega)
  simp only [List.length_append, List.length_cons, List.length_nil]
  omega
theorem rgT_len (a k lo hi : Nat) (ha : a < 4294967296) (hk : k ≤ 32) (hl : lo ≤ 32) (hh : hi ≤ 32) : (rgT a k lo hi).length ≤ 30 := by
  unfold rgT
  have h1 := pfT_len a k ha hk
  have h2 := decU_len 2 lo (by omega)
  have h3 := decU_len 2 hi (by omega)
  simp only [List.length_append, List.length_cons]
  omega
/-- The three parts of a range's text. -/
theorem partsR (a : Nat) (ha : a < 4294967296) (k : Nat) (hk : k ≤ 32) (lo : Nat) (hl : lo ≤ 32) (hi : Nat) (hh : hi ≤ 32) : ∃ (S1 S2 S3 : ByteArray), Hid (S1 = ⟨(pfT a k).toArray⟩) ∧ Hid (S2 = ⟨(decI (lo : Int)).toArray⟩) ∧ Hid (S3 = ⟨(decI (hi : Int)).toArray⟩) ∧ S1.size ≤ 19 ∧ S2.size ≤ 3 ∧ S3.size ≤ 3 ∧ Hid (S1 ++ ⟨#[32]⟩ ++ S2 ++ ⟨#[45]⟩ ++ S3 = ⟨(rgT a k lo hi).toArray⟩) := by
  refine ⟨_, _, _, Lib.hid rfl, Lib.hid rfl, Lib.hid rfl, pfT_len a k ha hk, ?_, ?_, Lib.hid ?_⟩
  · rw [decI_nat]
    exact decU_len 2 lo (by omega)
  · rw [decI_nat]
    exact decU_len 2 hi (by omega)
  · rw [show (⟨#[32]⟩ : ByteArray) = ⟨[32].toArray⟩ from rfl, show (⟨#[45]⟩ : ByteArray) = ⟨[45].toArray⟩ from rfl]
    simp only [bsA, decI_nat]
    congr 1
    unfold rgT
    simp
set_option maxHeartbeats 1000000 in
set_option maxRecDepth 100000 in
theorem filterText_no (a : Nat) (ha : a < 4294967296) (n lo hi : Int) (w : World) (hr : rgRight a n lo hi = false) :
    Calls Tryd.prog 48 #[.agg #[.int .u32 a, .int .i64 n, .int .i64 lo, .int .i64 hi]] w fun en w' => en = .returned (.string ⟨#[]⟩) ∧ Below w.heap.size w w' := by
  have hB := Blk.new w 47 #[.int .u32 a, .int .i64 n, .int .i64 lo, .int .i64 hi]
  have c0 := hB.cell 0
  have c1 := hB.cell 1
  have c2 := hB.cell 2
  have c3 := hB.cell 3
  have b0 := (Below.refl w.heap.size w).alloc (Nat.le_refl _) (.cells #[.int .u32 a, .int .i64 n, .int .i64 lo, .int .i64 hi] 47)
  go_enter Tryd.func48, Tryd.ntmps48
  go_wp2_with fail
  refine (filterRight a ha n lo hi _).mono ?_
  rw [hr]
  rintro _ w1 ⟨rfl, b1⟩
  have b01 := btr b0 b1 b0.size
  go_wp2_with fail
  go_ret
  exact ⟨rfl, b01⟩
set_option maxHeartbeats 1000000 in
set_option maxRecDepth 100000 in
theorem ref12Text_no (a : Nat) (ha : a < 4294967296) (n lo hi : Int) (w : World) (hr : rgRight a n lo hi = false) :
    Calls Tryd.prog 51 #[.agg #[.int .u32 a, .int .i64 n, .int .i64 lo, .int .i64 hi]] w fun en w' => en = .returned (.string ⟨#[]⟩) ∧ Below w.heap.size w w' := by
  have hB := Blk.new w 47 #[.int .u32 a, .int .i64 n, .int .i64 lo, .int .i64 hi]
  have c0 := hB.cell 0
  have c1 := hB.cell 1
  have c2 := hB.cell 2
  have c3 := hB.cell 3
  have b0 := (Below.refl w.heap.size w).alloc (Nat.le_refl _) (.cells #[.int .u32 a, .int .i64 n, .int .i64 lo, .int .i64 hi] 47)
  go_enter Tryd.func51, Tryd.ntmps51
  go_wp2_with fail
  refine (ref12Right a ha n lo hi _).mono ?_
  rw [hr]
  rintro _ w1 ⟨rfl, b1⟩
  have b01 := btr b0 b1 b0.size
  go_wp2_with fail
  go_ret
  exact ⟨rfl, b01⟩
set_option maxHeartbeats 2000000 in
set_option maxRecDepth 100000 in
theorem filterText_yes (a : Nat) (ha : a < 4294967296) (k lo hi : Nat) (hk : k ≤ 32) (hlo : lo ≤ 32) (hhi : hi ≤ 32) (S : ByteArray) (w : World) (ht : DigTab w) (hr : rgRight a (k : Int) lo hi = true) (hS : Hid (S = ⟨(rgT a k lo hi).toArray⟩)) :
    Calls Tryd.prog 48 #[.agg #[.int .u32 a, .int .i64 k, .int .i64 lo, .int .i64 hi]] w fun en w' => en = .returned (.string S) ∧ Below w.heap.size w w' := by
  have hB := Blk.new w 47 #[.int .u32 a, .int .i64 k, .int .i64 lo, .int .i64 hi]
  have c0 := hB.cell 0
  have c1 := hB.cell 1
  have c2 := hB.cell 2
  have c3 := hB.cell 3
  have b0 := (Below.refl w.heap.size w).alloc (Nat.le_refl _) (.cells #[.int .u32 a, .int .i64 k, .int .i64 lo, .int .i64 hi] 47)
  obtain ⟨S1, S2, S3, h1, h2, h3, z1, z2, z3, hT⟩ := partsR a ha k hk lo hlo hi hhi
  have hp : pRight a (k : Int) = true := by
    obtain ⟨k', _, _, e, _, _, _, _, _, h⟩ := rgRight_of hr
    have : k = k' := by omega
    subst this
    exact h
  have HE := Lib.hid (hT.out.trans hS.out.symm)
  have HA1 : (-9223372036854775808 : Int) ≤ (lo : Int) := by omega
  have HA2 : (lo : Int) ≤ 9223372036854775807 := by omega
  have HB1 : (-9223372036854775808 : Int) ≤ (hi : Int) := by omega
  have HB2 : (hi : Int) ≤ 9223372036854775807 := by omega
  go_enter Tryd.func48, Tryd.ntmps48
  go_wp2_with fail
  refine (filterRight a ha k lo hi _).mono ?_
  rw [hr]
  rintro _ w1 ⟨rfl, b1⟩
  have b01 := btr b0 b1 b0.size
  have hB1 := hB.below b1 hB.lt
  have x0 := hB1.cell 0
  have x1 := hB1.cell 1
  have x2 := hB1.cell 2
  have x3 := hB1.cell 3
  have hgl := hB1.lt
  have t1 := ht.call b01
  clear c0 c1 c2 c3 hB hr
  go_wp2_with fail
  refine wp_region_held_drew (S := (fun w' => Below w1.heap.size w1 w' ∧ w'.cell? ⟨w.heap.size, 0, none⟩ = some (.int .u32 a) ∧ w'.cell? ⟨w.heap.size, 1, none⟩ = some (.int .i64 k) ∧ w'.cell? ⟨w.heap.size, 2, none⟩ = some (.int .i64 lo) ∧ w'.cell? ⟨w.heap.size, 3, none⟩ = some (.int .i64 hi))) (by kernel_rfl) ?_ (fun hHeld => ?_)
  · (first | (refine keep4c hgl b4 ?_; assumption) | (refine keep4c hgl b3 ?_; assumption) | (refine keep4c hgl b2 ?_; assumption) | ((repeat' apply And.intro) <;> first | (with_reducible exact Below.drew (Below.refl _ _)) | (with_reducible assumption) | go_keep))
  refine wpAnyH_take (i := 0) (v := ?q1v0) rfl (by kernel_rfl) (by kernel_rfl) (by kernel_rfl) (by intro _ _ _ h; exact h) (Or.inl ⟨by rfl, ?q1hy0⟩) (by assumption) ?q1rest0
  case q1hy0 => (intro w hSw; (try dsimp only at hSw); go_simp; try with_reducible rfl)
  try simp only [Act.put, List.getElem_toArray, List.getElem_cons_succ, List.getElem_cons_zero, List.setIfInBounds_toArray, List.set_cons_zero, List.set_cons_succ]
  refine wpAnyH_take (i := 1) (v := ?q1v1) rfl (by kernel_rfl) (by kernel_rfl) (by kernel_rfl) (by intro _ _ _ h; exact h) (Or.inl ⟨by rfl, ?q1hy1⟩) (by assumption) ?q1rest1
  case q1hy1 => (intro w hSw; (try dsimp only at hSw); go_simp; try with_reducible rfl)
  try simp only [Act.put, List.getElem_toArray, List.getElem_cons_succ, List.getElem_cons_zero, List.setIfInBounds_toArray, List.set_cons_zero, List.set_cons_succ]
  refine wpAnyH_take (i := 4) (v := ?q1v4) rfl (by kernel_rfl) (by kernel_rfl) (by kernel_rfl) (by intro _ _ _ h; exact h) (Or.inl ⟨by rfl, ?q1hy4⟩) (by assumption) ?q1rest4
  case q1hy4 => (intro w hSw; (try dsimp only at hSw); go_simp; try with_reducible rfl)
  try simp only [Act.put, List.getElem_toArray, List.getElem_cons_succ, List.getElem_cons_zero, List.setIfInBounds_toArray, List.set_cons_zero, List.set_cons_succ]
  refine wpAnyH_take (i := 5) (v := ?q1v5) rfl (by kernel_rfl) (by kernel_rfl) (by kernel_rfl) (by intro _ _ _ h; exact h) (Or.inl ⟨by rfl, ?q1hy5⟩) (by assumption) ?q1rest5
  case q1hy5 => (intro w hSw; (try dsimp only at hSw); go_simp; try with_reducible rfl)
  try simp only [Act.put, List.getElem_toArray, List.getElem_cons_succ, List.getElem_cons_zero, List.setIfInBounds_toArray, List.set_cons_zero, List.set_cons_succ]
  refine wpAnyH_take (i := 9) (v := ?q1v9) rfl (by kernel_rfl) (by kernel_rfl) (by kernel_rfl) (by intro _ _ _ h; exact h) (Or.inl ⟨by rfl, ?q1hy9⟩) (by assumption) ?q1rest9
  case q1hy9 => (intro w hSw; (try dsimp only at hSw); go_simp; try with_reducible rfl)
  try simp only [Act.put, List.getElem_toArray, List.getElem_cons_succ, List.getElem_cons_zero, List.setIfInBounds_toArray, List.set_cons_zero, List.set_cons_succ]
  refine wpAnyH_take (i := 10) (v := ?q1v10) rfl (by kernel_rfl) (by kernel_rfl) (by kernel_rfl) (by intro _ _ _ h; exact h) (Or.inl ⟨by rfl, ?q1hy10⟩) (by assumption) ?q1rest10
  case q1hy10 => (intro w hSw; (try dsimp only at hSw); go_simp; try with_reducible rfl)
  try simp only [Act.put, List.getElem_toArray, List.getElem_cons_succ, List.getElem_cons_zero, List.setIfInBounds_toArray, List.set_cons_zero, List.set_cons_succ]
  refine wpAnyH_ready (rs := [2]) (by kernel_rfl) (by simp) ?_
  refine AllReadyH.cons rfl (fun K hK => ?_) AllReadyH.nil
  go_simp
  go_wp2_with (go_at_call 19; refine (prefixText_yes a ha k hk S1 _ (t1.call hHeld.1) hp h1).mono ?_; rintro _ w2 ⟨rfl, b2⟩)
  refine hK.out _ _ ?_ (fun hHeld => ?_)
  · try dsimp only
    (first | (refine keep4c hgl b4 ?_; assumption) | (refine keep4c hgl b3 ?_; assumption) | (refine keep4c hgl b2 ?_; assumption) | ((repeat' apply And.intro) <;> first | (with_reducible exact Below.drew (Below.refl _ _)) | (with_reducible assumption) | go_keep))
  clear hK K
  refine wpAnyH_take (i := 3) (v := .string (S1 ++ ⟨#[32]⟩)) rfl (by kernel_rfl) (by kernel_rfl) (by kernel_rfl) (by intro _ _ _ h; exact h) (Or.inl ⟨by rfl, ?q1hy3⟩) (by assumption) ?q1rest3
  case q1hy3 => (intro w hSw; (try dsimp only at hSw); go_simp; omega)
  try simp only [Act.put, List.getElem_toArray, List.getElem_cons_succ, List.getElem_cons_zero, List.setIfInBounds_toArray, List.set_cons_zero, List.set_cons_succ]
  refine wpAnyH_ready (rs := [6]) (by kernel_rfl) (by simp) ?_
  refine AllReadyH.cons rfl (fun K hK => ?_) AllReadyH.nil
  go_simp
  go_wp2_with (go_at_call 85; refine (octetText (lo : Int) S2 _ (t1.call hHeld.1) HA1 HA2 h2).mono ?_; rintro _ w3 ⟨rfl, b3⟩)
  refine hK.out _ _ ?_ (fun hHeld => ?_)
  · try dsimp only
    (first | (refine keep4c hgl b4 ?_; assumption) | (refine keep4c hgl b3 ?_; assumption) | (refine keep4c hgl b2 ?_; assumption) | ((repeat' apply And.intro) <;> first | (with_reducible exact Below.drew (Below.refl _ _)) | (with_reducible assumption) | go_keep))
  clear hK K
  refine wpAnyH_take (i := 7) (v := .string (S1 ++ ⟨#[32]⟩ ++ S2)) rfl (by kernel_rfl) (by kernel_rfl) (by kernel_rfl) (by intro _ _ _ h; exact h) (Or.inl ⟨by rfl, ?q1hy7⟩) (by assumption) ?q1rest7
  case q1hy7 => (intro w hSw; (try dsimp only at hSw); go_simp; omega)
  try simp only [Act.put, List.getElem_toArray, List.getElem_cons_succ, List.getElem_cons_zero, List.setIfInBounds_toArray, List.set_cons_zero, List.set_cons_succ]
  refine wpAnyH_take (i := 8) (v := .string (S1 ++ ⟨#[32]⟩ ++ S2 ++ ⟨#[45]⟩)) rfl (by kernel_rfl) (by kernel_rfl) (by kernel_rfl) (by intro _ _ _ h; exact h) (Or.inl ⟨by rfl, ?q1hy8⟩) (by assumption) ?q1rest8
  case q1hy8 => (intro w hSw; (try dsimp only at hSw); go_simp; omega)
  try simp only [Act.put, List.getElem_toArray, List.getElem_cons_succ, List.getElem_cons_zero, List.setIfInBounds_toArray, List.set_cons_zero, List.set_cons_succ]
  refine wpAnyH_ready (rs := [11]) (by kernel_rfl) (by simp) ?_
  refine AllReadyH.cons rfl (fun K hK => ?_) AllReadyH.nil
  go_simp
  go_wp2_with (go_at_call 85; refine (octetText (hi : Int) S3 _ (t1.call hHeld.1) HB1 HB2 h3).mono ?_; rintro _ w4 ⟨rfl, b4⟩)
  refine hK.out _ _ ?_ (fun hHeld => ?_)
  · try dsimp only
    (first | (refine keep4c hgl b4 ?_; assumption) | (refine keep4c hgl b3 ?_; assumption) | (refine keep4c hgl b2 ?_; assumption) | ((repeat' apply And.intro) <;> first | (with_reducible exact Below.drew (Below.refl _ _)) | (with_reducible assumption) | go_keep))
  clear hK K
  refine wpAnyH_take (i := 12) (v := .string (S1 ++ ⟨#[32]⟩ ++ S2 ++ ⟨#[45]⟩ ++ S3)) rfl (by kernel_rfl) (by kernel_rfl) (by kernel_rfl) (by intro _ _ _ h; exact h) (Or.inl ⟨by rfl, ?q1hy12⟩) (by assumption) ?q1rest12
  case q1hy12 => (intro w hSw; (try dsimp only at hSw); go_simp; omega)
  try simp only [Act.put, List.getElem_toArray, List.getElem_cons_succ, List.getElem_cons_zero, List.setIfInBounds_toArray, List.set_cons_zero, List.set_cons_succ]
  refine wpAnyH_take (i := 13) (v := ?q1v13) rfl (by kernel_rfl) (by kernel_rfl) (by kernel_rfl) (by intro _ _ _ h; exact h) (Or.inl ⟨by rfl, ?q1hy13⟩) (by assumption) ?q1rest13
  case q1hy13 => (intro w hSw; (try dsimp only at hSw); go_simp; try with_reducible rfl)
  try simp only [Act.put, List.getElem_toArray, List.getElem_cons_succ, List.getElem_cons_zero, List.setIfInBounds_toArray, List.set_cons_zero, List.set_cons_succ]
  refine wpAnyH_done (by kernel_rfl) ?_ _
  go_wp2_with fail
  go_ret
  exact ⟨ret_s HE.out, btr b01 hHeld.1 b01.size⟩
set_option maxHeartbeats 2000000 in
set_option maxRecDepth 100000 in
theorem ref12Text_yes (a : Nat) (ha : a < 4294967296) (k lo hi : Nat) (hk : k ≤ 32) (hlo : lo ≤ 32) (hhi : hi ≤ 32) (S : ByteArray) (w : World) (hr : rgRight a (k : Int) lo hi = true) (hS : Hid (S = ⟨(rgT a k lo hi).toArray⟩)) :
    Calls Tryd.prog 51 #[.agg #[.int .u32 a, .int .i64 k, .int .i64 lo, .int .i64 hi]] w fun en w' => en = .returned (.string S) ∧ Below w.heap.size w w' := by
  have hB := Blk.new w 47 #[.int .u32 a, .int .i64 k, .int .i64 lo, .int .i64 hi]
  have c0 := hB.cell 0
  have c1 := hB.cell 1
  have c2 := hB.cell 2
  have c3 := hB.cell 3
  have b0 := (Below.refl w.heap.size w).alloc (Nat.le_refl _) (.cells #[.int .u32 a, .int .i64 k, .int .i64 lo, .int .i64 hi] 47)
  obtain ⟨S1, S2, S3, h1, h2, h3, z1, z2, z3, hT⟩ := partsR a ha k hk lo hlo hi hhi
  have hp : pRight a (k : Int) = true := by
    obtain ⟨k', _, _, e, _, _, _, _, _, h⟩ := rgRight_of hr
    have : k = k' := by omega
    subst this
    exact h
  have HE := Lib.hid (hT.out.trans hS.out.symm)
  have HA1 : (-9223372036854775808 : Int) ≤ (lo : Int) := by omega
  have HA2 : (lo : Int) ≤ 9223372036854775807 := by omega
  have HB1 : (-9223372036854775808 : Int) ≤ (hi : Int) := by omega
  have HB2 : (hi : Int) ≤ 9223372036854775807 := by omega
  go_enter Tryd.func51, Tryd.ntmps51
  go_wp2_with fail
  refine (ref12Right a ha k lo hi _).mono ?_
  rw [hr]
  rintro _ w1 ⟨rfl, b1⟩
  have b01 := btr b0 b1 b0.size
  have hB1 := hB.below b1 hB.lt
  have x0 := hB1.cell 0
  have x1 := hB1.cell 1
  have x2 := hB1.cell 2
  have x3 := hB1.cell 3
  have hgl := hB1.lt
  clear c0 c1 c2 c3 hB hr
  go_wp2_with fail
  refine wp_region_held_drew (S := (fun w' => Below w1.heap.size w1 w' ∧ w'.cell? ⟨w.heap.size, 0, none⟩ = some (.int .u32 a) ∧ w'.cell? ⟨w.heap.size, 1, none⟩ = some (.int .i64 k) ∧ w'.cell? ⟨w.heap.size, 2, none⟩ = some (.int .i64 lo) ∧ w'.cell? ⟨w.heap.size, 3, none⟩ = some (.int .i64 hi))) (by kernel_rfl) ?_ (fun hHeld => ?_)
  · (first | (refine keep4c hgl b4 ?_; assumption) | (refine keep4c hgl b3 ?_; assumption) | (refine keep4c hgl b2 ?_; assumption) | ((repeat' apply And.intro) <;> first | (with_reducible exact Below.drew (Below.refl _ _)) | (with_reducible assumption) | go_keep))
  refine wpAnyH_take (i := 0) (v := ?q2v0) rfl (by kernel_rfl) (by kernel_rfl) (by kernel_rfl) (by intro _ _ _ h; exact h) (Or.inl ⟨by rfl, ?q2hy0⟩) (by assumption) ?q2rest0
  case q2hy0 => (intro w hSw; (try dsimp only at hSw); go_simp; try with_reducible rfl)
  try simp only [Act.put, List.getElem_toArray, List.getElem_cons_succ, List.getElem_cons_zero, List.setIfInBounds_toArray, List.set_cons_zero, List.set_cons_succ]
  refine wpAnyH_take (i := 1) (v := ?q2v1) rfl (by kernel_rfl) (by kernel_rfl) (by kernel_rfl) (by intro _ _ _ h; exact h) (Or.inl ⟨by rfl, ?q2hy1⟩) (by assumption) ?q2rest1
  case q2hy1 => (intro w hSw; (try dsimp only at hSw); go_simp; try with_reducible rfl)
  try simp only [Act.put, List.getElem_toArray, List.getElem_cons_succ, List.getElem_cons_zero, List.setIfInBounds_toArray, List.set_cons_zero, List.set_cons_succ]
  refine wpAnyH_take (i := 4) (v := ?q2v4) rfl (by kernel_rfl) (by kernel_rfl) (by kernel_rfl) (by intro _ _ _ h; exact h) (Or.inl ⟨by rfl, ?q2hy4⟩) (by assumption) ?q2rest4
  case q2hy4 => (intro w hSw; (try dsimp only at hSw); go_simp; try with_reducible rfl)
  try simp only [Act.put, List.getElem_toArray, List.getElem_cons_succ, List.getElem_cons_zero, List.setIfInBounds_toArray, List.set_cons_zero, List.set_cons_succ]
  refine wpAnyH_take (i := 5) (v := ?q2v5) rfl (by kernel_rfl) (by kernel_rfl) (by kernel_rfl) (by intro _ _ _ h; exact h) (Or.inl ⟨by rfl, ?q2hy5⟩) (by assumption) ?q2rest5
  case q2hy5 => (intro w hSw; (try dsimp only at hSw); go_simp; try with_reducible rfl)
  try simp only [Act.put, List.getElem_toArray, List.getElem_cons_succ, List.getElem_cons_zero, List.setIfInBounds_toArray, List.set_cons_zero, List.set_cons_succ]
  refine wpAnyH_take (i := 9) (v := ?q2v9) rfl (by kernel_rfl) (by kernel_rfl) (by kernel_rfl) (by intro _ _ _ h; exact h) (Or.inl ⟨by rfl, ?q2hy9⟩) (by assumption) ?q2rest9
  case q2hy9 => (intro w hSw; (try dsimp only at hSw); go_simp; try with_reducible rfl)
  try simp only [Act.put, List.getElem_toArray, List.getElem_cons_succ, List.getElem_cons_zero, List.setIfInBounds_toArray, List.set_cons_zero, List.set_cons_succ]
  refine wpAnyH_take (i := 10) (v := ?q2v10) rfl (by kernel_rfl) (by kernel_rfl) (by kernel_rfl) (by intro _ _ _ h; exact h) (Or.inl ⟨by rfl, ?q2hy10⟩) (by assumption) ?q2rest10
  case q2hy10 => (intro w hSw; (try dsimp only at hSw); go_simp; try with_reducible rfl)
  try simp only [Act.put, List.getElem_toArray, List.getElem_cons_succ, List.getElem_cons_zero, List.setIfInBounds_toArray, List.set_cons_zero, List.set_cons_succ]
  refine wpAnyH_ready (rs := [2]) (by kernel_rfl) (by simp) ?_
  refine AllReadyH.cons rfl (fun K hK => ?_) AllReadyH.nil
  go_simp
  go_wp2_with (go_at_call 23; refine (ref02Text_yes a ha k hk S1 _ hp h1).mono ?_; rintro _ w2 ⟨rfl, b2⟩)
  refine hK.out _ _ ?_ (fun hHeld => ?_)
  · try dsimp only
    (first | (refine keep4c hgl b4 ?_; assumption) | (refine keep4c hgl b3 ?_; assumption) | (refine keep4c hgl b2 ?_; assumption) | ((repeat' apply And.intro) <;> first | (with_reducible exact Below.drew (Below.refl _ _)) | (with_reducible assumption) | go_keep))
  clear hK K
  refine wpAnyH_take (i := 3) (v := .string (S1 ++ ⟨#[32]⟩)) rfl (by kernel_rfl) (by kernel_rfl) (by kernel_rfl) (by intro _ _ _ h; exact h) (Or.inl ⟨by rfl, ?q2hy3⟩) (by assumption) ?q2rest3
  case q2hy3 => (intro w hSw; (try dsimp only at hSw); go_simp; omega)
  try simp only [Act.put, List.getElem_toArray, List.getElem_cons_succ, List.getElem_cons_zero, List.setIfInBounds_toArray, List.set_cons_zero, List.set_cons_succ]
  refine wpAnyH_ready (rs := [6]) (by kernel_rfl) (by simp) ?_
  refine AllReadyH.cons rfl (fun K hK => ?_) AllReadyH.nil
  go_simp
  go_wp2_with (go_at_call 87; refine (refText (lo : Int) S2 _ HA1 HA2 h2).mono ?_; rintro _ w3 ⟨rfl, b3⟩)
  refine hK.out _ _ ?_ (fun hHeld => ?_)
  · try dsimp only
    (first | (refine keep4c hgl b4 ?_; assumption) | (refine keep4c hgl b3 ?_; assumption) | (refine keep4c hgl b2 ?_; assumption) | ((repeat' apply And.intro) <;> first | (with_reducible exact Below.drew (Below.refl _ _)) | (with_reducible assumption) | go_keep))
  clear hK K
  refine wpAnyH_take (i := 7) (v := .string (S1 ++ ⟨#[32]⟩ ++ S2)) rfl (by kernel_rfl) (by kernel_rfl) (by kernel_rfl) (by intro _ _ _ h; exact h) (Or.inl ⟨by rfl, ?q2hy7⟩) (by assumption) ?q2rest7
  case q2hy7 => (intro w hSw; (try dsimp only at hSw); go_simp; omega)
  try simp only [Act.put, List.getElem_toArray, List.getElem_cons_succ, List.getElem_cons_zero, List.setIfInBounds_toArray, List.set_cons_zero, List.set_cons_succ]
  refine wpAnyH_take (i := 8) (v := .string (S1 ++ ⟨#[32]⟩ ++ S2 ++ ⟨#[45]⟩)) rfl (by kernel_rfl) (by kernel_rfl) (by kernel_rfl) (by intro _ _ _ h; exact h) (Or.inl ⟨by rfl, ?q2hy8⟩) (by assumption) ?q2rest8
  case q2hy8 => (intro w hSw; (try dsimp only at hSw); go_simp; omega)
  try simp only [Act.put, List.getElem_toArray, List.getElem_cons_succ, List.getElem_cons_zero, List.setIfInBounds_toArray, List.set_cons_zero, List.set_cons_succ]
  refine wpAnyH_ready (rs := [11]) (by kernel_rfl) (by simp) ?_
  refine AllReadyH.cons rfl (fun K hK => ?_) AllReadyH.nil
  go_simp
  go_wp2_with (go_at_call 87; refine (refText (hi : Int) S3 _ HB1 HB2 h3).mono ?_; rintro _ w4 ⟨rfl, b4⟩)
  refine hK.out _ _ ?_ (fun hHeld => ?_)
  · try dsimp only
    (first | (refine keep4c hgl b4 ?_; assumption) | (refine keep4c hgl b3 ?_; assumption) | (refine keep4c hgl b2 ?_; assumption) | ((repeat' apply And.intro) <;> first | (with_reducible exact Below.drew (Below.refl _ _)) | (with_reducible assumption) | go_keep))
  clear hK K
  refine wpAnyH_take (i := 12) (v := .string (S1 ++ ⟨#[32]⟩ ++ S2 ++ ⟨#[45]⟩ ++ S3)) rfl (by kernel_rfl) (by kernel_rfl) (by kernel_rfl) (by intro _ _ _ h; exact h) (Or.inl ⟨by rfl, ?q2hy12⟩) (by assumption) ?q2rest12
  case q2hy12 => (intro w hSw; (try dsimp only at hSw); go_simp; omega)
  try simp only [Act.put, List.getElem_toArray, List.getElem_cons_succ, List.getElem_cons_zero, List.setIfInBounds_toArray, List.set_cons_zero, List.set_cons_succ]
  refine wpAnyH_take (i := 13) (v := ?q2v13) rfl (by kernel_rfl) (by kernel_rfl) (by kernel_rfl) (by intro _ _ _ h; exact h) (Or.inl ⟨by rfl, ?q2hy13⟩) (by assumption) ?q2rest13
  case q2hy13 => (intro w hSw; (try dsimp only at hSw); go_simp; try with_reducible rfl)
  try simp only [Act.put, List.getElem_toArray, List.getElem_cons_succ, List.getElem_cons_zero, List.setIfInBounds_toArray, List.set_cons_zero, List.set_cons_succ]
  refine wpAnyH_done (by kernel_rfl) ?_ _
  go_wp2_with fail
  go_ret
  exact ⟨ret_s HE.out, btr b01 hHeld.1 b01.size⟩
end Go.Proofs.YtnhkpnohadbcdaaDoor
