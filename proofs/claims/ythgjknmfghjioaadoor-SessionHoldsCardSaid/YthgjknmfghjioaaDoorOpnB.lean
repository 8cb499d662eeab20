/- Walks of layer 6 (open): an OPEN's body, and the document's. No conditions but sizes. -/
import Derived.Test.YthgjknmfghjioaaDoorProg
import Derived.WalkKit
import Derived.WalkSpells
import Derived.WalkLawsBesides
import Derived.Outline
import Derived.Deep.QuietTactic
import Derived.BigQuiet
import Derived.Handy
import Derived.Lib.Hide
import Derived.Test.YthgjknmfghjioaaDoorOpnA
namespace Go.Proofs.YthgjknmfghjioaaDoor
open Go.RowKit
set_option linter.unusedSimpArgs false
set_option linter.unusedVariables false
theorem putOk_no {o : Opn} (h : capsOk o.caps = false ∨ ¬ (0 ≤ o.ver ∧ o.ver ≤ 255 ∧ 0 ≤ o.asn ∧ o.asn ≤ 65535 ∧ 0 ≤ o.hold ∧ o.hold ≤ 65535)) : putOk o = false := by
  cases h2 : putOk o
  · rfl
  · exfalso
    unfold putOk at h2
    simp only [Bool.and_eq_true, decide_eq_true_eq] at h2
    rcases h with h | h
    · rw [h] at h2; exact absurd h2.1.1.1 (by simp)
    · omega
theorem putOk_yes {o : Opn} (h1 : capsOk o.caps = true) (h : 0 ≤ o.ver ∧ o.ver ≤ 255 ∧ 0 ≤ o.asn ∧ o.asn ≤ 65535 ∧ 0 ≤ o.hold ∧ o.hold ≤ 65535) : putOk o = true := by
  unfold putOk
  simp only [Bool.and_eq_true, decide_eq_true_eq]
  exact ⟨⟨⟨h1, by omega⟩, by omega⟩, by omega⟩
/-- An OPEN's body and an error's number. -/
def RetOPut (w : World) (o : Opn) (e : Ending) (w' : World) : Prop := ∃ (A : Option Addr) (n c : Nat), e = .returned (.tuple #[.slice A n c, .int .i64 (if putOk o = true then 0 else 1)]) ∧ OB w' 5 w.heap.size A n c (if putOk o = true then putB o else []) ∧ Below w.heap.size w w'
theorem RetOPut.no {w w' : World} {o : Opn} (h : putOk o = false) (hb : Below w.heap.size w w') : RetOPut w o (.returned (.tuple #[.slice none 0 0, .int .i64 1])) w' := ⟨none, 0, 0, by rw [h]; rfl, by rw [h]; exact OB.nil_, hb⟩
theorem RetOPut.yes {w w' : World} {o : Opn} {A : Option Addr} {n c : Nat} {L : List UInt8} (h : putOk o = true) (hL : L = putB o) (ho : OB w' 5 w.heap.size A n c L) (hb : Below w.heap.size w w') : RetOPut w o (.returned (.tuple #[.slice A n c, .int .i64 0])) w' := ⟨A, n, c, by rw [h]; rfl, by rw [h, if_pos rfl, ← hL]; exact ho, hb⟩
theorem u8_of {x : Int} (h0 : 0 ≤ x) (h1 : x ≤ 255) : IntKind.u8.wrap x = x := by rw [IntKind.wrap_u8]; omega
set_option maxHeartbeats 4000000 in
set_option maxRecDepth 100000 in
theorem openPut (v a h : Int) (i : Nat) (hi : i < 4294967296) (A : Option Addr) (n c : Nat) (l : List Cap) (w : World) (hd : DL rCap 2 w (Lo w) A n l) (hn : n ≤ 100000) :
    Calls Tryd.prog 25 #[.agg #[.int .i64 v, .int .i64 a, .int .i64 h, .int .u32 i, .slice A n c]] w (RetOPut w ⟨v, a, h, i, l⟩) := by
  have b0 := (Below.refl w.heap.size w).alloc (Nat.le_refl _) (.cells #[.int .i64 v, .int .i64 a, .int .i64 h, .int .u32 i, .slice A n c] 66)
  have hX := Blk.new w 66 #[.int .i64 v, .int .i64 a, .int .i64 h, .int .u32 i, .slice A n c]
  go_enter Tryd.func25, Tryd.ntmps25
  have c_hX4 := hX.cell 4
  go_wp2_with fail
  refine (openCapsBytes A n c l _ (hd.keep rCap_ok ((Kp.lt b0).trans (Kp.sub fun b hb => Nat.lt_of_lt_of_le hb b0.size))) hn).mono ?_
  rintro _ w1 ⟨A1, n1, c1, L, rfl, o1, hL, hLl, b1⟩
  clear c_hX4
  have b01 := btr b0 b1 b0.size
  have hX_1 := hX.below b1 hX.lt
  have c_hX4 := hX_1.cell 4
  have HN := Lib.hid o1.1
  cases hok : capsOk l
  · have HF := Lib.hid (RetOPut.no (w := w) (o := ⟨v, a, h, i, l⟩) (putOk_no (.inl hok)) b01)
    go_wp2_with fail
    go_ret2
    exact HF.out
  clear c_hX4
  have c_hX0 := hX_1.cell 0
  have c_hX1 := hX_1.cell 1
  have c_hX2 := hX_1.cell 2
  have c_hX3 := hX_1.cell 3
  have HL := Lib.hid (hL hok)
  have HK := Lib.hid hok
  clear hL hok
  by_cases hq0 : v < 0
  · have tq0 : decide (v < 0) = true := decide_eq_true hq0
    have HF := Lib.hid (RetOPut.no (w := w) (o := ⟨v, a, h, i, l⟩) (putOk_no (.inr (by simp only; omega))) b01)
    go_wp2_with fail
    go_ret2
    exact HF.out
  have tq0 : decide (v < 0) = false := decide_eq_false hq0
  by_cases hq1 : 255 < v
  · have tq1 : decide (255 < v) = true := decide_eq_true hq1
    have HF := Lib.hid (RetOPut.no (w := w) (o := ⟨v, a, h, i, l⟩) (putOk_no (.inr (by simp only; omega))) b01)
    go_wp2_with fail
    go_ret2
    exact HF.out
  have tq1 : decide (255 < v) = false := decide_eq_false hq1
  by_cases hq2 : a < 0
  · have tq2 : decide (a < 0) = true := decide_eq_true hq2
    have HF := Lib.hid (RetOPut.no (w := w) (o := ⟨v, a, h, i, l⟩) (putOk_no (.inr (by simp only; omega))) b01)
    go_wp2_with fail
    go_ret2
    exact HF.out
  have tq2 : decide (a < 0) = false := decide_eq_false hq2
  by_cases hq3 : 65535 < a
  · have tq3 : decide (65535 < a) = true := decide_eq_true hq3
    have HF := Lib.hid (RetOPut.no (w := w) (o := ⟨v, a, h, i, l⟩) (putOk_no (.inr (by simp only; omega))) b01)
    go_wp2_with fail
    go_ret2
    exact HF.out
  have tq3 : decide (65535 < a) = false := decide_eq_false hq3
  by_cases hq4 : h < 0
  · have tq4 : decide (h < 0) = true := decide_eq_true hq4
    have HF := Lib.hid (RetOPut.no (w := w) (o := ⟨v, a, h, i, l⟩) (putOk_no (.inr (by simp only; omega))) b01)
    go_wp2_with fail
    go_ret2
    exact HF.out
  have tq4 : decide (h < 0) = false := decide_eq_false hq4
  by_cases hq5 : 65535 < h
  · have tq5 : decide (65535 < h) = true := decide_eq_true hq5
    have HF := Lib.hid (RetOPut.no (w := w) (o := ⟨v, a, h, i, l⟩) (putOk_no (.inr (by simp only; omega))) b01)
    go_wp2_with fail
    go_ret2
    exact HF.out
  have tq5 : decide (65535 < h) = false := decide_eq_false hq5
  have HY := Lib.hid (putOk_yes (o := ⟨v, a, h, i, l⟩) HK.out (by simp only; omega))
  have hv0 : 0 ≤ v := by omega
  have hv1 : v ≤ 255 := by omega
  have wv := u8_of hv0 hv1
  have hgl := hX_1.lt
  go_wp2_with fail
  have V1 := BS.vals w1 5 [v] (by intro y hy; simp at hy; subst hy; omega) rfl
  obtain ⟨w2, hw2, hU, b2⟩ := box1c w1 #[.int .u8 v] 5
  rw [show w1.alloc (.cells (([v] : List Int).map (Value.int .u8)).toArray 5) = w2 from hw2] at V1
  clear c_hX0 c_hX1 c_hX2 c_hX3
  have b02 := btr b01 b2 b01.size
  have hX_2 := hX_1.below b2 hX_1.lt
  clear hX_1
  have o1_2 := o1.below b2
  have c_hX0 := hX_2.cell 0
  have c_hX1 := hX_2.cell 1
  have c_hX2 := hX_2.cell 2
  have c_hX3 := hX_2.cell 3
  rw [hw2]
  clear hw2
  refine (octetPut16 _ 1 1 [ub v] a _ (V1.more (by have := hU.lt; exact this)) (by simp)).mono ?_
  rintro _ w3 ⟨A3, n3, c3, rfl, o3, b3⟩
  clear c_hX0 c_hX1 c_hX2 c_hX3
  have b03 := btr b02 b3 b02.size
  have hX_3 := hX_2.below b3 hX_2.lt
  clear hX_2
  have o1_3 := o1_2.below b3
  clear o1_2
  have c_hX0 := hX_3.cell 0
  have c_hX1 := hX_3.cell 1
  have c_hX2 := hX_3.cell 2
  have c_hX3 := hX_3.cell 3
  go_wp2_with fail
  have V3 := o1_3.bs
  have lt_hX := hX_3.lt
  refine wp_region_held_drew (S := (fun w' => Below w3.heap.size w3 w' ∧ ∀ b o, b < w3.heap.size → w'.cell? ⟨b, o, none⟩ = w3.cell? ⟨b, o, none⟩)) (by kernel_rfl) ?_ (fun hHeld => ?_)
  · (first | exact heldB_keep b5 hHeld | exact heldB_keep b4 hHeld | exact hHeld | exact heldB_refl _)
  refine wpAnyH_take (i := 0) (v := ?q1v0) rfl (by kernel_rfl) (by kernel_rfl) (by kernel_rfl) (by intro _ _ _ h; exact h) (Or.inl ⟨by rfl, ?q1hy0⟩) (by assumption) ?q1rest0
  case q1hy0 => (intro w hSw; (try dsimp only at hSw); go_simp; try with_reducible rfl)
  try simp only [Act.put, List.getElem_toArray, List.getElem_cons_succ, List.getElem_cons_zero, List.setIfInBounds_toArray, List.set_cons_zero, List.set_cons_succ]
  refine wpAnyH_take (i := 1) (v := ?q1v1) rfl (by kernel_rfl) (by kernel_rfl) (by kernel_rfl) (by intro _ _ _ h; exact h) (Or.inl ⟨by rfl, ?q1hy1⟩) (by assumption) ?q1rest1
  case q1hy1 => (intro w hSw; (try dsimp only at hSw); go_simp; try with_reducible rfl)
  try simp only [Act.put, List.getElem_toArray, List.getElem_cons_succ, List.getElem_cons_zero, List.setIfInBounds_toArray, List.set_cons_zero, List.set_cons_succ]
  refine wpAnyH_take (i := 2) (v := ?q1v2) rfl (by kernel_rfl) (by kernel_rfl) (by kernel_rfl) (by intro _ _ _ h; exact h) (Or.inl ⟨by rfl, ?q1hy2⟩) (by assumption) ?q1rest2
  case q1hy2 => (intro w hSw; (try dsimp only at hSw); go_simp; try with_reducible rfl)
  try simp only [Act.put, List.getElem_toArray, List.getElem_cons_succ, List.getElem_cons_zero, List.setIfInBounds_toArray, List.set_cons_zero, List.set_cons_succ]
  refine wpAnyH_take (i := 4) (v := ?q1v4) rfl (by kernel_rfl) (by kernel_rfl) (by kernel_rfl) (by intro _ _ _ h; exact h) (Or.inl ⟨by rfl, ?q1hy4⟩) (by assumption) ?q1rest4
  case q1hy4 => (intro w hSw; (try dsimp only at hSw); go_simp; try with_reducible rfl)
  try simp only [Act.put, List.getElem_toArray, List.getElem_cons_succ, List.getElem_cons_zero, List.setIfInBounds_toArray, List.set_cons_zero, List.set_cons_succ]
  refine wpAnyH_take (i := 5) (v := ?q1v5) rfl (by kernel_rfl) (by kernel_rfl) (by kernel_rfl) (by intro _ _ _ h; exact h) (Or.inl ⟨by rfl, ?q1hy5⟩) (by assumption) ?q1rest5
  case q1hy5 => (intro w hSw; (try dsimp only at hSw); go_simp; try with_reducible rfl)
  try simp only [Act.put, List.getElem_toArray, List.getElem_cons_succ, List.getElem_cons_zero, List.setIfInBounds_toArray, List.set_cons_zero, List.set_cons_succ]
  refine wpAnyH_ready (rs := [3]) (by kernel_rfl) (by simp) ?_
  refine AllReadyH.cons rfl (fun K hK => ?_) AllReadyH.nil
  go_simp
  go_wp2_with (go_at_call 38; refine (octetPut16 A3 n3 c3 ([ub v] ++ b16 a) h _ ((o3.below hHeld.1).bs) (by simp [b16])).mono ?_; rintro _ w4 ⟨A4, n4, c4, rfl, o4, b4⟩)
  refine hK.out _ _ ?_ (fun hHeld => ?_)
  · try dsimp only
    (first | exact heldB_keep b5 hHeld | exact heldB_keep b4 hHeld | exact hHeld | exact heldB_refl _)
  clear hK K
  refine wpAnyH_ready (rs := [6]) (by kernel_rfl) (by simp) ?_
  refine AllReadyH.cons rfl (fun K hK => ?_) AllReadyH.nil
  go_simp
  go_wp2_with (go_at_call 39; refine (octetPut32 A4 n4 c4 ([ub v] ++ b16 a ++ b16 h) i _ o4.bs (by simp [b16]) (by omega) (by omega)).mono ?_; rintro _ w5 ⟨A5, n5, c5, rfl, o5, b5⟩)
  refine hK.out _ _ ?_ (fun hHeld => ?_)
  · try dsimp only
    (first | exact heldB_keep b5 hHeld | exact heldB_keep b4 hHeld | exact hHeld | exact heldB_refl _)
  clear hK K
  refine wpAnyH_take (i := 7) (v := ?q1v7) rfl (by kernel_rfl) (by kernel_rfl) (by kernel_rfl) (by intro _ _ _ h; exact h) (Or.inl ⟨by rfl, ?q1hy7⟩) (by assumption) ?q1rest7
  case q1hy7 => (intro w hSw; (try dsimp only at hSw); go_simp; try with_reducible rfl)
  try simp only [Act.put, List.getElem_toArray, List.getElem_cons_succ, List.getElem_cons_zero, List.setIfInBounds_toArray, List.set_cons_zero, List.set_cons_succ]
  refine wpAnyH_done (by kernel_rfl) ?_ _
  clear lt_hX
  have bh5 := hHeld.1
  clear hHeld
  clear c_hX0 c_hX1 c_hX2 c_hX3
  have b0h5 := btr b03 bh5 b03.size
  have hX_h5 := hX_3.below bh5 hX_3.lt
  clear hX_3
  have o1_h5 := o1_3.below bh5
  clear o1_3
  have o3_h5 := o3.below bh5
  have c_hX0 := hX_h5.cell 0
  have c_hX1 := hX_h5.cell 1
  have c_hX2 := hX_h5.cell 2
  have c_hX3 := hX_h5.cell 3
  have hs4 : w.heap.size ≤ w4.heap.size := Nat.le_trans b03.size b4.size
  have V5 := V3.below bh5
  have O5 := o5
  have hs45 := b5.size
  have hs34 : w3.heap.size ≤ w4.heap.size := b4.size
  have hs5 := b0h5.size
  have HD := Lib.hid (show ([ub v] ++ b16 a ++ b16 h ++ b32 (i : Int)).length ≤ 9 by simp [b16, b32])
  have HLL := Lib.hid (show L.length ≤ 600 from hLl)
  obtain ⟨D, hD⟩ : ∃ D, [ub v] ++ b16 a ++ b16 h ++ b32 (i : Int) = D := ⟨_, rfl⟩
  rw [hD] at O5 HD
  have HDD := Lib.hid hD
  clear hD o5 o4 o3
  by_cases h0 : n1 = 0
  · subst h0
    have HE := Lib.hid (show D ++ [ub 0] = putB ⟨v, a, h, i, l⟩ by
      have e : capsB l = [] := by rw [← HL.out]; exact List.eq_nil_of_length_eq_zero HN.out.symm
      rw [← HDD.out, putB, e, putTail_nil]; rfl)
    go_wp2_with (at_builtin; refine wpl_app rfl (.tmp 62) (.tmp 63) _ rfl 5 Tryd.underlying34 u8info w4.heap.size A5 n5 c5 D (by rfl) (O5.alloc _) (w5.heap.size + 1) (some ⟨w5.heap.size, 0, none⟩) 1 1 [ub 0] (by rfl) (BS.vals w5 5 [0] (by intro y hy; simp at hy; omega) rfl) (by have := HD.out; simp; omega) (by simp; omega) ?_; intro A6 n6 c6 w6 o6 b6 _)
    go_ret2
    exact RetOPut.yes HY.out HE.out (o6.low hs4) ((b0h5.alloc hs5 _).trans (b6.mono hs4))
  · have t0 : ((n1 : Int) == 0) = false := by simpa using h0
    have hn1 : n1 ≤ 253 := by
      have e := HK.out
      unfold capsOk at e
      rw [Bool.and_eq_true, decide_eq_true_eq] at e
      rw [HN.out, HL.out]; exact e.2
    have w1' : IntKind.u8.wrap ((n1 : Int) + 2) = n1 + 2 := u8_of (by omega) (by omega)
    have w2' : IntKind.u8.wrap (n1 : Int) = n1 := u8_of (by omega) (by omega)
    have HE := Lib.hid (show D ++ [ub ((n1 : Int) + 2), ub 2, ub (n1 : Int)] ++ L = putB ⟨v, a, h, i, l⟩ by
      have e : capsB l ≠ [] := fun e => h0 (by rw [HN.out, HL.out, e]; rfl)
      rw [← HDD.out, putB, putTail, if_neg e, ← HL.out, ← HN.out]
      simp only [List.append_assoc]
      rfl)
    have h3 : (n1 : Int) ≤ 253 := by omega
    go_wp2_with (first
      | (at_builtin; refine wpl_app rfl (.tmp 65) (.tmp 73) _ rfl 5 Tryd.underlying34 u8info w4.heap.size A5 n5 c5 D (by rfl) (O5.alloc _) (w5.heap.size + 1) (some ⟨w5.heap.size, 0, none⟩) 3 3 [ub ((n1 : Int) + 2), ub 2, ub (n1 : Int)] (by rfl) (BS.vals w5 5 [(n1 : Int) + 2, 2, (n1 : Int)] (by intro y hy; simp at hy; omega) rfl) (by have := HD.out; simp; omega) (by simp; omega) ?_; intro A6 n6 c6 w6 o6 b6 _; have V6 := (V5.alloc (Nat.le_trans hs34 hs45) _).below (b6.mono hs34); have hs46 := b6.size)
      | (at_builtin; refine wpl_app rfl (.tmp 75) (.tmp 76) _ rfl 5 Tryd.underlying34 u8info w4.heap.size A6 n6 c6 _ (by rfl) o6 w3.heap.size A1 n1 c1 L (by rfl) V6 (by have := HD.out; have := HLL.out; simp; omega) (by simp at hs46; omega) ?_; intro A7 n7 c7 w7 o7 b7 _))
    go_ret2
    exact RetOPut.yes HY.out HE.out (o7.low hs4) (((b0h5.alloc hs5 _).trans (b6.mono hs4)).trans (b7.mono hs4))
end Go.Proofs.YthgjknmfghjioaaDoor
