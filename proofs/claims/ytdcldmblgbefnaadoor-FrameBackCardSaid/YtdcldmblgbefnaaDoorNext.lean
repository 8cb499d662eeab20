/- Walks of layer 7 (frame): Next. Conditions: the table of least lengths (LeaTab). -/
import Derived.Test.YtdcldmblgbefnaaDoorProg
import Derived.WalkKit
import Derived.WalkSpells
import Derived.WalkLawsBesides
import Derived.Outline
import Derived.Deep.QuietTactic
import Derived.BigQuiet
import Derived.Handy
import Derived.Lib.Hide
import Derived.Deep.RegionHeld
import Derived.Test.YtdcldmblgbefnaaDoorHead
namespace Go.Proofs.YtdcldmblgbefnaaDoor
open Go.RowKit
/-- The first message of bytes: kind, body, length, fault. -/
def nextR (l : List UInt8) : Int × List UInt8 × Int × Int × Int × List UInt8 :=
  if l.length < 19 then (0, [], 0, 0, 0, [])
  else if (headR l).2.2.1 ≠ 0 ∨ (l.length : Int) < (headR l).1 then (0, [], 0, (headR l).2.2.1, (headR l).2.2.2.1, (headR l).2.2.2.2)
  else ((headR l).2.1, (l.drop 19).take ((headR l).1.toNat - 19), (headR l).1, 0, 0, [])
def NxPost (w : World) (r : Int × List UInt8 × Int × Int × Int × List UInt8) (X : Option Addr → Prop) (e : Ending) (w' : World) : Prop := ∃ (A : Option Addr) (n c : Nat) (A' : Option Addr) (n' c' : Nat), e = .returned (.tuple #[.int .i64 r.1, .slice A n c, .int .i64 r.2.2.1, .agg #[.int .i64 r.2.2.2.1, .int .i64 r.2.2.2.2.1, .slice A' n' c']]) ∧ n ≤ c ∧ BS w' w'.heap.size A n r.2.1 ∧ BS w' w'.heap.size A' n' r.2.2.2.2.2 ∧ Below w.heap.size w w' ∧ (0 < n → X A)
theorem OB.fresh {w : World} {T base n c B : Nat} {A : Option Addr} {l : List UInt8} (h : OB w T base A n c l) (hB : B ≤ base) : 0 < n → ∀ ad, A = some ad → B ≤ ad.block := by
  intro hn ad he
  obtain ⟨g, cap, hv, hg, _⟩ := h.2.form hn
  injection hv with hA _ _
  rw [he] at hA
  injection hA with hA
  subst hA
  exact Nat.le_trans hB hg
theorem headR_take (l : List UInt8) : headR (l.take 19) = headR l := by
  have e1 : hdN (l.take 19) = hdN l := by rw [hdN, hdN, lb_take l 19 16 (by omega), lb_take l 19 17 (by omega)]
  have e2 : hdK (l.take 19) = hdK l := by rw [hdK, hdK, lb_take l 19 18 (by omega)]
  have e3 : hdMark (l.take 19) = hdMark l := by
    have h1 := hdMark_iff (l.take 19)
    have h2 := hdMark_iff l
    have h3 : (∀ i, i < 16 → lb (l.take 19) i = 255) ↔ ∀ i, i < 16 → lb l i = 255 := by
      constructor
      · intro h i hi; rw [← lb_take l 19 i (by omega)]; exact h i hi
      · intro h i hi; rw [lb_take l 19 i (by omega)]; exact h i hi
    cases ha : hdMark (l.take 19) <;> cases hb : hdMark l
    · rfl
    · exact absurd (h1.2 (h3.2 (h2.1 hb))) (by rw [ha]; simp)
    · exact absurd (h2.2 (h3.1 (h1.1 ha))) (by rw [hb]; simp)
    · rfl
  have e4 : ((l.take 19).drop 16).take 2 = (l.drop 16).take 2 := by
    rw [List.drop_take, List.take_take]
    rfl
  rw [headR, headR, e1, e2, e3, e4]
/-- Where no fault is, the length is right. -/
theorem headR_ok (l : List UInt8) (h : (headR l).2.2.1 = 0) : (headR l).2.2.2.1 = 0 ∧ (headR l).2.2.2.2 = [] ∧ 19 ≤ (headR l).1 ∧ (headR l).1 ≤ 4096 ∧ (headR l).1 = hdN l ∧ (headR l).2.1 = hdK l := by
  unfold headR at h ⊢
  split
  · rename_i h1; rw [if_pos h1] at h; simp at h
  · rename_i h1
    rw [if_neg h1] at h
    split
    · rename_i h2; rw [if_pos h2] at h; simp at h
    · rename_i h2
      rw [if_neg h2] at h
      split
      · rename_i h3; rw [if_pos h3] at h; simp at h
      · rename_i h3
        rw [if_neg h3] at h
        split
        · rename_i h4; rw [if_pos h4] at h; simp at h
        · exact ⟨rfl, rfl, by simp only; omega, by simp only; omega, rfl, rfl⟩
theorem flt_no' {x y : Int} {A : Option Addr} {n c : Nat} : ∀ (i : Nat) (v : Int), (#[Value.int .i64 x, Value.int .i64 y, Value.slice A n c] : Array Value)[i]? ≠ some (Value.int .u8 v) := by
  intro i v
  rcases i with _ | _ | _ | i
  · simp
  · simp
  · simp
  · simp
theorem below_dr {B : Nat} {a w : World} (h : Below B a w) : Below B a w.drew := h.drew
set_option maxHeartbeats 1000000 in
set_option maxRecDepth 100000 in
theorem frameNext (A : Option Addr) (n c : Nat) (l : List UInt8) (w : World) (ht : LeaTab w) (h : BS w w.heap.size A n l) (hnc : n ≤ c) (hn : n ≤ 100000) :
    Calls Tryd.prog 63 #[.slice A n c] w (NxPost w (nextR l) fun A => ∀ ad, A = some ad → w.heap.size ≤ ad.block) := by
  have b0 := (Below.refl w.heap.size w).alloc (Nat.le_refl _) (.cells #[.int .i64 0, .int .i64 0, .slice none 0 0] 29)
  have hB0 := Blk.new w 29 #[.int .i64 0, .int .i64 0, .slice none 0 0]
  have HLN := Lib.hid h.len
  by_cases h19 : n < 19
  · have h19i : (n : Int) < 19 := by omega
    have HR := Lib.hid (show nextR l = (0, [], 0, 0, 0, []) by rw [nextR, if_pos (by rw [← HLN.out]; exact h19)])
    go_enter Tryd.func63, Tryd.ntmps63
    go_wp2_with fail
    refine bodyPost_ret (next_ret rfl _ _ w.heap.size _ _ _ rfl (by simpa using hB0)) rfl ?_
    rw [HR.out]
    exact ⟨none, 0, 0, none, 0, 0, rfl, Nat.le_refl _, BS.none_, BS.none_, b0, fun hh => absurd hh (Nat.lt_irrefl 0)⟩
  · have h19i : 19 ≤ (n : Int) := by omega
    have h19c : (19 : Int) ≤ c := by omega
    have h19n : 19 ≤ n := by omega
    have HR0 := Lib.hid (show nextR l = (if (headR l).2.2.1 ≠ 0 ∨ (l.length : Int) < (headR l).1 then (0, [], 0, (headR l).2.2.1, (headR l).2.2.2.1, (headR l).2.2.2.2) else ((headR l).2.1, (l.drop 19).take ((headR l).1.toNat - 19), (headR l).1, 0, 0, [])) by
      rw [nextR, if_neg (by rw [← HLN.out]; omega)])
    have HOK := Lib.hid (headR_ok l)
    have HH := Lib.hid (headR_take l)
    obtain ⟨b, off, rfl, hbw, _⟩ := h.form (k := 0) (by omega)
    have hT := Lib.hid (h.take_ (k := 19) (by omega))
    have HT := Lib.hid (show (l.take 19).length = 19 by rw [List.length_take, ← HLN.out]; omega)
    obtain ⟨R, hR⟩ : ∃ R, headR l = R := ⟨_, rfl⟩
    obtain ⟨N, K, C, S, D⟩ := R
    rw [hR] at HR0 HOK HH
    simp only at HR0 HOK
    clear hR
    go_enter Tryd.func63, Tryd.ntmps63
    go_wp2_with (at_builtin; refine wpl_app rfl (.const (.slice none 0 0)) (.tmp 15) _ rfl 5 Tryd.underlying27 u8info (w.heap.size + 1) none 0 0 [] rfl OB.nil_ w.heap.size _ 19 c (l.take 19) (by rfl) (hT.out.alloc (Nat.le_refl _) _) (by rw [HT.out]; simp) (by simp) ?_; intro A1 n1 c1 w1 o1 b1 g1; rw [List.nil_append] at o1; have b01 := b0.trans (b1.mono (Nat.le_succ _)); have hB1 := hB0.below b1 (Nat.lt_succ_self _))
    refine (frameHead A1 n1 c1 (l.take 19) _ (ht.call b01) o1.bs o1.cap (by rw [o1.1, HT.out])).mono ?_
    rintro _ w2 ⟨A2, n2, c2, rfl, o2, b2⟩
    rw [HH.out] at o2 ⊢
    dsimp only at o2 ⊢
    have b02 := btr b01 b2 b01.size
    have hB2 := hB1.below b2 hB1.lt
    have b03 := b02.alloc b02.size (.cells #[.int .i64 C, .int .i64 S, .slice A2 n2 c2] 29)
    have hB3 := hB2.alloc (.cells #[.int .i64 C, .int .i64 S, .slice A2 n2 c2] 29)
    have hF3 := Blk.new w2 29 #[.int .i64 C, .int .i64 S, .slice A2 n2 c2]
    have o3 := (o2.alloc (Nat.le_refl _) (.cells #[.int .i64 C, .int .i64 S, .slice A2 n2 c2] 29)).more (B' := (w2.alloc (.cells #[.int .i64 C, .int .i64 S, .slice A2 n2 c2] 29)).heap.size) (by simp)
    have hne : ¬ w2.heap.size = w.heap.size := by have := hB2.lt; omega
    obtain ⟨W3, hW3⟩ : ∃ W3, w2.alloc (.cells #[.int .i64 C, .int .i64 S, .slice A2 n2 c2] 29) = W3 := ⟨_, rfl⟩
    rw [hW3] at b03 hB3 hF3 o3
    have k0 : W3.cell? ⟨w2.heap.size, 0, none⟩ = some (.int .i64 C) := hF3.cell 0
    have k1 : W3.cell? ⟨w2.heap.size, 1, none⟩ = some (.int .i64 S) := hF3.cell 1
    have k2 : W3.cell? ⟨w2.heap.size, 2, none⟩ = some (.slice A2 n2 c2) := hF3.cell 2
    have m0 : W3.cell? ⟨w.heap.size, 0, none⟩ = some (.int .i64 0) := hB3.cell 0
    have m1 : W3.cell? ⟨w.heap.size, 1, none⟩ = some (.int .i64 0) := hB3.cell 1
    have m2 : W3.cell? ⟨w.heap.size, 2, none⟩ = some (.slice none 0 0) := hB3.cell 2
    have f0 := hB3.frozen 0
    have f1 := hB3.frozen 1
    have f2 := hB3.frozen 2
    by_cases hC : C = 0
    · subst hC
      obtain ⟨hS0, hD0, hN1, hN2, -, -⟩ := HOK.out rfl
      subst hS0 hD0
      obtain ⟨m, rfl⟩ := Int.eq_ofNat_of_zero_le (show 0 ≤ N by omega)
      by_cases hlt : n < m
      · have hlti : (n : Int) < m := by omega
        have HR := Lib.hid (show nextR l = (0, [], 0, 0, 0, []) by rw [HR0.out, if_pos (.inr (by rw [← HLN.out]; omega))])
        go_wp2_with fail
        go_region
        all_goals
          try go_wp2_with fail
          have hBf := ((hB3.set_ 0 (.int .i64 0)).set_ 1 (.int .i64 0)).set_ 2 (.slice A2 n2 c2)
          have bf := ((b03.setCell (p := ⟨w.heap.size, 0, none⟩) (Nat.le_refl _) (.int .i64 0)).setCell (p := ⟨w.heap.size, 1, none⟩) (Nat.le_refl _) (.int .i64 0)).setCell (p := ⟨w.heap.size, 2, none⟩) (Nat.le_refl _) (.slice A2 n2 c2)
          have hgf := only_setCell (only_setCell (only_setCell (World.grownBy.refl W3 (some w.heap.size)) (p := ⟨w.heap.size, 0, none⟩) (.inl rfl) (.int .i64 0)) (p := ⟨w.heap.size, 1, none⟩) (.inl rfl) (.int .i64 0)) (p := ⟨w.heap.size, 2, none⟩) (.inl rfl) (.slice A2 n2 c2)
          refine bodyPost_ret (next_ret rfl _ _ w.heap.size (.int .i64 0) (.int .i64 0) (.slice A2 n2 c2) rfl (Blk.drew (by simpa using hBf))) rfl ?_
          rw [HR.out]
          exact ⟨none, 0, 0, A2, n2, c2, rfl, Nat.le_refl _, BS.none_, o3.grownAt (only_drew hgf) (o3.apart hB3 flt_no'), below_dr bf, fun hh => absurd hh (Nat.lt_irrefl 0)⟩
      · have hge : (m : Int) ≤ n := by omega
        have hge2 : (m : Int) ≤ c := by omega
        have hge3 : (19 : Int) ≤ m := by omega
        have HR := Lib.hid (show nextR l = (K, (l.drop 19).take (m - 19), (m : Int), 0, 0, []) by
          rw [HR0.out, if_neg (by rw [← HLN.out]; omega)]
          simp)
        have hP := (h.drop_ (k := 19) (by omega) hnc).take_ (k := m - 19) (by omega)
        have HPl := Lib.hid (show ((l.drop 19).take (m - 19)).length ≤ 100000 by rw [List.length_take, List.length_drop, ← HLN.out]; omega)
        obtain ⟨A4, hA4⟩ : ∃ A4, (if c = 19 then some (⟨b, off, none⟩ : Addr) else (some (⟨b, off, none⟩ : Addr)).map (·.add 19)) = A4 := ⟨_, rfl⟩
        rw [hA4] at hP
        have HP := Lib.hid hP
        have HA4 := Lib.hid hA4
        clear hP hA4
        by_cases hc19 : c = 19
        · subst hc19
          obtain rfl : m = 19 := by omega
          obtain rfl : n = 19 := by omega
          have HRR := Lib.hid (show (l.drop 19).take (19 - 19) = [] by simp)
          go_wp2_with (at_builtin; refine wpl_app rfl (.const (.slice none 0 0)) (.tmp 34) _ rfl 5 Tryd.underlying27 u8info W3.heap.size none 0 0 [] rfl OB.nil_ w.heap.size (some ⟨b, off, none⟩) 0 0 [] (by rfl) ⟨rfl, rfl, fun hh => absurd hh (by omega)⟩ (by simp) (Nat.le_refl _) ?_; intro A5 n5 c5 w5 o5 b5 g5; rw [List.nil_append] at o5; have hB5 := hB3.below b5 hB3.lt; have b05 := btr b03 b5 b03.size; have m0 := hB5.cell 0; have m1 := hB5.cell 1; have m2 := hB5.cell 2; have f0 := hB5.frozen 0; have f1 := hB5.frozen 1; have f2 := hB5.frozen 2)
          have hBf := ((hB5.set_ 0 (.int .i64 0)).set_ 1 (.int .i64 0)).set_ 2 (.slice none 0 0)
          have bf := ((b05.setCell (p := ⟨w.heap.size, 0, none⟩) (Nat.le_refl _) (.int .i64 0)).setCell (p := ⟨w.heap.size, 1, none⟩) (Nat.le_refl _) (.int .i64 0)).setCell (p := ⟨w.heap.size, 2, none⟩) (Nat.le_refl _) (.slice none 0 0)
          have hgf := only_setCell (only_setCell (only_setCell (World.grownBy.refl w5 (some w.heap.size)) (p := ⟨w.heap.size, 0, none⟩) (.inl rfl) (.int .i64 0)) (p := ⟨w.heap.size, 1, none⟩) (.inl rfl) (.int .i64 0)) (p := ⟨w.heap.size, 2, none⟩) (.inl rfl) (.slice none 0 0)
          have o6 := o5.bs.grownAt hgf (o5.bs.apart hB5 flt_no')
          refine bodyPost_ret (next_ret rfl _ _ w.heap.size (.int .i64 0) (.int .i64 0) (.slice none 0 0) rfl (by simpa using hBf)) rfl ?_
          rw [HR.out, HRR.out]
          exact ⟨A5, n5, c5, none, 0, 0, rfl, o5.cap, o6, BS.none_, bf, o5.fresh b03.size⟩
        · have HA5 := Lib.hid (show A4 = some ⟨b, off + 19, none⟩ by rw [← HA4.out, if_neg hc19]; rfl)
          go_wp2_with (at_builtin; refine wpl_app rfl (.const (.slice none 0 0)) (.tmp 34) _ rfl 5 Tryd.underlying27 u8info W3.heap.size none 0 0 [] rfl OB.nil_ w.heap.size (some ⟨b, off + 19, none⟩) (m - 19) (c - 19) ((l.drop 19).take (m - 19)) (by rfl) (by rw [← HA5.out]; exact HP.out.below b03) (by rw [List.length_nil, Nat.zero_add]; exact Nat.le_trans HPl.out (by omega)) (Nat.le_refl _) ?_; intro A5 n5 c5 w5 o5 b5 g5; rw [List.nil_append] at o5; have hB5 := hB3.below b5 hB3.lt; have b05 := btr b03 b5 b03.size; have m0 := hB5.cell 0; have m1 := hB5.cell 1; have m2 := hB5.cell 2; have f0 := hB5.frozen 0; have f1 := hB5.frozen 1; have f2 := hB5.frozen 2)
          have hBf := ((hB5.set_ 0 (.int .i64 0)).set_ 1 (.int .i64 0)).set_ 2 (.slice none 0 0)
          have bf := ((b05.setCell (p := ⟨w.heap.size, 0, none⟩) (Nat.le_refl _) (.int .i64 0)).setCell (p := ⟨w.heap.size, 1, none⟩) (Nat.le_refl _) (.int .i64 0)).setCell (p := ⟨w.heap.size, 2, none⟩) (Nat.le_refl _) (.slice none 0 0)
          have hgf := only_setCell (only_setCell (only_setCell (World.grownBy.refl w5 (some w.heap.size)) (p := ⟨w.heap.size, 0, none⟩) (.inl rfl) (.int .i64 0)) (p := ⟨w.heap.size, 1, none⟩) (.inl rfl) (.int .i64 0)) (p := ⟨w.heap.size, 2, none⟩) (.inl rfl) (.slice none 0 0)
          have o6 := o5.bs.grownAt hgf (o5.bs.apart hB5 flt_no')
          refine bodyPost_ret (next_ret rfl _ _ w.heap.size (.int .i64 0) (.int .i64 0) (.slice none 0 0) rfl (by simpa using hBf)) rfl ?_
          rw [HR.out]
          exact ⟨A5, n5, c5, none, 0, 0, rfl, o5.cap, o6, BS.none_, bf, o5.fresh b03.size⟩
    · have HR := Lib.hid (show nextR l = (0, [], 0, C, S, D) by rw [HR0.out, if_pos (.inl hC)])
      have hc : (C != 0) = true := by simpa using hC
      go_wp2_with fail
      go_region
      all_goals
        try go_wp2_with fail
        have hBf := ((hB3.set_ 0 (.int .i64 C)).set_ 1 (.int .i64 S)).set_ 2 (.slice A2 n2 c2)
        have bf := ((b03.setCell (p := ⟨w.heap.size, 0, none⟩) (Nat.le_refl _) (.int .i64 C)).setCell (p := ⟨w.heap.size, 1, none⟩) (Nat.le_refl _) (.int .i64 S)).setCell (p := ⟨w.heap.size, 2, none⟩) (Nat.le_refl _) (.slice A2 n2 c2)
        have hgf := only_setCell (only_setCell (only_setCell (World.grownBy.refl W3 (some w.heap.size)) (p := ⟨w.heap.size, 0, none⟩) (.inl rfl) (.int .i64 C)) (p := ⟨w.heap.size, 1, none⟩) (.inl rfl) (.int .i64 S)) (p := ⟨w.heap.size, 2, none⟩) (.inl rfl) (.slice A2 n2 c2)
        refine bodyPost_ret (next_ret rfl _ _ w.heap.size (.int .i64 C) (.int .i64 S) (.slice A2 n2 c2) rfl (Blk.drew (by simpa using hBf))) rfl ?_
        rw [HR.out]
        exact ⟨none, 0, 0, A2, n2, c2, rfl, Nat.le_refl _, BS.none_, o3.grownAt (only_drew hgf) (o3.apart hB3 flt_no'), below_dr bf, fun hh => absurd hh (Nat.lt_irrefl 0)⟩
end Go.Proofs.YtdcldmblgbefnaaDoor
