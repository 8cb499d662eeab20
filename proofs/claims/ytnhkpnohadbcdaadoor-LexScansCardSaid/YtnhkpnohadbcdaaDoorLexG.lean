/- Walks of layer 13 (lex): values as words that are told; the document's sameness of them. No conditions but sizes. -/
import Derived.Test.YtnhkpnohadbcdaaDoorProg
import Derived.WalkKit
import Derived.WalkSpells
import Derived.WalkLawsBesides
import Derived.Outline
import Derived.Deep.QuietTactic
import Derived.BigQuiet
import Derived.Handy
import Derived.Lib.Hide
import Derived.RegionTactic
import Derived.Test.YtnhkpnohadbcdaaDoorLexLawA
namespace Go.Proofs.YtnhkpnohadbcdaaDoor
open Go.RowKit
set_option linter.unusedSimpArgs false
set_option linter.unusedVariables false
/-- A word as it is told: kind, text, number. -/
abbrev Tok := Int × ByteArray × Int
def tokT : Tk → Tok
  | .word s => (1, s, 0)
  | .num n => (2, ⟨#[]⟩, n)
  | .quo s => (3, s, 0)
  | _ => (0, ⟨#[]⟩, 0)
def tokC (t : Tok) : List Value := [.int .i64 t.1, .string t.2.1, .int .i64 t.2.2]
def toksC (l : List Tok) : List Value := l.flatMap tokC
theorem toksC_len (l : List Tok) : (toksC l).length = l.length * 3 := by
  induction l with
  | nil => rfl
  | cons a l ih => rw [toksC, List.flatMap_cons, List.length_append, ← toksC, ih]; simp [tokC]; omega
theorem toksC_snoc (l : List Tok) (t : Tok) : toksC (l ++ [t]) = toksC l ++ tokC t := by simp [toksC]
theorem toksC_at {l : List Tok} {j : Nat} {t : Tok} (h : l[j]? = some t) (i : Nat) (hi : i < 3) : (toksC l)[j * 3 + i]? = (tokC t)[i]? := by
  induction l generalizing j with
  | nil => simp at h
  | cons a l ih =>
    have e : toksC (a :: l) = tokC a ++ toksC l := by simp [toksC]
    have hl : (tokC a).length = 3 := rfl
    rw [e]
    cases j with
    | zero =>
      simp at h
      subst h
      rw [List.getElem?_append_left (by omega)]
      congr 1
      omega
    | succ j =>
      rw [List.getElem?_append_right (by omega), hl, show (j + 1) * 3 + i - 3 = j * 3 + i by omega]
      exact ih (by simpa using h)
theorem tok_info : (Tryd.prog.info? 90).map (fun i => (i.zero, i.size, i.bytes)) = some (some (.agg #[.int .i64 0, .string ⟨#[]⟩, .int .i64 0]), 3, 32) := by kernel_rfl
theorem Rw.at1 {w : World} {S : Nat → Prop} {A : Option Addr} {n : Nat} {xs : List Value} (h : Rw w S 1 A n xs) {j : Nat} {v : Value} (hj : xs[j]? = some v) : ∃ b off, A = some ⟨b, off, none⟩ ∧ S b ∧ w.cell? ⟨b, off + j, none⟩ = some v := by
  have hl := (List.getElem?_eq_some_iff.1 hj).1
  obtain ⟨b, off, e, hb, hc⟩ := h.2 (by have := h.1; omega)
  exact ⟨b, off, e, hb, hc j v hj⟩
theorem three_reads {w : World} {g : Nat} {t : TypeId} {x y z : Value} (h : Blk w g t #[x, y, z]) : Reads w (g + 1) 3 (some ⟨g, 0, none⟩) 1 [x, y, z] :=
  ⟨rfl, fun _ => ⟨_, rfl, Nat.lt_succ_self _, fun j u hu => by
    rw [addr_add, Nat.zero_add]
    rcases j with _ | _ | _ | j
    · simp at hu; subst hu; exact h.cell 0
    · simp at hu; subst hu; exact h.cell 1
    · simp at hu; subst hu; exact h.cell 2
    · simp at hu⟩⟩
set_option maxHeartbeats 8000000 in
set_option maxRecDepth 100000 in
theorem lexTokens (A : Option Addr) (n c : Nat) (ts : List Tk) (w : World) (h : Rw w (Lo w) 1 A n (ts.map Tk.v)) (hn : n ≤ 1000) :
    Calls Tryd.prog 77 #[.slice A n c] w fun e w' => ∃ (A1 : Option Addr) (c1 : Nat), e = .returned (.slice A1 n c1) ∧ w'.ownsRow w.heap.size 90 3 (.slice A1 n c1) n (toksC (ts.map tokT)) ∧ Below w.heap.size w w' := by
  have hnl := h.1
  rw [List.length_map, Nat.mul_one] at hnl
  have HNL := Lib.hid hnl
  clear hnl
  go_enter Tryd.func77, Tryd.ntmps77
  go_wp2_with fail
  go_loopw [3, 9] (fun v3 v9 wr => ∃ (j : Nat) (A1 : Option Addr) (c1 : Nat), j ≤ n ∧ v9 = .int .i64 j ∧ v3 = .slice A1 j c1 ∧ wr.ownsRow w.heap.size 90 3 (.slice A1 j c1) j (toksC ((ts.take j).map tokT)) ∧ Below w.heap.size w wr) (fun _ v9 _ => n - (intOf v9).toNat)
  case atStart => exact ⟨0, none, 0, by omega, rfl, rfl, World.ownsRow_nil _ _ _ _, Below.refl _ _⟩
  case round =>
    obtain ⟨j, A1, c1, hj, rfl, rfl, ho, hb⟩ := hrel
    by_cases hlt : j < n
    case neg =>
      have d0 : decide ((j : Int) < n) = false := decide_eq_false (by omega)
      have e : j = n := by omega
      have ho' : wr.ownsRow w.heap.size 90 3 (.slice A1 n c1) n (toksC (ts.map tokT)) := by
        rw [e, List.take_of_length_le (by have := HNL.out; omega)] at ho; exact ho
      have he : (Ending.returned (.slice A1 j c1)) = .returned (.slice A1 n c1) := by rw [e]
      have HX := Lib.hid (And.intro he ho')
      clear e ho' he
      go_wp2_with fail
      go_ret
      exact ⟨A1, c1, HX.out.1, HX.out.2, hb⟩
    have d0 : decide ((j : Int) < n) = true := decide_eq_true (by omega)
    have hji : (j : Int) < n := by omega
    obtain ⟨t, htj⟩ : ∃ t, ts[j]? = some t := ⟨_, List.getElem?_eq_getElem (by have := HNL.out; omega)⟩
    obtain ⟨b, off, rfl, hbl, k0⟩ := (h.keep (Kp.call hb)).at1 (j := j) (v := t.v) (by rw [List.getElem?_map, htj]; rfl)
    have hbl : b < wr.heap.size := hbl
    have HTK := Lib.hid (show toksC ((ts.take (j + 1)).map tokT) = toksC ((ts.take j).map tokT) ++ tokC (tokT t) by
      obtain ⟨g1, g2⟩ := List.getElem?_eq_some_iff.1 htj
      rw [List.take_succ_eq_append_getElem g1, g2, List.map_append, List.map_singleton, toksC_snoc])
    clear htj
    rcases t with s | m | s | s | m | _
    · have k0 : wr.cell? ⟨b, off + j, none⟩ = some (.iface 107 (.string s)) := k0
      go_wp2_with fail
      refine (asK (.word s) _ 1 rfl rfl _).mono ?_
      rintro _ w2 ⟨rfl, b2⟩
      go_upto_region 6 with fail
      obtain ⟨w3, hw3, hS, b3⟩ := box1c w2 #[.int .i64 1, .string ⟨#[]⟩, .int .i64 0] 90
      try rw [hw3]
      clear hw3
      have b03 := btr (btr hb b2 hb.size) b3 (by have := hb.size; have := b2.size; omega)
      have z3 := b3.size
      have z2 := b2.size
      have zb := hb.size
      have o3 := own_below (own_below ho b2) b3
      have hSl := hS.lt
      have s0 := hS.cell 0
      have s1 := hS.cell 1
      have s2 := hS.cell 2
      have f1 := hS.frozen 1
      have f2 := hS.frozen 2
      go_wp2_with fail
      refine (lexMustWord s _).mono ?_
      rintro _ w4 ⟨rfl, b4⟩
      clear s0 s1 s2 f1 f2
      have hS4 := hS.below b4 hSl
      have o4 := own_below o3 b4
      have b04 := btr b03 b4 b03.size
      have g1 := hS4.frozen 1
      have m1 := hS4.cell 1
      go_upto_region 13 with fail
      obtain ⟨w5, hw5⟩ : ∃ W, w4.setCell ⟨w2.heap.size, 1, none⟩ (.string s) = W := ⟨_, rfl⟩
      have hS5 := hS4.set_ 1 (.string s)
      simp only [List.setIfInBounds_toArray, List.set_cons_succ, List.set_cons_zero] at hS5
      have hg5 := only_setCell (World.grownBy.refl w4 (some w2.heap.size)) (p := ⟨w2.heap.size, 1, none⟩) (.inl rfl) (.string s)
      have o5 := own_keep o4 (w' := w4.setCell ⟨w2.heap.size, 1, none⟩ (.string s)) (fun k hk => Below.heap_setCell _ _ _ _ (by have := (ho.lt k hk).2; show k ≠ w2.heap.size; omega))
      have b05 := b04.setCell (p := ⟨w2.heap.size, 1, none⟩) (by show w.heap.size ≤ w2.heap.size; omega) (.string s)
      rw [hw5] at hS5 o5 b05
      try rw [hw5]
      clear hw5 g1 m1
      have r0 := hS5.cell 0
      have r1 := hS5.cell 1
      have r2 := hS5.cell 2
      have oa := own_alloc o5 (.cells #[.int .i64 1, .string s, .int .i64 0] 90)
      have ba := b05.alloc b05.size (.cells #[.int .i64 1, .string s, .int .i64 0] 90)
      have wj : IntKind.i64.wrap ((j : Int) + 1) = (j : Int) + 1 := IntWalk.i64_in _ ⟨by omega, by omega⟩
      have zB := b05.size
      go_wp2_with (at_builtin; refine wpl_appR rfl (.tmp 36) (.tmp 38) 83 rfl 90 _ 3 32 Tryd.underlying83 tok_info rfl (by omega) w.heap.size A1 j c1 _ (by rfl) oa (w5.heap.size + 1) (some ⟨w5.heap.size, 0, none⟩) 1 1 (tokC (tokT (.word s))) (by rfl) (three_reads (Blk.new w5 90 _)) (by intro u hu; simp [tokC, tokT] at hu; rcases hu with rfl | rfl | rfl <;> rfl) (by unfold maxLen; omega) (by omega) (by simp; omega) ?_; intro A6 c6 w6 o6 b6 g6 _)
      go_roundw
      case rel => exact ⟨j + 1, A6, c6, by omega, by go_num, rfl, by rw [HTK.out]; exact o6, ba.trans b6⟩
      case measure => simp [intOf]; omega
    · have k0 : wr.cell? ⟨b, off + j, none⟩ = some (.iface 108 (.int .i64 m)) := k0
      go_wp2_with fail
      refine (asK (.num m) _ 2 rfl rfl _).mono ?_
      rintro _ w2 ⟨rfl, b2⟩
      go_upto_region 6 with fail
      obtain ⟨w3, hw3, hS, b3⟩ := box1c w2 #[.int .i64 2, .string ⟨#[]⟩, .int .i64 0] 90
      try rw [hw3]
      clear hw3
      have b03 := btr (btr hb b2 hb.size) b3 (by have := hb.size; have := b2.size; omega)
      have z3 := b3.size
      have z2 := b2.size
      have zb := hb.size
      have o3 := own_below (own_below ho b2) b3
      have hSl := hS.lt
      have s0 := hS.cell 0
      have s1 := hS.cell 1
      have s2 := hS.cell 2
      have f1 := hS.frozen 1
      have f2 := hS.frozen 2
      go_wp2_with fail
      refine (lexMustNum m _).mono ?_
      rintro _ w4 ⟨rfl, b4⟩
      clear s0 s1 s2 f1 f2
      have hS4 := hS.below b4 hSl
      have o4 := own_below o3 b4
      have b04 := btr b03 b4 b03.size
      have g2 := hS4.frozen 2
      have m2 := hS4.cell 2
      go_upto_region 13 with fail
      obtain ⟨w5, hw5⟩ : ∃ W, w4.setCell ⟨w2.heap.size, 2, none⟩ (.int .i64 m) = W := ⟨_, rfl⟩
      have hS5 := hS4.set_ 2 (.int .i64 m)
      simp only [List.setIfInBounds_toArray, List.set_cons_succ, List.set_cons_zero] at hS5
      have hg5 := only_setCell (World.grownBy.refl w4 (some w2.heap.size)) (p := ⟨w2.heap.size, 2, none⟩) (.inl rfl) (.int .i64 m)
      have o5 := own_keep o4 (w' := w4.setCell ⟨w2.heap.size, 2, none⟩ (.int .i64 m)) (fun k hk => Below.heap_setCell _ _ _ _ (by have := (ho.lt k hk).2; show k ≠ w2.heap.size; omega))
      have b05 := b04.setCell (p := ⟨w2.heap.size, 2, none⟩) (by show w.heap.size ≤ w2.heap.size; omega) (.int .i64 m)
      rw [hw5] at hS5 o5 b05
      try rw [hw5]
      clear hw5 g2 m2
      have r0 := hS5.cell 0
      have r1 := hS5.cell 1
      have r2 := hS5.cell 2
      have oa := own_alloc o5 (.cells #[.int .i64 2, .string (⟨#[]⟩ : ByteArray), .int .i64 m] 90)
      have ba := b05.alloc b05.size (.cells #[.int .i64 2, .string (⟨#[]⟩ : ByteArray), .int .i64 m] 90)
      have wj : IntKind.i64.wrap ((j : Int) + 1) = (j : Int) + 1 := IntWalk.i64_in _ ⟨by omega, by omega⟩
      have zB := b05.size
      go_wp2_with (at_builtin; refine wpl_appR rfl (.tmp 36) (.tmp 38) 83 rfl 90 _ 3 32 Tryd.underlying83 tok_info rfl (by omega) w.heap.size A1 j c1 _ (by rfl) oa (w5.heap.size + 1) (some ⟨w5.heap.size, 0, none⟩) 1 1 (tokC (tokT (.num m))) (by rfl) (three_reads (Blk.new w5 90 _)) (by intro u hu; simp [tokC, tokT] at hu; rcases hu with rfl | rfl | rfl <;> rfl) (by unfold maxLen; omega) (by omega) (by simp; omega) ?_; intro A6 c6 w6 o6 b6 g6 _)
      go_roundw
      case rel => exact ⟨j + 1, A6, c6, by omega, by go_num, rfl, by rw [HTK.out]; exact o6, ba.trans b6⟩
      case measure => simp [intOf]; omega
    · have k0 : wr.cell? ⟨b, off + j, none⟩ = some (.iface 109 (.string s)) := k0
      go_wp2_with fail
      refine (asK (.quo s) _ 3 rfl rfl _).mono ?_
      rintro _ w2 ⟨rfl, b2⟩
      go_upto_region 6 with fail
      obtain ⟨w3, hw3, hS, b3⟩ := box1c w2 #[.int .i64 3, .string ⟨#[]⟩, .int .i64 0] 90
      try rw [hw3]
      clear hw3
      have b03 := btr (btr hb b2 hb.size) b3 (by have := hb.size; have := b2.size; omega)
      have z3 := b3.size
      have z2 := b2.size
      have zb := hb.size
      have o3 := own_below (own_below ho b2) b3
      have hSl := hS.lt
      have s0 := hS.cell 0
      have s1 := hS.cell 1
      have s2 := hS.cell 2
      have f1 := hS.frozen 1
      have f2 := hS.frozen 2
      go_wp2_with fail
      refine (asQ (.quo s) _ s true rfl rfl rfl _).mono ?_
      rintro _ w4 ⟨rfl, b4⟩
      clear s0 s1 s2 f1 f2
      have hS4 := hS.below b4 hSl
      have o4 := own_below o3 b4
      have b04 := btr b03 b4 b03.size
      have g1 := hS4.frozen 1
      have m1 := hS4.cell 1
      go_upto_region 13 with fail
      obtain ⟨w5, hw5⟩ : ∃ W, w4.setCell ⟨w2.heap.size, 1, none⟩ (.string s) = W := ⟨_, rfl⟩
      have hS5 := hS4.set_ 1 (.string s)
      simp only [List.setIfInBounds_toArray, List.set_cons_succ, List.set_cons_zero] at hS5
      have hg5 := only_setCell (World.grownBy.refl w4 (some w2.heap.size)) (p := ⟨w2.heap.size, 1, none⟩) (.inl rfl) (.string s)
      have o5 := own_keep o4 (w' := w4.setCell ⟨w2.heap.size, 1, none⟩ (.string s)) (fun k hk => Below.heap_setCell _ _ _ _ (by have := (ho.lt k hk).2; show k ≠ w2.heap.size; omega))
      have b05 := b04.setCell (p := ⟨w2.heap.size, 1, none⟩) (by show w.heap.size ≤ w2.heap.size; omega) (.string s)
      rw [hw5] at hS5 o5 b05
      try rw [hw5]
      clear hw5 g1 m1
      have r0 := hS5.cell 0
      have r1 := hS5.cell 1
      have r2 := hS5.cell 2
      have oa := own_alloc o5 (.cells #[.int .i64 3, .string s, .int .i64 0] 90)
      have ba := b05.alloc b05.size (.cells #[.int .i64 3, .string s, .int .i64 0] 90)
      have wj : IntKind.i64.wrap ((j : Int) + 1) = (j : Int) + 1 := IntWalk.i64_in _ ⟨by omega, by omega⟩
      have zB := b05.size
      go_wp2_with (at_builtin; refine wpl_appR rfl (.tmp 36) (.tmp 38) 83 rfl 90 _ 3 32 Tryd.underlying83 tok_info rfl (by omega) w.heap.size A1 j c1 _ (by rfl) oa (w5.heap.size + 1) (some ⟨w5.heap.size, 0, none⟩) 1 1 (tokC (tokT (.quo s))) (by rfl) (three_reads (Blk.new w5 90 _)) (by intro u hu; simp [tokC, tokT] at hu; rcases hu with rfl | rfl | rfl <;> rfl) (by unfold maxLen; omega) (by omega) (by simp; omega) ?_; intro A6 c6 w6 o6 b6 g6 _)
      go_roundw
      case rel => exact ⟨j + 1, A6, c6, by omega, by go_num, rfl, by rw [HTK.out]; exact o6, ba.trans b6⟩
      case measure => simp [intOf]; omega
    · have k0 : wr.cell? ⟨b, off + j, none⟩ = some (.iface 9 (.string s)) := k0
      go_wp2_with fail
      refine (asK (.str s) _ 0 rfl rfl _).mono ?_
      rintro _ w2 ⟨rfl, b2⟩
      go_upto_region 6 with fail
      obtain ⟨w3, hw3, hS, b3⟩ := box1c w2 #[.int .i64 0, .string ⟨#[]⟩, .int .i64 0] 90
      try rw [hw3]
      clear hw3
      have b03 := btr (btr hb b2 hb.size) b3 (by have := hb.size; have := b2.size; omega)
      have z3 := b3.size
      have z2 := b2.size
      have zb := hb.size
      have o3 := own_below (own_below ho b2) b3
      have hSl := hS.lt
      have s0 := hS.cell 0
      have s1 := hS.cell 1
      have s2 := hS.cell 2
      have f1 := hS.frozen 1
      have f2 := hS.frozen 2
      go_upto_region 13 with fail
      clear s0 s1 s2 f1 f2
      have r0 := hS.cell 0
      have r1 := hS.cell 1
      have r2 := hS.cell 2
      have oa := own_alloc o3 (.cells #[.int .i64 0, .string (⟨#[]⟩ : ByteArray), .int .i64 0] 90)
      have ba := b03.alloc b03.size (.cells #[.int .i64 0, .string (⟨#[]⟩ : ByteArray), .int .i64 0] 90)
      have wj : IntKind.i64.wrap ((j : Int) + 1) = (j : Int) + 1 := IntWalk.i64_in _ ⟨by omega, by omega⟩
      have zB := b03.size
      go_wp2_with (at_builtin; refine wpl_appR rfl (.tmp 36) (.tmp 38) 83 rfl 90 _ 3 32 Tryd.underlying83 tok_info rfl (by omega) w.heap.size A1 j c1 _ (by rfl) oa (w3.heap.size + 1) (some ⟨w3.heap.size, 0, none⟩) 1 1 (tokC (tokT (.str s))) (by rfl) (three_reads (Blk.new w3 90 _)) (by intro u hu; simp [tokC, tokT] at hu; rcases hu with rfl | rfl | rfl <;> rfl) (by unfold maxLen; omega) (by omega) (by simp; omega) ?_; intro A6 c6 w6 o6 b6 g6 _)
      go_roundw
      case rel => exact ⟨j + 1, A6, c6, by omega, by go_num, rfl, by rw [HTK.out]; exact o6, ba.trans b6⟩
      case measure => simp [intOf]; omega
    · have k0 : wr.cell? ⟨b, off + j, none⟩ = some (.iface 3 (.int .i64 m)) := k0
      go_wp2_with fail
      refine (asK (.int m) _ 0 rfl rfl _).mono ?_
      rintro _ w2 ⟨rfl, b2⟩
      go_upto_region 6 with fail
      obtain ⟨w3, hw3, hS, b3⟩ := box1c w2 #[.int .i64 0, .string ⟨#[]⟩, .int .i64 0] 90
      try rw [hw3]
      clear hw3
      have b03 := btr (btr hb b2 hb.size) b3 (by have := hb.size; have := b2.size; omega)
      have z3 := b3.size
      have z2 := b2.size
      have zb := hb.size
      have o3 := own_below (own_below ho b2) b3
      have hSl := hS.lt
      have s0 := hS.cell 0
      have s1 := hS.cell 1
      have s2 := hS.cell 2
      have f1 := hS.frozen 1
      have f2 := hS.frozen 2
      go_upto_region 13 with fail
      clear s0 s1 s2 f1 f2
      have r0 := hS.cell 0
      have r1 := hS.cell 1
      have r2 := hS.cell 2
      have oa := own_alloc o3 (.cells #[.int .i64 0, .string (⟨#[]⟩ : ByteArray), .int .i64 0] 90)
      have ba := b03.alloc b03.size (.cells #[.int .i64 0, .string (⟨#[]⟩ : ByteArray), .int .i64 0] 90)
      have wj : IntKind.i64.wrap ((j : Int) + 1) = (j : Int) + 1 := IntWalk.i64_in _ ⟨by omega, by omega⟩
      have zB := b03.size
      go_wp2_with (at_builtin; refine wpl_appR rfl (.tmp 36) (.tmp 38) 83 rfl 90 _ 3 32 Tryd.underlying83 tok_info rfl (by omega) w.heap.size A1 j c1 _ (by rfl) oa (w3.heap.size + 1) (some ⟨w3.heap.size, 0, none⟩) 1 1 (tokC (tokT (.int m))) (by rfl) (three_reads (Blk.new w3 90 _)) (by intro u hu; simp [tokC, tokT] at hu; rcases hu with rfl | rfl | rfl <;> rfl) (by unfold maxLen; omega) (by omega) (by simp; omega) ?_; intro A6 c6 w6 o6 b6 g6 _)
      go_roundw
      case rel => exact ⟨j + 1, A6, c6, by omega, by go_num, rfl, by rw [HTK.out]; exact o6, ba.trans b6⟩
      case measure => simp [intOf]; omega
    · have k0 : wr.cell? ⟨b, off + j, none⟩ = some (.nilIface) := k0
      go_wp2_with fail
      refine (asK (.none) _ 0 rfl rfl _).mono ?_
      rintro _ w2 ⟨rfl, b2⟩
      go_upto_region 6 with fail
      obtain ⟨w3, hw3, hS, b3⟩ := box1c w2 #[.int .i64 0, .string ⟨#[]⟩, .int .i64 0] 90
      try rw [hw3]
      clear hw3
      have b03 := btr (btr hb b2 hb.size) b3 (by have := hb.size; have := b2.size; omega)
      have z3 := b3.size
      have z2 := b2.size
      have zb := hb.size
      have o3 := own_below (own_below ho b2) b3
      have hSl := hS.lt
      have s0 := hS.cell 0
      have s1 := hS.cell 1
      have s2 := hS.cell 2
      have f1 := hS.frozen 1
      have f2 := hS.frozen 2
      go_upto_region 13 with fail
      clear s0 s1 s2 f1 f2
      have r0 := hS.cell 0
      have r1 := hS.cell 1
      have r2 := hS.cell 2
      have oa := own_alloc o3 (.cells #[.int .i64 0, .string (⟨#[]⟩ : ByteArray), .int .i64 0] 90)
      have ba := b03.alloc b03.size (.cells #[.int .i64 0, .string (⟨#[]⟩ : ByteArray), .int .i64 0] 90)
      have wj : IntKind.i64.wrap ((j : Int) + 1) = (j : Int) + 1 := IntWalk.i64_in _ ⟨by omega, by omega⟩
      have zB := b03.size
      go_wp2_with (at_builtin; refine wpl_appR rfl (.tmp 36) (.tmp 38) 83 rfl 90 _ 3 32 Tryd.underlying83 tok_info rfl (by omega) w.heap.size A1 j c1 _ (by rfl) oa (w3.heap.size + 1) (some ⟨w3.heap.size, 0, none⟩) 1 1 (tokC (tokT (.none))) (by rfl) (three_reads (Blk.new w3 90 _)) (by intro u hu; simp [tokC, tokT] at hu; rcases hu with rfl | rfl | rfl <;> rfl) (by unfold maxLen; omega) (by omega) (by simp; omega) ?_; intro A6 c6 w6 o6 b6 g6 _)
      go_roundw
      case rel => exact ⟨j + 1, A6, c6, by omega, by go_num, rfl, by rw [HTK.out]; exact o6, ba.trans b6⟩
      case measure => simp [intOf]; omega
end Go.Proofs.YtnhkpnohadbcdaaDoor
