/- The statement LexTokens: its walk. Conditions: the tables. -/
import Derived.Test.YtnhkpnohadbcdaaDoorProg
import Derived.WalkKit
import Derived.WalkSpells
import Derived.WalkLawsBesides
import Derived.Outline
import Derived.Deep.QuietTactic
import Derived.BigQuiet
import Derived.Handy
import Derived.Lib.Hide
import Derived.RegionTactic
import Derived.Test.YtnhkpnohadbcdaaDoorLexG
namespace Go.Proofs.YtnhkpnohadbcdaaDoor
open Go.RowKit
set_option linter.unusedSimpArgs false
set_option linter.unusedVariables false
theorem Rw.at3 {w : World} {S : Nat → Prop} {A : Option Addr} {n : Nat} {l : List Tok} (h : Rw w S 3 A n (toksC l)) {j : Nat} {t : Tok} (hj : l[j]? = some t) : ∃ b off, A = some ⟨b, off, none⟩ ∧ S b ∧ w.cell? ⟨b, off + j * 3, none⟩ = some (.int .i64 t.1) ∧ w.cell? ⟨b, off + j * 3 + 1, none⟩ = some (.string t.2.1) ∧ w.cell? ⟨b, off + j * 3 + 2, none⟩ = some (.int .i64 t.2.2) := by
  have hl := (List.getElem?_eq_some_iff.1 hj).1
  obtain ⟨b, off, e, hb, hc⟩ := h.2 (by have := h.1; rw [toksC_len] at this; omega)
  refine ⟨b, off, e, hb, ?_, ?_, ?_⟩
  · exact hc (j * 3) _ (by have := toksC_at hj 0 (by omega); rw [Nat.add_zero] at this; rw [this]; rfl)
  · have := hc (j * 3 + 1) _ (by rw [toksC_at hj 1 (by omega)]; rfl)
    rwa [← Nat.add_assoc] at this
  · have := hc (j * 3 + 2) _ (by rw [toksC_at hj 2 (by omega)]; rfl)
    rwa [← Nat.add_assoc] at this
set_option maxHeartbeats 4000000 in
set_option maxRecDepth 100000 in
theorem sameTok (A A' : Option Addr) (n c c' : Nat) (l : List Tok) (w : World) (h : Rw w (Lo w) 3 A n (toksC l)) (h' : Rw w (Lo w) 3 A' n (toksC l)) (hn : n ≤ 1000) :
    Calls Tryd.prog 76 #[.slice A n c, .slice A' n c'] w fun e w' => e = .returned (.bool true) ∧ Below w.heap.size w w' := by
  have hnl := h.1
  rw [toksC_len] at hnl
  have HNL := Lib.hid hnl
  clear hnl
  go_enter Tryd.func76, Tryd.ntmps76
  go_wp2_with fail
  go_loopw [5] (fun v wr => ∃ j : Nat, j ≤ n ∧ v = .int .i64 j ∧ Below w.heap.size w wr) (fun v _ => n - (intOf v).toNat)
  case atStart => exact ⟨0, by omega, rfl, Below.refl _ _⟩
  case round =>
    obtain ⟨j, hj, rfl, hb⟩ := hrel
    by_cases hlt : j < n
    · have d0 : decide ((j : Int) < n) = true := decide_eq_true (by omega)
      have hji : (j : Int) < n := by omega
      obtain ⟨t, htj⟩ : ∃ t, l[j]? = some t := ⟨_, List.getElem?_eq_getElem (by have := HNL.out; omega)⟩
      obtain ⟨b, off, rfl, hbl, x0, x1, x2⟩ := (h.keep (Kp.call hb)).at3 htj
      obtain ⟨b', off', rfl, hbl', y0, y1, y2⟩ := (h'.keep (Kp.call hb)).at3 htj
      obtain ⟨k, s, m⟩ := t
      simp only at x0 x1 x2 y0 y1 y2
      clear htj
      go_wp2_with fail
      go_region
      go_wp2_with fail
      go_roundw
      case rel => exact ⟨j + 1, by omega, by go_num, hb.drew⟩
      case measure => simp [intOf]; omega
    · have d0 : decide ((j : Int) < n) = false := decide_eq_false (by omega)
      go_wp2_with fail
      go_ret
      exact ⟨rfl, hb⟩
theorem valT_else {k : Int} (s : ByteArray) (n : Int) (h1 : ¬ k = 1) (h2 : ¬ k = 2) (h3 : ¬ k = 3) (h4 : ¬ k = 4) (h5 : ¬ k = 5) : valT k s n = .none := by
  unfold valT; rw [if_neg h1, if_neg h2, if_neg h3, if_neg h4, if_neg h5]
set_option maxHeartbeats 8000000 in
set_option maxRecDepth 100000 in
theorem lawLexTokens (w : World) (A : Option Addr) (n c : Nat) (l : List Int) (hA : NS .i64 w w.heap.size A n l) (wc : n ≤ c) (wm : c ≤ maxLen) (s : ByteArray) (ws : s.size ≤ maxLen) (m : Int) (wn : (Lit.int .i64 m).wf = true) (ht : DigTab w) (hT : UT w) :
    Calls Tryd.prog 16 #[.slice A n c, .string s, .int .i64 m] w fun en w' => en = .returned (.bool true) ∧ Below w.heap.size w w' := by
  have hr : Rw w (Lo w) 1 A n (l.map (Value.int .i64)) := Rw.of_reads hA.2.1 (by omega) (fun b hb => hb)
  have HNL := Lib.hid hA.1
  clear wc wm ws wn hA
  by_cases h1 : 100 < n
  · have t1 : decide ((100 : Int) < (n : Int)) = true := decide_eq_true (by omega)
    go_enter Tryd.func16, Tryd.ntmps16
    go_wp2_with fail
    refine (awake13 _ ht hT).mono ?_
    rintro _ w1 ⟨rfl, b1⟩
    have b01 := b1
    go_wp2_with fail
    go_ret
    exact ⟨rfl, b01⟩
  have t1 : decide ((100 : Int) < (n : Int)) = false := decide_eq_false (by omega)
  by_cases h2 : 500 < s.size
  · have t2 : decide ((500 : Int) < (s.size : Int)) = true := decide_eq_true (by omega)
    go_enter Tryd.func16, Tryd.ntmps16
    go_wp2_with fail
    refine (awake13 _ ht hT).mono ?_
    rintro _ w1 ⟨rfl, b1⟩
    have b01 := b1
    go_wp2_with fail
    go_ret
    exact ⟨rfl, b01⟩
  have t2 : decide ((500 : Int) < (s.size : Int)) = false := decide_eq_false (by omega)
  have hn : n ≤ 100 := by omega
  clear h1 h2
  obtain ⟨vals, hvals⟩ : ∃ vals, l.map (fun k => valT k s m) = vals := ⟨_, rfl⟩
  have HVL := Lib.hid (show n = vals.length by rw [← hvals, List.length_map]; exact HNL.out)
  have HV := Lib.hid hvals
  clear hvals
  go_enter Tryd.func16, Tryd.ntmps16
  go_wp2_with fail
  go_loopw [7, 8, 9] (fun v7 v8 v9 wr => ∃ (j : Nat) (A1 : Option Addr) (c1 : Nat) (A2 : Option Addr) (c2 : Nat), j ≤ n ∧ v9 = .int .i64 j ∧ v7 = .slice A1 j c1 ∧ v8 = .slice A2 j c2 ∧ wr.ownsRow w.heap.size 20 1 (.slice A1 j c1) j ((vals.take j).map Tk.v) ∧ wr.ownsRow w.heap.size 90 3 (.slice A2 j c2) j (toksC ((vals.take j).map tokT)) ∧ Below w.heap.size w wr) (fun _ _ v9 _ => n - (intOf v9).toNat)
  case atStart => exact ⟨0, none, 0, none, 0, by omega, rfl, rfl, rfl, World.ownsRow_nil _ _ _ _, World.ownsRow_nil _ _ _ _, Below.refl _ _⟩
  case round =>
    obtain ⟨j, A1, c1, A2, c2, hj, rfl, rfl, rfl, o1, o2, hb⟩ := hrel
    by_cases hlt : j < n
    case neg =>
      have d0 : decide ((j : Int) < n) = false := decide_eq_false (by omega)
      have e : vals.take j = vals := List.take_of_length_le (by have := HVL.out; omega)
      rw [e] at o1 o2
      have hj1 : j ≤ 1000 := by omega
      clear e
      go_wp2_with fail
      refine (lexTokens A1 j c1 vals _ (Rw.of_reads (Reads.of_own o1) (by omega) (fun b hb => hb)) hj1).mono ?_
      rintro _ w2 ⟨A3, c3, rfl, o3, b2⟩
      have o22 := own_below o2 b2
      go_wp2_with fail
      refine (sameTok A3 A2 j c3 c2 _ _ (Rw.of_reads (Reads.of_own o3) (by omega) (fun b hb => hb)) (Rw.of_reads (Reads.of_own o22) (by omega) (fun b hb => hb)) hj1).mono ?_
      rintro _ w3 ⟨rfl, b3⟩
      have b02 := btr hb b2 hb.size
      have b03 := btr b02 b3 b02.size
      go_wp2_with fail
      refine (awake13 _ (ht.call b03) (hT.call b03)).mono ?_
      rintro _ w4 ⟨rfl, b4⟩
      go_wp2_with fail
      go_ret
      exact ⟨rfl, btr b03 b4 b03.size⟩
    have d0 : decide ((j : Int) < n) = true := decide_eq_true (by omega)
    have hji : (j : Int) < n := by omega
    obtain ⟨k, hkj⟩ : ∃ k, l[j]? = some k := ⟨_, List.getElem?_eq_getElem (by have := HNL.out; omega)⟩
    obtain ⟨b, off, rfl, hbl, kw⟩ := hr.at1 (j := j) (v := .int .i64 k) (by rw [List.getElem?_map, hkj]; rfl)
    have hbl : b < w.heap.size := hbl
    have k0 := (hb.cell (p := ⟨b, off + j, none⟩) hbl).trans kw
    have hvj : vals[j]? = some (valT k s m) := by rw [← HV.out, List.getElem?_map, hkj]; rfl
    have HA := Lib.hid (show (vals.take (j + 1)).map Tk.v = (vals.take j).map Tk.v ++ [(valT k s m).v] by
      obtain ⟨g1, g2⟩ := List.getElem?_eq_some_iff.1 hvj
      rw [List.take_succ_eq_append_getElem g1, g2, List.map_append, List.map_singleton])
    have HB := Lib.hid (show toksC ((vals.take (j + 1)).map tokT) = toksC ((vals.take j).map tokT) ++ tokC (tokT (valT k s m)) by
      obtain ⟨g1, g2⟩ := List.getElem?_eq_some_iff.1 hvj
      rw [List.take_succ_eq_append_getElem g1, g2, List.map_append, List.map_singleton, toksC_snoc])
    clear hkj hvj
    have wj : IntKind.i64.wrap ((j : Int) + 1) = (j : Int) + 1 := IntWalk.i64_in _ ⟨by omega, by omega⟩
    have zb := hb.size
    by_cases h1 : k = 1
    · subst h1
      have HVT := Lib.hid (show valT 1 s m = .word s from rfl)
      have HVV := Lib.hid (show (valT 1 s m).v = .iface 107 (.string s) by rw [HVT.out]; rfl)
      have HTT := Lib.hid (show tokC (tokT (valT 1 s m)) = [.int .i64 1, .string s, .int .i64 0] by rw [HVT.out]; rfl)
      clear HVT
      go_wp2_with fail
      refine (valAny 1 s m _ HVV _).mono ?_
      rintro _ w2 ⟨rfl, b2⟩
      have z2 := b2.size
      have b02 := btr hb b2 hb.size
      have o1a := own_alloc (own_below o1 b2) (.cells #[.iface 107 (.string s)] 20)
      have o2a := own_alloc (own_below o2 b2) (.cells #[.iface 107 (.string s)] 20)
      have ba := b02.alloc b02.size (.cells #[.iface 107 (.string s)] 20)
      have z02 := b02.size
      go_upto_region 9 with (at_builtin; refine wpl_appR rfl (.tmp 26) (.tmp 34) 80 rfl 20 .nilIface 1 16 Tryd.underlying80 any_info rfl (by omega) w.heap.size A1 j c1 _ (by rfl) o1a (w2.heap.size + 1) (some ⟨w2.heap.size, 0, none⟩) 1 1 [.iface 107 (.string s)] (by rfl) (one_reads (Blk.new w2 20 #[.iface 107 (.string s)])) (by intro u hu; simp at hu; subst hu; rfl) (by unfold maxLen; omega) (by omega) (by simp; omega) ?_; intro A3 c3 w3 o3 b3 g3 _)
      have b03 := ba.trans b3
      have o23 := own_own o2a o1a (by decide) g3
      go_upto_region 10 with fail
      obtain ⟨w4, hw4, hS, b4⟩ := box1c w3 #[.int .i64 0, .string ⟨#[]⟩, .int .i64 0] 90
      try rw [hw4]
      clear hw4
      have b04 := btr b03 b4 b03.size
      have o14 := own_below o3 b4
      have o24 := own_below o23 b4
      have k4 := (b04.cell (p := ⟨b, off + j, none⟩) hbl).trans kw
      have z03 := b03.size
      have z4 := b4.size
      have s0 := hS.cell 0
      have f0 := hS.frozen 0
      have s1 := hS.cell 1
      have f1 := hS.frozen 1
      have s2 := hS.cell 2
      have f2 := hS.frozen 2
      go_upto_region 14 with fail
      obtain ⟨w5, hw5⟩ : ∃ W, ((w4.setCell ⟨w3.heap.size, 0, none⟩ (.int .i64 1)).setCell ⟨w3.heap.size, 1, none⟩ (.string s)).setCell ⟨w3.heap.size, 2, none⟩ (.int .i64 0) = W := ⟨_, rfl⟩
      have hk5 : ∀ q, q ≠ w3.heap.size → w5.heap[q]? = w4.heap[q]? := by
        intro q hq
        rw [← hw5, Below.heap_setCell _ ⟨w3.heap.size, 2, none⟩ _ q hq, Below.heap_setCell _ ⟨w3.heap.size, 1, none⟩ _ q hq, Below.heap_setCell _ ⟨w3.heap.size, 0, none⟩ _ q hq]
      have hS5 := ((hS.set_ 0 (.int .i64 1)).set_ 1 (.string s)).set_ 2 (.int .i64 0)
      simp only [List.setIfInBounds_toArray, List.set_cons_succ, List.set_cons_zero] at hS5
      have b05 := ((b04.setCell (p := ⟨w3.heap.size, 0, none⟩) z03 (.int .i64 1)).setCell (p := ⟨w3.heap.size, 1, none⟩) z03 (.string s)).setCell (p := ⟨w3.heap.size, 2, none⟩) z03 (.int .i64 0)
      rw [hw5] at hS5 b05
      try rw [hw5]
      clear hw5 s0 s1 s2 f0 f1 f2
      have o15 := own_keep o14 (w' := w5) (fun q hq => hk5 q (by have := (o3.lt q hq).2; omega))
      have o25 := own_keep o24 (w' := w5) (fun q hq => hk5 q (by have := (o23.lt q hq).2; omega))
      have r0 := hS5.cell 0
      have r1 := hS5.cell 1
      have r2 := hS5.cell 2
      have o1b := own_alloc o15 (.cells #[.int .i64 1, .string s, .int .i64 0] 90)
      have o2b := own_alloc o25 (.cells #[.int .i64 1, .string s, .int .i64 0] 90)
      have bb := b05.alloc b05.size (.cells #[.int .i64 1, .string s, .int .i64 0] 90)
      have z5 := b05.size
      clear k0 k4
      go_wp2_with (at_builtin; refine wpl_appR rfl (.tmp 62) (.tmp 64) 83 rfl 90 _ 3 32 Tryd.underlying83 tok_info rfl (by omega) w.heap.size A2 j c2 _ (by rfl) o2b (w5.heap.size + 1) (some ⟨w5.heap.size, 0, none⟩) 1 1 [.int .i64 1, .string s, .int .i64 0] (by rfl) (three_reads (Blk.new w5 90 _)) (by intro u hu; simp at hu; rcases hu with rfl | rfl | rfl <;> rfl) (by unfold maxLen; omega) (by omega) (by simp; omega) ?_; intro A6 c6 w6 o6 b6 g6 _)
      have o16 := own_own o1b o2b (by decide) g6
      go_roundw
      case rel => exact ⟨j + 1, A3, c3, A6, c6, by omega, by go_num, rfl, rfl, by rw [HA.out, HVV.out]; exact o16, by rw [HB.out, HTT.out]; exact o6, bb.trans b6⟩
      case measure => simp [intOf]; omega
    by_cases h2 : k = 2
    · subst h2
      have HVT := Lib.hid (show valT 2 s m = .num m from rfl)
      have HVV := Lib.hid (show (valT 2 s m).v = .iface 108 (.int .i64 m) by rw [HVT.out]; rfl)
      have HTT := Lib.hid (show tokC (tokT (valT 2 s m)) = [.int .i64 2, .string (⟨#[]⟩ : ByteArray), .int .i64 m] by rw [HVT.out]; rfl)
      clear HVT
      go_wp2_with fail
      refine (valAny 2 s m _ HVV _).mono ?_
      rintro _ w2 ⟨rfl, b2⟩
      have z2 := b2.size
      have b02 := btr hb b2 hb.size
      have o1a := own_alloc (own_below o1 b2) (.cells #[.iface 108 (.int .i64 m)] 20)
      have o2a := own_alloc (own_below o2 b2) (.cells #[.iface 108 (.int .i64 m)] 20)
      have ba := b02.alloc b02.size (.cells #[.iface 108 (.int .i64 m)] 20)
      have z02 := b02.size
      go_upto_region 9 with (at_builtin; refine wpl_appR rfl (.tmp 26) (.tmp 34) 80 rfl 20 .nilIface 1 16 Tryd.underlying80 any_info rfl (by omega) w.heap.size A1 j c1 _ (by rfl) o1a (w2.heap.size + 1) (some ⟨w2.heap.size, 0, none⟩) 1 1 [.iface 108 (.int .i64 m)] (by rfl) (one_reads (Blk.new w2 20 #[.iface 108 (.int .i64 m)])) (by intro u hu; simp at hu; subst hu; rfl) (by unfold maxLen; omega) (by omega) (by simp; omega) ?_; intro A3 c3 w3 o3 b3 g3 _)
      have b03 := ba.trans b3
      have o23 := own_own o2a o1a (by decide) g3
      go_upto_region 10 with fail
      obtain ⟨w4, hw4, hS, b4⟩ := box1c w3 #[.int .i64 0, .string ⟨#[]⟩, .int .i64 0] 90
      try rw [hw4]
      clear hw4
      have b04 := btr b03 b4 b03.size
      have o14 := own_below o3 b4
      have o24 := own_below o23 b4
      have k4 := (b04.cell (p := ⟨b, off + j, none⟩) hbl).trans kw
      have z03 := b03.size
      have z4 := b4.size
      have s0 := hS.cell 0
      have f0 := hS.frozen 0
      have s1 := hS.cell 1
      have f1 := hS.frozen 1
      have s2 := hS.cell 2
      have f2 := hS.frozen 2
      go_upto_region 14 with fail
      obtain ⟨w5, hw5⟩ : ∃ W, ((w4.setCell ⟨w3.heap.size, 0, none⟩ (.int .i64 2)).setCell ⟨w3.heap.size, 1, none⟩ (.string ⟨#[]⟩)).setCell ⟨w3.heap.size, 2, none⟩ (.int .i64 m) = W := ⟨_, rfl⟩
      have hk5 : ∀ q, q ≠ w3.heap.size → w5.heap[q]? = w4.heap[q]? := by
        intro q hq
        rw [← hw5, Below.heap_setCell _ ⟨w3.heap.size, 2, none⟩ _ q hq, Below.heap_setCell _ ⟨w3.heap.size, 1, none⟩ _ q hq, Below.heap_setCell _ ⟨w3.heap.size, 0, none⟩ _ q hq]
      have hS5 := ((hS.set_ 0 (.int .i64 2)).set_ 1 (.string ⟨#[]⟩)).set_ 2 (.int .i64 m)
      simp only [List.setIfInBounds_toArray, List.set_cons_succ, List.set_cons_zero] at hS5
      have b05 := ((b04.setCell (p := ⟨w3.heap.size, 0, none⟩) z03 (.int .i64 2)).setCell (p := ⟨w3.heap.size, 1, none⟩) z03 (.string ⟨#[]⟩)).setCell (p := ⟨w3.heap.size, 2, none⟩) z03 (.int .i64 m)
      rw [hw5] at hS5 b05
      try rw [hw5]
      clear hw5 s0 s1 s2 f0 f1 f2
      have o15 := own_keep o14 (w' := w5) (fun q hq => hk5 q (by have := (o3.lt q hq).2; omega))
      have o25 := own_keep o24 (w' := w5) (fun q hq => hk5 q (by have := (o23.lt q hq).2; omega))
      have r0 := hS5.cell 0
      have r1 := hS5.cell 1
      have r2 := hS5.cell 2
      have o1b := own_alloc o15 (.cells #[.int .i64 2, .string (⟨#[]⟩ : ByteArray), .int .i64 m] 90)
      have o2b := own_alloc o25 (.cells #[.int .i64 2, .string (⟨#[]⟩ : ByteArray), .int .i64 m] 90)
      have bb := b05.alloc b05.size (.cells #[.int .i64 2, .string (⟨#[]⟩ : ByteArray), .int .i64 m] 90)
      have z5 := b05.size
      clear k0 k4
      go_wp2_with (at_builtin; refine wpl_appR rfl (.tmp 62) (.tmp 64) 83 rfl 90 _ 3 32 Tryd.underlying83 tok_info rfl (by omega) w.heap.size A2 j c2 _ (by rfl) o2b (w5.heap.size + 1) (some ⟨w5.heap.size, 0, none⟩) 1 1 [.int .i64 2, .string (⟨#[]⟩ : ByteArray), .int .i64 m] (by rfl) (three_reads (Blk.new w5 90 _)) (by intro u hu; simp at hu; rcases hu with rfl | rfl | rfl <;> rfl) (by unfold maxLen; omega) (by omega) (by simp; omega) ?_; intro A6 c6 w6 o6 b6 g6 _)
      have o16 := own_own o1b o2b (by decide) g6
      go_roundw
      case rel => exact ⟨j + 1, A3, c3, A6, c6, by omega, by go_num, rfl, rfl, by rw [HA.out, HVV.out]; exact o16, by rw [HB.out, HTT.out]; exact o6, bb.trans b6⟩
      case measure => simp [intOf]; omega
    by_cases h3 : k = 3
    · subst h3
      have HVT := Lib.hid (show valT 3 s m = .quo s from rfl)
      have HVV := Lib.hid (show (valT 3 s m).v = .iface 109 (.string s) by rw [HVT.out]; rfl)
      have HTT := Lib.hid (show tokC (tokT (valT 3 s m)) = [.int .i64 3, .string s, .int .i64 0] by rw [HVT.out]; rfl)
      clear HVT
      go_wp2_with fail
      refine (valAny 3 s m _ HVV _).mono ?_
      rintro _ w2 ⟨rfl, b2⟩
      have z2 := b2.size
      have b02 := btr hb b2 hb.size
      have o1a := own_alloc (own_below o1 b2) (.cells #[.iface 109 (.string s)] 20)
      have o2a := own_alloc (own_below o2 b2) (.cells #[.iface 109 (.string s)] 20)
      have ba := b02.alloc b02.size (.cells #[.iface 109 (.string s)] 20)
      have z02 := b02.size
      go_upto_region 9 with (at_builtin; refine wpl_appR rfl (.tmp 26) (.tmp 34) 80 rfl 20 .nilIface 1 16 Tryd.underlying80 any_info rfl (by omega) w.heap.size A1 j c1 _ (by rfl) o1a (w2.heap.size + 1) (some ⟨w2.heap.size, 0, none⟩) 1 1 [.iface 109 (.string s)] (by rfl) (one_reads (Blk.new w2 20 #[.iface 109 (.string s)])) (by intro u hu; simp at hu; subst hu; rfl) (by unfold maxLen; omega) (by omega) (by simp; omega) ?_; intro A3 c3 w3 o3 b3 g3 _)
      have b03 := ba.trans b3
      have o23 := own_own o2a o1a (by decide) g3
      go_upto_region 10 with fail
      obtain ⟨w4, hw4, hS, b4⟩ := box1c w3 #[.int .i64 0, .string ⟨#[]⟩, .int .i64 0] 90
      try rw [hw4]
      clear hw4
      have b04 := btr b03 b4 b03.size
      have o14 := own_below o3 b4
      have o24 := own_below o23 b4
      have k4 := (b04.cell (p := ⟨b, off + j, none⟩) hbl).trans kw
      have z03 := b03.size
      have z4 := b4.size
      have s0 := hS.cell 0
      have f0 := hS.frozen 0
      have s1 := hS.cell 1
      have f1 := hS.frozen 1
      have s2 := hS.cell 2
      have f2 := hS.frozen 2
      go_upto_region 14 with fail
      obtain ⟨w5, hw5⟩ : ∃ W, ((w4.setCell ⟨w3.heap.size, 0, none⟩ (.int .i64 3)).setCell ⟨w3.heap.size, 1, none⟩ (.string s)).setCell ⟨w3.heap.size, 2, none⟩ (.int .i64 0) = W := ⟨_, rfl⟩
      have hk5 : ∀ q, q ≠ w3.heap.size → w5.heap[q]? = w4.heap[q]? := by
        intro q hq
        rw [← hw5, Below.heap_setCell _ ⟨w3.heap.size, 2, none⟩ _ q hq, Below.heap_setCell _ ⟨w3.heap.size, 1, none⟩ _ q hq, Below.heap_setCell _ ⟨w3.heap.size, 0, none⟩ _ q hq]
      have hS5 := ((hS.set_ 0 (.int .i64 3)).set_ 1 (.string s)).set_ 2 (.int .i64 0)
      simp only [List.setIfInBounds_toArray, List.set_cons_succ, List.set_cons_zero] at hS5
      have b05 := ((b04.setCell (p := ⟨w3.heap.size, 0, none⟩) z03 (.int .i64 3)).setCell (p := ⟨w3.heap.size, 1, none⟩) z03 (.string s)).setCell (p := ⟨w3.heap.size, 2, none⟩) z03 (.int .i64 0)
      rw [hw5] at hS5 b05
      try rw [hw5]
      clear hw5 s0 s1 s2 f0 f1 f2
      have o15 := own_keep o14 (w' := w5) (fun q hq => hk5 q (by have := (o3.lt q hq).2; omega))
      have o25 := own_keep o24 (w' := w5) (fun q hq => hk5 q (by have := (o23.lt q hq).2; omega))
      have r0 := hS5.cell 0
      have r1 := hS5.cell 1
      have r2 := hS5.cell 2
      have o1b := own_alloc o15 (.cells #[.int .i64 3, .string s, .int .i64 0] 90)
      have o2b := own_alloc o25 (.cells #[.int .i64 3, .string s, .int .i64 0] 90)
      have bb := b05.alloc b05.size (.cells #[.int .i64 3, .string s, .int .i64 0] 90)
      have z5 := b05.size
      clear k0 k4
      go_wp2_with (at_builtin; refine wpl_appR rfl (.tmp 62) (.tmp 64) 83 rfl 90 _ 3 32 Tryd.underlying83 tok_info rfl (by omega) w.heap.size A2 j c2 _ (by rfl) o2b (w5.heap.size + 1) (some ⟨w5.heap.size, 0, none⟩) 1 1 [.int .i64 3, .string s, .int .i64 0] (by rfl) (three_reads (Blk.new w5 90 _)) (by intro u hu; simp at hu; rcases hu with rfl | rfl | rfl <;> rfl) (by unfold maxLen; omega) (by omega) (by simp; omega) ?_; intro A6 c6 w6 o6 b6 g6 _)
      have o16 := own_own o1b o2b (by decide) g6
      go_roundw
      case rel => exact ⟨j + 1, A3, c3, A6, c6, by omega, by go_num, rfl, rfl, by rw [HA.out, HVV.out]; exact o16, by rw [HB.out, HTT.out]; exact o6, bb.trans b6⟩
      case measure => simp [intOf]; omega
    by_cases h4 : k = 4
    · subst h4
      have HVT := Lib.hid (show valT 4 s m = .str s from rfl)
      have HVV := Lib.hid (show (valT 4 s m).v = .iface 9 (.string s) by rw [HVT.out]; rfl)
      have HTT := Lib.hid (show tokC (tokT (valT 4 s m)) = [.int .i64 0, .string (⟨#[]⟩ : ByteArray), .int .i64 0] by rw [HVT.out]; rfl)
      clear HVT
      go_wp2_with fail
      refine (valAny 4 s m _ HVV _).mono ?_
      rintro _ w2 ⟨rfl, b2⟩
      have z2 := b2.size
      have b02 := btr hb b2 hb.size
      have o1a := own_alloc (own_below o1 b2) (.cells #[.iface 9 (.string s)] 20)
      have o2a := own_alloc (own_below o2 b2) (.cells #[.iface 9 (.string s)] 20)
      have ba := b02.alloc b02.size (.cells #[.iface 9 (.string s)] 20)
      have z02 := b02.size
      go_upto_region 9 with (at_builtin; refine wpl_appR rfl (.tmp 26) (.tmp 34) 80 rfl 20 .nilIface 1 16 Tryd.underlying80 any_info rfl (by omega) w.heap.size A1 j c1 _ (by rfl) o1a (w2.heap.size + 1) (some ⟨w2.heap.size, 0, none⟩) 1 1 [.iface 9 (.string s)] (by rfl) (one_reads (Blk.new w2 20 #[.iface 9 (.string s)])) (by intro u hu; simp at hu; subst hu; rfl) (by unfold maxLen; omega) (by omega) (by simp; omega) ?_; intro A3 c3 w3 o3 b3 g3 _)
      have b03 := ba.trans b3
      have o23 := own_own o2a o1a (by decide) g3
      go_upto_region 10 with fail
      obtain ⟨w4, hw4, hS, b4⟩ := box1c w3 #[.int .i64 0, .string ⟨#[]⟩, .int .i64 0] 90
      try rw [hw4]
      clear hw4
      have b04 := btr b03 b4 b03.size
      have o14 := own_below o3 b4
      have o24 := own_below o23 b4
      have k4 := (b04.cell (p := ⟨b, off + j, none⟩) hbl).trans kw
      have z03 := b03.size
      have z4 := b4.size
      go_upto_region 14 with fail
      have hS5 := hS
      have b05 := b04
      have o15 := o14
      have o25 := o24
      have r0 := hS5.cell 0
      have r1 := hS5.cell 1
      have r2 := hS5.cell 2
      have o1b := own_alloc o15 (.cells #[.int .i64 0, .string (⟨#[]⟩ : ByteArray), .int .i64 0] 90)
      have o2b := own_alloc o25 (.cells #[.int .i64 0, .string (⟨#[]⟩ : ByteArray), .int .i64 0] 90)
      have bb := b05.alloc b05.size (.cells #[.int .i64 0, .string (⟨#[]⟩ : ByteArray), .int .i64 0] 90)
      have z5 := b05.size
      clear k0 k4
      go_wp2_with (at_builtin; refine wpl_appR rfl (.tmp 62) (.tmp 64) 83 rfl 90 _ 3 32 Tryd.underlying83 tok_info rfl (by omega) w.heap.size A2 j c2 _ (by rfl) o2b (w4.heap.size + 1) (some ⟨w4.heap.size, 0, none⟩) 1 1 [.int .i64 0, .string (⟨#[]⟩ : ByteArray), .int .i64 0] (by rfl) (three_reads (Blk.new w4 90 _)) (by intro u hu; simp at hu; rcases hu with rfl | rfl | rfl <;> rfl) (by unfold maxLen; omega) (by omega) (by simp; omega) ?_; intro A6 c6 w6 o6 b6 g6 _)
      have o16 := own_own o1b o2b (by decide) g6
      go_roundw
      case rel => exact ⟨j + 1, A3, c3, A6, c6, by omega, by go_num, rfl, rfl, by rw [HA.out, HVV.out]; exact o16, by rw [HB.out, HTT.out]; exact o6, bb.trans b6⟩
      case measure => simp [intOf]; omega
    by_cases h5 : k = 5
    · subst h5
      have HVT := Lib.hid (show valT 5 s m = .int m from rfl)
      have HVV := Lib.hid (show (valT 5 s m).v = .iface 3 (.int .i64 m) by rw [HVT.out]; rfl)
      have HTT := Lib.hid (show tokC (tokT (valT 5 s m)) = [.int .i64 0, .string (⟨#[]⟩ : ByteArray), .int .i64 0] by rw [HVT.out]; rfl)
      clear HVT
      go_wp2_with fail
      refine (valAny 5 s m _ HVV _).mono ?_
      rintro _ w2 ⟨rfl, b2⟩
      have z2 := b2.size
      have b02 := btr hb b2 hb.size
      have o1a := own_alloc (own_below o1 b2) (.cells #[.iface 3 (.int .i64 m)] 20)
      have o2a := own_alloc (own_below o2 b2) (.cells #[.iface 3 (.int .i64 m)] 20)
      have ba := b02.alloc b02.size (.cells #[.iface 3 (.int .i64 m)] 20)
      have z02 := b02.size
      go_upto_region 9 with (at_builtin; refine wpl_appR rfl (.tmp 26) (.tmp 34) 80 rfl 20 .nilIface 1 16 Tryd.underlying80 any_info rfl (by omega) w.heap.size A1 j c1 _ (by rfl) o1a (w2.heap.size + 1) (some ⟨w2.heap.size, 0, none⟩) 1 1 [.iface 3 (.int .i64 m)] (by rfl) (one_reads (Blk.new w2 20 #[.iface 3 (.int .i64 m)])) (by intro u hu; simp at hu; subst hu; rfl) (by unfold maxLen; omega) (by omega) (by simp; omega) ?_; intro A3 c3 w3 o3 b3 g3 _)
      have b03 := ba.trans b3
      have o23 := own_own o2a o1a (by decide) g3
      go_upto_region 10 with fail
      obtain ⟨w4, hw4, hS, b4⟩ := box1c w3 #[.int .i64 0, .string ⟨#[]⟩, .int .i64 0] 90
      try rw [hw4]
      clear hw4
      have b04 := btr b03 b4 b03.size
      have o14 := own_below o3 b4
      have o24 := own_below o23 b4
      have k4 := (b04.cell (p := ⟨b, off + j, none⟩) hbl).trans kw
      have z03 := b03.size
      have z4 := b4.size
      go_upto_region 14 with fail
      have hS5 := hS
      have b05 := b04
      have o15 := o14
      have o25 := o24
      have r0 := hS5.cell 0
      have r1 := hS5.cell 1
      have r2 := hS5.cell 2
      have o1b := own_alloc o15 (.cells #[.int .i64 0, .string (⟨#[]⟩ : ByteArray), .int .i64 0] 90)
      have o2b := own_alloc o25 (.cells #[.int .i64 0, .string (⟨#[]⟩ : ByteArray), .int .i64 0] 90)
      have bb := b05.alloc b05.size (.cells #[.int .i64 0, .string (⟨#[]⟩ : ByteArray), .int .i64 0] 90)
      have z5 := b05.size
      clear k0 k4
      go_wp2_with (at_builtin; refine wpl_appR rfl (.tmp 62) (.tmp 64) 83 rfl 90 _ 3 32 Tryd.underlying83 tok_info rfl (by omega) w.heap.size A2 j c2 _ (by rfl) o2b (w4.heap.size + 1) (some ⟨w4.heap.size, 0, none⟩) 1 1 [.int .i64 0, .string (⟨#[]⟩ : ByteArray), .int .i64 0] (by rfl) (three_reads (Blk.new w4 90 _)) (by intro u hu; simp at hu; rcases hu with rfl | rfl | rfl <;> rfl) (by unfold maxLen; omega) (by omega) (by simp; omega) ?_; intro A6 c6 w6 o6 b6 g6 _)
      have o16 := own_own o1b o2b (by decide) g6
      go_roundw
      case rel => exact ⟨j + 1, A3, c3, A6, c6, by omega, by go_num, rfl, rfl, by rw [HA.out, HVV.out]; exact o16, by rw [HB.out, HTT.out]; exact o6, bb.trans b6⟩
      case measure => simp [intOf]; omega
    have HVT := Lib.hid (valT_else s m h1 h2 h3 h4 h5)
    have t1 : (k == 1) = false := by simpa using h1
    have t2 : (k == 2) = false := by simpa using h2
    have t3 : (k == 3) = false := by simpa using h3
    clear h1 h2 h3 h4 h5
    have HVV := Lib.hid (show (valT k s m).v = .nilIface by rw [HVT.out]; rfl)
    have HTT := Lib.hid (show tokC (tokT (valT k s m)) = [.int .i64 0, .string (⟨#[]⟩ : ByteArray), .int .i64 0] by rw [HVT.out]; rfl)
    clear HVT
    go_wp2_with fail
    refine (valAny k s m _ HVV _).mono ?_
    rintro _ w2 ⟨rfl, b2⟩
    have z2 := b2.size
    have b02 := btr hb b2 hb.size
    have o1a := own_alloc (own_below o1 b2) (.cells #[.nilIface] 20)
    have o2a := own_alloc (own_below o2 b2) (.cells #[.nilIface] 20)
    have ba := b02.alloc b02.size (.cells #[.nilIface] 20)
    have z02 := b02.size
    go_upto_region 9 with (at_builtin; refine wpl_appR rfl (.tmp 26) (.tmp 34) 80 rfl 20 .nilIface 1 16 Tryd.underlying80 any_info rfl (by omega) w.heap.size A1 j c1 _ (by rfl) o1a (w2.heap.size + 1) (some ⟨w2.heap.size, 0, none⟩) 1 1 [.nilIface] (by rfl) (one_reads (Blk.new w2 20 #[.nilIface])) (by intro u hu; simp at hu; subst hu; rfl) (by unfold maxLen; omega) (by omega) (by simp; omega) ?_; intro A3 c3 w3 o3 b3 g3 _)
    have b03 := ba.trans b3
    have o23 := own_own o2a o1a (by decide) g3
    go_upto_region 10 with fail
    obtain ⟨w4, hw4, hS, b4⟩ := box1c w3 #[.int .i64 0, .string ⟨#[]⟩, .int .i64 0] 90
    try rw [hw4]
    clear hw4
    have b04 := btr b03 b4 b03.size
    have o14 := own_below o3 b4
    have o24 := own_below o23 b4
    have k4 := (b04.cell (p := ⟨b, off + j, none⟩) hbl).trans kw
    have z03 := b03.size
    have z4 := b4.size
    go_upto_region 14 with fail
    have hS5 := hS
    have b05 := b04
    have o15 := o14
    have o25 := o24
    have r0 := hS5.cell 0
    have r1 := hS5.cell 1
    have r2 := hS5.cell 2
    have o1b := own_alloc o15 (.cells #[.int .i64 0, .string (⟨#[]⟩ : ByteArray), .int .i64 0] 90)
    have o2b := own_alloc o25 (.cells #[.int .i64 0, .string (⟨#[]⟩ : ByteArray), .int .i64 0] 90)
    have bb := b05.alloc b05.size (.cells #[.int .i64 0, .string (⟨#[]⟩ : ByteArray), .int .i64 0] 90)
    have z5 := b05.size
    clear k0 k4
    go_wp2_with (at_builtin; refine wpl_appR rfl (.tmp 62) (.tmp 64) 83 rfl 90 _ 3 32 Tryd.underlying83 tok_info rfl (by omega) w.heap.size A2 j c2 _ (by rfl) o2b (w4.heap.size + 1) (some ⟨w4.heap.size, 0, none⟩) 1 1 [.int .i64 0, .string (⟨#[]⟩ : ByteArray), .int .i64 0] (by rfl) (three_reads (Blk.new w4 90 _)) (by intro u hu; simp at hu; rcases hu with rfl | rfl | rfl <;> rfl) (by unfold maxLen; omega) (by omega) (by simp; omega) ?_; intro A6 c6 w6 o6 b6 g6 _)
    have o16 := own_own o1b o2b (by decide) g6
    go_roundw
    case rel => exact ⟨j + 1, A3, c3, A6, c6, by omega, by go_num, rfl, rfl, by rw [HA.out, HVV.out]; exact o16, by rw [HB.out, HTT.out]; exact o6, bb.trans b6⟩
    case measure => simp [intOf]; omega
end Go.Proofs.YtnhkpnohadbcdaaDoor
