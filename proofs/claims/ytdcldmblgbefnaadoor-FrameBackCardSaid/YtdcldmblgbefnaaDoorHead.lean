/- Walks of layer 7 (frame): a head. Conditions: the table of least lengths (LeaTab). -/
import Derived.Test.YtdcldmblgbefnaaDoorProg
import Derived.WalkKit
import Derived.WalkSpells
import Derived.WalkLawsBesides
import Derived.Outline
import Derived.Deep.QuietTactic
import Derived.BigQuiet
import Derived.Handy
import Derived.Lib.Hide
import Derived.Test.YtdcldmblgbefnaaDoorFrame
import Derived.Test.YtdcldmblgbefnaaDoorReaderTwo
namespace Go.Proofs.YtdcldmblgbefnaaDoor
open Go.RowKit
theorem flt_info : (Tryd.prog.info? 29).map (·.size) = some 3 := by kernel_rfl
theorem head_ret {fn : Func} {t u p : Tmp} (h : fn.results = #[.tmp t, .tmp u, .cell p 29]) (tmps : Array Value) (w : World) (g : Nat) (x y z : Value)
    (hp : tmps.getD p undef = .pointer (some ⟨g, 0, none⟩)) (hB : Blk w g 29 #[x, y, z]) :
    (results fn tmps).run Tryd.prog w = .ok (.tuple #[tmps.getD t undef, tmps.getD u undef, .agg #[x, y, z]]) w := by
  have hp' : tmps[p]?.getD undef = .pointer (some ⟨g, 0, none⟩) := by simpa using hp
  have := run_loadVar_row (P := Tryd.prog) w g 29 29 #[x, y, z] (0, 0) _ hB Tryd.underlying29 rfl flt_info
  simp [results, h, hp', asAddr, this]
theorem next_ret {fn : Func} {s t u p : Tmp} (h : fn.results = #[.tmp s, .tmp t, .tmp u, .cell p 29]) (tmps : Array Value) (w : World) (g : Nat) (x y z : Value)
    (hp : tmps.getD p undef = .pointer (some ⟨g, 0, none⟩)) (hB : Blk w g 29 #[x, y, z]) :
    (results fn tmps).run Tryd.prog w = .ok (.tuple #[tmps.getD s undef, tmps.getD t undef, tmps.getD u undef, .agg #[x, y, z]]) w := by
  have hp' : tmps[p]?.getD undef = .pointer (some ⟨g, 0, none⟩) := by simpa using hp
  have := run_loadVar_row (P := Tryd.prog) w g 29 29 #[x, y, z] (0, 0) _ hB Tryd.underlying29 rfl flt_info
  simp [results, h, hp', asAddr, this]
/-- What a head says: its length, its kind, its fault. -/
def hdN (l : List UInt8) : Int := 256 * (lb l 16 : Int) + lb l 17
def hdK (l : List UInt8) : Int := (lb l 18 : Int)
def hdMark (l : List UInt8) : Bool := (List.range 16).all fun i => lb l i == 255
theorem hdMark_iff (l : List UInt8) : hdMark l = true ↔ ∀ i, i < 16 → lb l i = 255 := by simp [hdMark]
def headR (l : List UInt8) : Int × Int × Int × Int × List UInt8 :=
  if hdMark l = false then (0, 0, 1, 1, [])
  else if hdN l < 19 ∨ 4096 < hdN l then (0, 0, 1, 2, (l.drop 16).take 2)
  else if leastOf (hdK l) = 0 then (0, 0, 1, 3, [ub (hdK l)])
  else if hdN l < leastOf (hdK l) ∨ (hdK l = 4 ∧ hdN l ≠ leastOf (hdK l)) then (0, 0, 1, 2, (l.drop 16).take 2)
  else (hdN l, hdK l, 0, 0, [])
def HdPost (w : World) (r : Int × Int × Int × Int × List UInt8) (e : Ending) (w' : World) : Prop := ∃ (A : Option Addr) (n c : Nat), e = .returned (.tuple #[.int .i64 r.1, .int .i64 r.2.1, .agg #[.int .i64 r.2.2.1, .int .i64 r.2.2.2.1, .slice A n c]]) ∧ BS w' w'.heap.size A n r.2.2.2.2 ∧ Below w.heap.size w w'
set_option maxHeartbeats 1000000 in
theorem frameFault (s : Int) (A : Option Addr) (n c : Nat) (w : World) :
    Calls Tryd.prog 100 #[.int .i64 s, .slice A n c] w fun en w' => en = .returned (.agg #[.int .i64 1, .int .i64 s, .slice A n c]) ∧ Below w.heap.size w w' := by
  go_enter Tryd.func100, Tryd.ntmps100
  go_wp2
  all_goals go_returns
  all_goals exact ⟨by simp, (by repeat' (first | (with_reducible exact Below.refl _ _) | (with_reducible assumption) | (with_reducible refine below_drewN ?_ _) | (with_reducible refine Below.drew ?_) | (with_reducible refine Below.alloc ?_ ?_ _) | (with_reducible refine Below.setCell ?_ ?_ _) | go_size))⟩
theorem numL2 {l : List UInt8} (h : 18 ≤ l.length) : ((numL ((l.drop 16).take 2) : Nat) : Int) = hdN l := by
  have e : (l.drop 16).take 2 = [l[16], l[17]] := by
    rw [List.drop_eq_getElem_cons (by omega), List.drop_eq_getElem_cons (by omega)]
    rfl
  rw [e, numL_cons, numL_cons, hdN, lb_eq l 16 (by omega), lb_eq l 17 (by omega)]
  simp [numL]
  omega
theorem numL1 {l : List UInt8} (h : 19 ≤ l.length) : ((numL ((l.drop 18).take 1) : Nat) : Int) = hdK l := by
  have e : (l.drop 18).take 1 = [l[18]] := by
    rw [List.drop_eq_getElem_cons (by omega)]
    rfl
  rw [e, numL_cons, hdK, lb_eq l 18 (by omega)]
  simp [numL]
theorem Blk.at_ {w w' : World} {g k : Nat} {t : TypeId} {cs : Array Value} (h : Blk w k t cs) (hg : w.grownBy w' (some g)) (hne : k < g) : Blk w' k t cs := h.grown hg (by intro e; injection e; omega)
theorem LeaTab.at2 {w w' : World} {g : Nat} (h : LeaTab w) (hg : w.grownBy w' (some g)) (hne : 2 < g) : LeaTab w' := by
  have hlt := h.lt
  obtain ⟨t, fr, h⟩ := h
  exact ⟨t, fr, (hg.block _ hlt (fun e => by injection e; omega)).trans h⟩
theorem lb_take (l : List UInt8) (k j : Nat) (h : j < k) : lb (l.take k) j = lb l j := by
  unfold lb
  rw [List.getElem?_take]
  split
  · rfl
  · omega
set_option maxHeartbeats 1000000 in
set_option maxRecDepth 100000 in
theorem frameHead (A : Option Addr) (n c : Nat) (l : List UInt8) (w : World) (ht : LeaTab w) (h : BS w w.heap.size A n l) (hnc : n ≤ c) (hn : n = 19) :
    Calls Tryd.prog 93 #[.slice A n c] w (HdPost w (headR l)) := by
  subst hn
  have hl := h.len
  have b0 := (Below.refl w.heap.size w).alloc (Nat.le_refl _) (.cells #[.int .i64 0, .int .i64 0, .slice none 0 0] 29)
  have hB0 := Blk.new w 29 #[.int .i64 0, .int .i64 0, .slice none 0 0]
  have T1 := tk_ok (l := l) (k := 16) (by omega)
  have T2 := tk_ok (l := l.drop 16) (k := 2) (by simp; omega)
  have T3 := tk_ok (l := l.drop 18) (k := 1) (by simp; omega)
  have E2 : (l.drop 16).drop 2 = l.drop 18 := by rw [List.drop_drop]
  rw [E2] at T2
  have HT1 := Lib.hid T1
  have HT2 := Lib.hid T2
  have HT3 := Lib.hid T3
  have HN := Lib.hid (numL2 (l := l) (by omega))
  have HK := Lib.hid (numL1 (l := l) (by omega))
  have HL := Lib.hid hl
  clear T1 T2 T3 E2 hl
  go_enter Tryd.func93, Tryd.ntmps93
  go_wp2_with fail
  refine (readerNew A 19 c l _ (h.call b0) (by omega)).mono ?_
  rintro _ w1 ⟨g, rfl, hg, r1, b1⟩
  have b01 := btr b0 b1 b0.size
  have hB1 := hB0.below b1 (by simp)
  have hgw : w.heap.size < g := by simp at hg; omega
  go_wp2_with fail
  refine (readerTake g l false 16 _ r1 (by rw [← HL.out]; omega)).mono ?_
  rintro _ w2 ⟨A2, n2, c2, rfl, o2, r2, g2⟩
  have e16 : ((16 : Nat) : Int) = 16 := rfl
  rw [← e16, HT1.out.1] at o2
  rw [← e16, HT1.out.2.1, HT1.out.2.2] at r2
  have b02 := below_at b01 g2 b01.size (by omega)
  have hB2 := hB1.at_ g2 hgw
  have hn2 : n2 = 16 := by rw [o2.1, List.length_take, ← HL.out]; rfl
  subst hn2
  have hc0 := hB2.cell 0
  have hc1 := hB2.cell 1
  have hc2 := hB2.cell 2
  have f0 := hB2.frozen 0
  have f1 := hB2.frozen 1
  have f2 := hB2.frozen 2
  go_wp2_with fail
  go_loop [16] (fun i => ∃ j : Nat, j ≤ 16 ∧ i = .int .i64 j ∧ Hid (∀ k, k < j → lb l k = 255)) (fun i => 16 - (intOf i).toNat)
  case atStart => exact ⟨0, by omega, rfl, Lib.hid (fun k hk => by omega)⟩
  case round =>
    obtain ⟨j, hj, rfl, hall⟩ := hrel
    by_cases hlt : j < 16
    · obtain ⟨b, off, rfl, hbw, hcw⟩ := o2.bs.form hlt
      have hlti : (j : Int) < 16 := by omega
      rw [lb_take l 16 j hlt] at hcw
      obtain ⟨v, hv⟩ : ∃ v, lb l j = v := ⟨_, rfl⟩
      rw [hv] at hcw
      have HV := Lib.hid hv
      clear hv
      by_cases hv : v = 255
      · subst hv
        go_wp2_with fail
        go_round
        case rel =>
          refine ⟨j + 1, by omega, by go_num, Lib.hid fun k hk => ?_⟩
          rcases Nat.lt_or_ge k j with h1 | h1
          · exact hall.out k h1
          · have : k = j := by omega
            rw [this]; exact HV.out
        case measure => simp [intOf]; omega
      · have ht2 : ((v : Int) != 255) = true := by simpa using (by omega : ¬ (v : Int) = 255)
        have HR := Lib.hid (show headR l = (0, 0, 1, 1, []) by
          rw [headR, if_pos]
          cases hm : hdMark l
          · rfl
          · exact absurd (HV.out.symm.trans ((hdMark_iff l).1 hm j hlt)) hv)
        go_wp2_with fail
        refine (frameFault 1 none 0 0 _).mono ?_
        rintro _ w3 ⟨rfl, b3⟩
        have hB3 := hB2.below b3 hB2.lt
        have b03 := btr b02 b3 b02.size
        have hc0 := hB3.cell 0
        have hc1 := hB3.cell 1
        have hc2 := hB3.cell 2
        have f0 := hB3.frozen 0
        have f1 := hB3.frozen 1
        have f2 := hB3.frozen 2
        go_wp2_with fail
        have hBf := ((hB3.set_ 0 (.int .i64 1)).set_ 1 (.int .i64 1)).set_ 2 (.slice none 0 0)
        have bf := ((b03.setCell (p := ⟨w.heap.size, 0, none⟩) (Nat.le_refl _) (.int .i64 1)).setCell (p := ⟨w.heap.size, 1, none⟩) (Nat.le_refl _) (.int .i64 1)).setCell (p := ⟨w.heap.size, 2, none⟩) (Nat.le_refl _) (.slice none 0 0)
        refine bodyPost_ret (head_ret rfl _ _ w.heap.size (.int .i64 1) (.int .i64 1) (.slice none 0 0) rfl (by simpa using hBf)) rfl ?_
        rw [HR.out]
        exact ⟨none, 0, 0, rfl, BS.none_, bf⟩
    · obtain rfl : j = 16 := by omega
      have hmark : hdMark l = true := (hdMark_iff l).2 hall.out
      have hm2 : ¬ hdMark l = false := by rw [hmark]; simp
      have hN0 : 0 ≤ hdN l ∧ hdN l ≤ 65535 := by
        have := lb_lt l 16
        have := lb_lt l 17
        unfold hdN
        omega
      have hK0 : 0 ≤ hdK l ∧ hdK l ≤ 255 := by
        have := lb_lt l 18
        unfold hdK
        omega
      have HR0 := Lib.hid (show headR l = (if hdN l < 19 ∨ 4096 < hdN l then (0, 0, 1, 2, (l.drop 16).take 2)
        else if leastOf (hdK l) = 0 then (0, 0, 1, 3, [ub (hdK l)])
        else if hdN l < leastOf (hdK l) ∨ (hdK l = 4 ∧ hdN l ≠ leastOf (hdK l)) then (0, 0, 1, 2, (l.drop 16).take 2)
        else (hdN l, hdK l, 0, 0, [])) by rw [headR, if_neg hm2])
      clear hmark hm2
      obtain ⟨N, hN⟩ : ∃ N, hdN l = N := ⟨_, rfl⟩
      obtain ⟨K, hK⟩ : ∃ K, hdK l = K := ⟨_, rfl⟩
      obtain ⟨Y, hY⟩ : ∃ Y, leastOf K = Y := ⟨_, rfl⟩
      rw [hN, hK, hY] at HR0
      rw [hN] at hN0
      rw [hK] at hK0
      have HN2 := Lib.hid (HN.out.trans hN)
      have HK2 := Lib.hid (HK.out.trans hK)
      have HY := Lib.hid hY
      clear hN hK hY
      obtain ⟨hN1, hN2⟩ := hN0
      obtain ⟨hK1, hK2⟩ := hK0
      obtain ⟨b, off, rfl, hbw, _⟩ := h.form (k := 0) (by omega)
      have hD := (h.drop_ (k := 16) (by omega) hnc).take_ (k := 2) (by omega)
      rw [if_neg (by omega)] at hD
      have HD := Lib.hid hD
      clear hD
      have h18 : (18 : Int) ≤ c := by omega
      have hc16 : ¬ c = 16 := by omega
      have hu8 : IntKind.u8.wrap K = K := IntWalk.u8_in _ ⟨by omega, by omega⟩
      have hll := Lib.hid (show (l.drop 18).length ≤ 100000 by simp [← HL.out])
      have hll2 := Lib.hid (show (l.drop 16).length ≤ 100000 by simp [← HL.out])
      go_wp2_with fail
      refine (readerU16 g (l.drop 16) false _ r2 hll2.out).mono ?_
      rw [HT2.out.1, HT2.out.2.1, HT2.out.2.2, HN2.out]
      rintro _ w3 ⟨rfl, r3, g3⟩
      have b03 := below_at b02 g3 b02.size (by omega)
      have hB3 := hB2.at_ g3 hgw
      go_wp2_with fail
      refine (readerByte g (l.drop 18) false _ r3 hll.out).mono ?_
      rw [HT3.out.1, HT3.out.2.1, HT3.out.2.2, HK2.out]
      rintro _ w4 ⟨rfl, r4, g4⟩
      have b04 := below_at b03 g4 b03.size (by omega)
      have hB4 := hB3.at_ g4 hgw
      have ht4 := ht.call b04
      go_wp2_with fail
      refine (frameLeast K _ ht4).mono ?_
      rw [HY.out]
      rintro _ _ ⟨rfl, rfl⟩
      by_cases c1 : N < 19
      · have HR := Lib.hid (show headR l = (0, 0, 1, 2, (l.drop 16).take 2) by rw [HR0.out, if_pos (.inl c1)])
        go_wp2_with fail
        refine (frameFault 2 _ 2 _ _).mono ?_
        rintro _ w5 ⟨rfl, b5⟩
        have b05 := btr b04 b5 b04.size
        have hB5 := hB4.below b5 hB4.lt
        have hc0 := hB5.cell 0
        have hc1 := hB5.cell 1
        have hc2 := hB5.cell 2
        have f0 := hB5.frozen 0
        have f1 := hB5.frozen 1
        have f2 := hB5.frozen 2
        go_wp2_with fail
        have hBf := ((hB5.set_ 0 (.int .i64 1)).set_ 1 (.int .i64 2)).set_ 2 (.slice (some ⟨b, off + 16, none⟩) 2 (c - 16))
        have bf := ((b05.setCell (p := ⟨w.heap.size, 0, none⟩) (Nat.le_refl _) (.int .i64 1)).setCell (p := ⟨w.heap.size, 1, none⟩) (Nat.le_refl _) (.int .i64 2)).setCell (p := ⟨w.heap.size, 2, none⟩) (Nat.le_refl _) (.slice (some ⟨b, off + 16, none⟩) 2 (c - 16))
        refine bodyPost_ret (head_ret rfl _ _ w.heap.size (.int .i64 1) (.int .i64 2) (.slice (some ⟨b, off + 16, none⟩) 2 (c - 16)) rfl (by simpa using hBf)) rfl ?_
        rw [HR.out]
        exact ⟨_, _, _, rfl, (HD.out.below bf).more bf.size, bf⟩
      by_cases c2 : 4096 < N
      · have HR := Lib.hid (show headR l = (0, 0, 1, 2, (l.drop 16).take 2) by rw [HR0.out, if_pos (.inr c2)])
        go_wp2_with fail
        refine (frameFault 2 _ 2 _ _).mono ?_
        rintro _ w5 ⟨rfl, b5⟩
        have b05 := btr b04 b5 b04.size
        have hB5 := hB4.below b5 hB4.lt
        have hc0 := hB5.cell 0
        have hc1 := hB5.cell 1
        have hc2 := hB5.cell 2
        have f0 := hB5.frozen 0
        have f1 := hB5.frozen 1
        have f2 := hB5.frozen 2
        go_wp2_with fail
        have hBf := ((hB5.set_ 0 (.int .i64 1)).set_ 1 (.int .i64 2)).set_ 2 (.slice (some ⟨b, off + 16, none⟩) 2 (c - 16))
        have bf := ((b05.setCell (p := ⟨w.heap.size, 0, none⟩) (Nat.le_refl _) (.int .i64 1)).setCell (p := ⟨w.heap.size, 1, none⟩) (Nat.le_refl _) (.int .i64 2)).setCell (p := ⟨w.heap.size, 2, none⟩) (Nat.le_refl _) (.slice (some ⟨b, off + 16, none⟩) 2 (c - 16))
        refine bodyPost_ret (head_ret rfl _ _ w.heap.size (.int .i64 1) (.int .i64 2) (.slice (some ⟨b, off + 16, none⟩) 2 (c - 16)) rfl (by simpa using hBf)) rfl ?_
        rw [HR.out]
        exact ⟨_, _, _, rfl, (HD.out.below bf).more bf.size, bf⟩
      by_cases c3 : Y = 0
      · have HR := Lib.hid (show headR l = (0, 0, 1, 3, [ub K]) by rw [HR0.out, if_neg (by omega), if_pos c3])
        have hy : (Y == 0) = true := by simpa using c3
        clear c3
        go_wp2_with fail
        refine (frameFault 3 _ 1 _ _).mono ?_
        rintro _ w5 ⟨rfl, b5⟩
        have b45 := b04.alloc b04.size (.cells #[.int .u8 K] 5)
        have b05 := btr b45 b5 b45.size
        have hB5 := (hB4.alloc (.cells #[.int .u8 K] 5)).below b5 (hB4.alloc (.cells #[.int .u8 K] 5)).lt
        have hD5 := ((BS.one w4 5 K hK1 hK2).more (B' := (w4.alloc (.cells #[.int .u8 K] 5)).heap.size) (by simp)).call b5
        have hc0 := hB5.cell 0
        have hc1 := hB5.cell 1
        have hc2 := hB5.cell 2
        have f0 := hB5.frozen 0
        have f1 := hB5.frozen 1
        have f2 := hB5.frozen 2
        go_wp2_with fail
        have hBf := ((hB5.set_ 0 (.int .i64 1)).set_ 1 (.int .i64 3)).set_ 2 (.slice (some ⟨w4.heap.size, 0, none⟩) 1 1)
        have bf := ((b05.setCell (p := ⟨w.heap.size, 0, none⟩) (Nat.le_refl _) (.int .i64 1)).setCell (p := ⟨w.heap.size, 1, none⟩) (Nat.le_refl _) (.int .i64 3)).setCell (p := ⟨w.heap.size, 2, none⟩) (Nat.le_refl _) (.slice (some ⟨w4.heap.size, 0, none⟩) 1 1)
        have hgf := only_setCell (only_setCell (only_setCell (World.grownBy.refl w5 (some w.heap.size)) (p := ⟨w.heap.size, 0, none⟩) (.inl rfl) (.int .i64 1)) (p := ⟨w.heap.size, 1, none⟩) (.inl rfl) (.int .i64 3)) (p := ⟨w.heap.size, 2, none⟩) (.inl rfl) (.slice (some ⟨w4.heap.size, 0, none⟩) 1 1)
        refine bodyPost_ret (head_ret rfl _ _ w.heap.size (.int .i64 1) (.int .i64 3) (.slice (some ⟨w4.heap.size, 0, none⟩) 1 1) rfl (by simpa using hBf)) rfl ?_
        rw [HR.out]
        exact ⟨_, _, _, rfl, hD5.grownAt hgf (fun _ ad e => by injection e with e; subst e; have := b04.size; have := hB4.lt; show w4.heap.size ≠ _; omega), bf⟩
      have hy : (Y == 0) = false := by simpa using c3
      by_cases c4 : N < Y
      · have HR := Lib.hid (show headR l = (0, 0, 1, 2, (l.drop 16).take 2) by rw [HR0.out, if_neg (by omega), if_neg c3, if_pos (.inl c4)])
        go_wp2_with fail
        refine (frameFault 2 _ 2 _ _).mono ?_
        rintro _ w5 ⟨rfl, b5⟩
        have b05 := btr b04 b5 b04.size
        have hB5 := hB4.below b5 hB4.lt
        have hc0 := hB5.cell 0
        have hc1 := hB5.cell 1
        have hc2 := hB5.cell 2
        have f0 := hB5.frozen 0
        have f1 := hB5.frozen 1
        have f2 := hB5.frozen 2
        go_wp2_with fail
        have hBf := ((hB5.set_ 0 (.int .i64 1)).set_ 1 (.int .i64 2)).set_ 2 (.slice (some ⟨b, off + 16, none⟩) 2 (c - 16))
        have bf := ((b05.setCell (p := ⟨w.heap.size, 0, none⟩) (Nat.le_refl _) (.int .i64 1)).setCell (p := ⟨w.heap.size, 1, none⟩) (Nat.le_refl _) (.int .i64 2)).setCell (p := ⟨w.heap.size, 2, none⟩) (Nat.le_refl _) (.slice (some ⟨b, off + 16, none⟩) 2 (c - 16))
        refine bodyPost_ret (head_ret rfl _ _ w.heap.size (.int .i64 1) (.int .i64 2) (.slice (some ⟨b, off + 16, none⟩) 2 (c - 16)) rfl (by simpa using hBf)) rfl ?_
        rw [HR.out]
        exact ⟨_, _, _, rfl, (HD.out.below bf).more bf.size, bf⟩
      by_cases c5 : K = 4 ∧ N ≠ Y
      · obtain ⟨c6, c7⟩ := c5
        have hk4 : (K == 4) = true := by simpa using c6
        have hny : (N != Y) = true := by simpa using c7
        have HR := Lib.hid (show headR l = (0, 0, 1, 2, (l.drop 16).take 2) by rw [HR0.out, if_neg (by omega), if_neg c3, if_pos (.inr ⟨c6, c7⟩)])
        clear c6 c7
        go_wp2_with fail
        refine (frameFault 2 _ 2 _ _).mono ?_
        rintro _ w5 ⟨rfl, b5⟩
        have b05 := btr b04 b5 b04.size
        have hB5 := hB4.below b5 hB4.lt
        have hc0 := hB5.cell 0
        have hc1 := hB5.cell 1
        have hc2 := hB5.cell 2
        have f0 := hB5.frozen 0
        have f1 := hB5.frozen 1
        have f2 := hB5.frozen 2
        go_wp2_with fail
        have hBf := ((hB5.set_ 0 (.int .i64 1)).set_ 1 (.int .i64 2)).set_ 2 (.slice (some ⟨b, off + 16, none⟩) 2 (c - 16))
        have bf := ((b05.setCell (p := ⟨w.heap.size, 0, none⟩) (Nat.le_refl _) (.int .i64 1)).setCell (p := ⟨w.heap.size, 1, none⟩) (Nat.le_refl _) (.int .i64 2)).setCell (p := ⟨w.heap.size, 2, none⟩) (Nat.le_refl _) (.slice (some ⟨b, off + 16, none⟩) 2 (c - 16))
        refine bodyPost_ret (head_ret rfl _ _ w.heap.size (.int .i64 1) (.int .i64 2) (.slice (some ⟨b, off + 16, none⟩) 2 (c - 16)) rfl (by simpa using hBf)) rfl ?_
        rw [HR.out]
        exact ⟨_, _, _, rfl, (HD.out.below bf).more bf.size, bf⟩
      by_cases c6 : K = 4
      · have c7 : N = Y := Classical.byContradiction fun hh => c5 ⟨c6, hh⟩
        have hk4 : (K == 4) = true := by simpa using c6
        have hny : (N != Y) = false := by simpa using c7
        have HR := Lib.hid (show headR l = (N, K, 0, 0, []) by rw [HR0.out, if_neg (by omega), if_neg c3, if_neg (by omega)])
        have hc0 := hB4.cell 0
        have hc1 := hB4.cell 1
        have hc2 := hB4.cell 2
        have f0 := hB4.frozen 0
        have f1 := hB4.frozen 1
        have f2 := hB4.frozen 2
        clear c5 c6 c7
        go_wp2_with fail
        have hBf := ((hB4.set_ 0 (.int .i64 0)).set_ 1 (.int .i64 0)).set_ 2 (.slice none 0 0)
        have bf := ((b04.setCell (p := ⟨w.heap.size, 0, none⟩) (Nat.le_refl _) (.int .i64 0)).setCell (p := ⟨w.heap.size, 1, none⟩) (Nat.le_refl _) (.int .i64 0)).setCell (p := ⟨w.heap.size, 2, none⟩) (Nat.le_refl _) (.slice none 0 0)
        refine bodyPost_ret (head_ret rfl _ _ w.heap.size (.int .i64 0) (.int .i64 0) (.slice none 0 0) rfl (by first | simpa using hBf | simpa using hB4)) rfl ?_
        rw [HR.out]
        exact ⟨none, 0, 0, rfl, BS.none_, bf⟩
      have hk4 : (K == 4) = false := by simpa using c6
      have HR := Lib.hid (show headR l = (N, K, 0, 0, []) by rw [HR0.out, if_neg (by omega), if_neg c3, if_neg (by omega)])
      have hc0 := hB4.cell 0
      have hc1 := hB4.cell 1
      have hc2 := hB4.cell 2
      have f0 := hB4.frozen 0
      have f1 := hB4.frozen 1
      have f2 := hB4.frozen 2
      go_wp2_with fail
      have hBf := ((hB4.set_ 0 (.int .i64 0)).set_ 1 (.int .i64 0)).set_ 2 (.slice none 0 0)
      have bf := ((b04.setCell (p := ⟨w.heap.size, 0, none⟩) (Nat.le_refl _) (.int .i64 0)).setCell (p := ⟨w.heap.size, 1, none⟩) (Nat.le_refl _) (.int .i64 0)).setCell (p := ⟨w.heap.size, 2, none⟩) (Nat.le_refl _) (.slice none 0 0)
      refine bodyPost_ret (head_ret rfl _ _ w.heap.size (.int .i64 0) (.int .i64 0) (.slice none 0 0) rfl (by first | simpa using hBf | simpa using hB4)) rfl ?_
      rw [HR.out]
      exact ⟨none, 0, 0, rfl, BS.none_, bf⟩
end Go.Proofs.YtdcldmblgbefnaaDoor
